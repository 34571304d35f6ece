/- What the claim stands on, part 8. Of own lemmas only those that it reaches. -/
import Derived.Test.YtbcbfjnlnmhpbaaGreatKy7
set_option linter.unusedVariables false
set_option linter.unusedSimpArgs false
set_option maxHeartbeats 400000
namespace Go.Proofs.YtbcbfjnlnmhpbaaGreat
open Go Go.X
abbrev CRows := List (ByteArray × List Int)
abbrev CKeys := List (Int × ByteArray)
def addC (rows : CRows) (k : ByteArray) (id : Int) : CRows := putM rows k (mkRow ((lookM rows k).getD [] ++ [id]))
def cutC (rows : CRows) (k : ByteArray) (id : Int) : CRows := if cutRow ((lookM rows k).getD []) id = [] then cutM (putM rows k (cutRow ((lookM rows k).getD []) id)) k else putM rows k (cutRow ((lookM rows k).getD []) id)
def dropC (c : CRows × CKeys) (id : Int) : CRows × CKeys := match lookM c.2 id with
  | none => c
  | some k => (cutC c.1 k id, cutM c.2 id)
def putC (c : CRows × CKeys) (id : Int) (s : Bool) (k : ByteArray) : CRows × CKeys := if s = true then (addC (dropC c id).1 k id, putM (dropC c id).2 id k) else dropC c id
structure CI (c : CRows × CKeys) : Prop where
  nk : (c.2.map (·.1)).Nodup
  nr : (c.1.map (·.1)).Nodup
  row : ∀ t ∈ c.1, Ris t.2 ∧ t.2 ≠ []
  mem : ∀ k id, id ∈ (lookM c.1 k).getD [] ↔ lookM c.2 id = some k
theorem CI.nil : CI ([], []) := ⟨by simp, by simp, by simp, by simp [lookM, placeM]⟩
theorem lookC_add (rows : CRows) (k k' : ByteArray) (id j : Int) : j ∈ (lookM (addC rows k id) k').getD [] ↔ j ∈ (lookM rows k').getD [] ∨ j = id ∧ k' = k := by
  unfold addC
  rw [lookM_putM]
  by_cases hk : k' = k
  · subst hk; simp [mem_mkRow]
  · rw [if_neg hk]; simp [hk]
theorem lookC_cut {rows : CRows} (h : (rows.map (·.1)).Nodup) (k k' : ByteArray) (id j : Int) : j ∈ (lookM (cutC rows k id) k').getD [] ↔ j ∈ (lookM rows k').getD [] ∧ ¬ (j = id ∧ k' = k) := by
  have hp := putM_nodup (k := k) (v := cutRow ((lookM rows k).getD []) id) h
  have e : (lookM (cutC rows k id) k').getD [] = if k' = k then cutRow ((lookM rows k).getD []) id else (lookM rows k').getD [] := by
    unfold cutC
    split
    · rename_i h0
      rw [lookM_cutM hp, lookM_putM]
      split
      · simp [h0]
      · rfl
    · rw [lookM_putM]
      split <;> rfl
  rw [e]
  by_cases hk : k' = k
  · subst hk; simp [mem_cutRow]
  · rw [if_neg hk]; simp [hk]
theorem addC_rows {rows : CRows} (hr : ∀ t ∈ rows, Ris t.2 ∧ t.2 ≠ []) (k : ByteArray) (id : Int) : ∀ t ∈ addC rows k id, Ris t.2 ∧ t.2 ≠ [] := fun t ht => by
  rcases mem_putM ht with h1 | rfl
  · exact hr t h1
  · exact ⟨mkRow_ris _, mkRow_ne (x := id) (by simp)⟩
theorem cutC_rows {rows : CRows} (hn : (rows.map (·.1)).Nodup) (hr : ∀ t ∈ rows, Ris t.2 ∧ t.2 ≠ []) (k : ByteArray) (id : Int) : ((cutC rows k id).map (·.1)).Nodup ∧ ∀ t ∈ cutC rows k id, Ris t.2 ∧ t.2 ≠ [] := by
  have hp := putM_nodup (k := k) (v := cutRow ((lookM rows k).getD []) id) hn
  unfold cutC
  split
  · refine ⟨cutM_nodup hp, fun t ht => ?_⟩
    obtain ⟨h1, h2⟩ := (mem_cutM hp).1 ht
    rcases mem_putM h1 with h3 | rfl
    · exact hr t h3
    · exact absurd rfl h2
  · rename_i hne
    refine ⟨hp, fun t ht => ?_⟩
    rcases mem_putM ht with h3 | rfl
    · exact hr t h3
    · exact ⟨cutRow_ris _ _, hne⟩
theorem dropC_look {c : CRows × CKeys} (h : CI c) (id j : Int) : lookM (dropC c id).2 j = if j = id then none else lookM c.2 j := by
  unfold dropC
  cases hk : lookM c.2 id with
  | none =>
    simp only
    split
    · rename_i e; rw [e]; exact hk
    · rfl
  | some k => exact lookM_cutM h.nk
theorem CI.drop {c : CRows × CKeys} (h : CI c) (id : Int) : CI (dropC c id) := by
  have hl := dropC_look h id
  unfold dropC at hl ⊢
  cases hk : lookM c.2 id with
  | none => exact h
  | some k =>
    rw [hk] at hl
    obtain ⟨h1, h2⟩ := cutC_rows h.nr h.row k id
    refine ⟨cutM_nodup h.nk, h1, h2, fun k' j => ?_⟩
    have h3 := hl j
    simp only at h3 ⊢
    rw [lookC_cut h.nr, h.mem, h3]
    by_cases e : j = id
    · subst e
      rw [hk]
      simp only [true_and, if_true, Option.some.injEq, reduceCtorEq, iff_false]
      intro hh
      exact hh.2 hh.1.symm
    · simp [e]
theorem putC_look {c : CRows × CKeys} (h : CI c) (id : Int) (s : Bool) (k : ByteArray) (j : Int) : lookM (putC c id s k).2 j = if j = id then (if s = true then some k else none) else lookM c.2 j := by
  unfold putC
  cases s with
  | true =>
    simp only [if_true]
    rw [lookM_putM, dropC_look h]
    by_cases e : j = id <;> simp [e]
  | false =>
    simp only [Bool.false_eq_true, if_false]
    rw [dropC_look h]
theorem CI.put {c : CRows × CKeys} (h : CI c) (id : Int) (s : Bool) (k : ByteArray) : CI (putC c id s k) := by
  have hd := h.drop id
  have hl := putC_look h id s k
  unfold putC at hl ⊢
  cases s with
  | false => exact hd
  | true =>
    simp only [if_true] at hl ⊢
    refine ⟨putM_nodup hd.nk, putM_nodup hd.nr, addC_rows hd.row _ _, fun k' j => ?_⟩
    have h3 := hl j
    simp only at h3 ⊢
    rw [lookC_add, hd.mem, h3, dropC_look h]
    by_cases e : j = id
    · subst e; simp [eq_comm]
    · simp [e]
def CB (c : CRows × CKeys) (B : Nat) : Prop := (∀ t ∈ c.1, t.2.length ≤ B) ∧ c.2.length ≤ B
theorem CB.nil : CB ([], []) 0 := ⟨by simp, by simp⟩
theorem CB.mono {c : CRows × CKeys} {B B' : Nat} (h : CB c B) (hB : B ≤ B') : CB c B' := ⟨fun t ht => Nat.le_trans (h.1 t ht) hB, Nat.le_trans h.2 hB⟩
theorem CB.look {c : CRows × CKeys} {B : Nat} (h : CB c B) (k : ByteArray) : ((lookM c.1 k).getD []).length ≤ B := by
  cases hl : lookM c.1 k with
  | none => simp
  | some a => exact h.1 _ (lookM_mem hl)
theorem cutM_len {κ α : Type} [DecidableEq κ] (k : κ) (l : List (κ × α)) : (cutM l k).length ≤ l.length := (cutM_sub k l).length_le
theorem CB.drop {c : CRows × CKeys} {B : Nat} (h : CB c B) (id : Int) : CB (dropC c id) B := by
  unfold dropC
  cases hk : lookM c.2 id with
  | none => exact h
  | some k =>
    refine ⟨fun t ht => ?_, Nat.le_trans (cutM_len _ _) h.2⟩
    have hp : ∀ t ∈ putM c.1 k (cutRow ((lookM c.1 k).getD []) id), t.2.length ≤ B := fun t ht => by
      rcases mem_putM ht with h1 | rfl
      · exact h.1 t h1
      · exact Nat.le_trans (cutRow_le _ _) (h.look k)
    simp only [cutC] at ht
    split at ht
    · exact hp t (mem_cutM' ht)
    · exact hp t ht
theorem CB.put {c : CRows × CKeys} {B : Nat} (h : CB c B) (id : Int) (s : Bool) (k : ByteArray) : CB (putC c id s k) (B + 1) := by
  have hd := h.drop id
  unfold putC
  cases s with
  | false => exact ⟨fun t ht => Nat.le_succ_of_le (hd.1 t ht), Nat.le_succ_of_le hd.2⟩
  | true =>
    simp only [if_true]
    refine ⟨fun t ht => ?_, ?_⟩
    · rcases mem_putM ht with h1 | rfl
      · exact Nat.le_succ_of_le (hd.1 t h1)
      · have h1 := mkRow_le ((lookM (dropC c id).1 k).getD [] ++ [id])
        have h2 := hd.look k
        simp at h1 ⊢
        omega
    · have h2 := hd.2
      rw [putM_len]
      split <;> omega
end Go.Proofs.YtbcbfjnlnmhpbaaGreat
set_option linter.unusedVariables false
set_option linter.unusedSimpArgs false
set_option maxHeartbeats 400000
namespace Go.Proofs.YtbcbfjnlnmhpbaaGreat
open Go Go.X
section
variable {α : Type} (idf : α → Int) (src : α → Bool) (key : α → ByteArray)
def leftA (all : List α) (id : Int) : List α := all.filter fun a => decide (idf a ≠ id)
structure CR (c : CRows × CKeys) (all : List α) : Prop where
  ci : CI c
  nd : (all.map idf).Nodup
  look : ∀ id k, lookM c.2 id = some k ↔ ∃ a ∈ all, idf a = id ∧ src a = true ∧ key a = k
end
section
variable {α : Type} {idf : α → Int} {src : α → Bool} {key : α → ByteArray} {c : CRows × CKeys} {all : List α}
theorem CR.nil : CR idf src key ([], []) [] := ⟨CI.nil, by simp, by simp [lookM, placeM]⟩
theorem mem_leftA {id : Int} {a : α} : a ∈ leftA idf all id ↔ a ∈ all ∧ idf a ≠ id := by simp [leftA]
theorem leftA_nd (h : (all.map idf).Nodup) (id : Int) : ((leftA idf all id).map idf).Nodup := h.sublist (List.filter_sublist.map _)
theorem CR.drop (h : CR idf src key c all) (id : Int) : CR idf src key (dropC c id) (leftA idf all id) := by
  refine ⟨h.ci.drop id, leftA_nd h.nd id, fun j k => ?_⟩
  rw [dropC_look h.ci]
  by_cases e : j = id
  · rw [if_pos e]
    simp only [reduceCtorEq, false_iff]
    rintro ⟨a, ha, e1, _⟩
    exact (mem_leftA.1 ha).2 (e1.trans e)
  · rw [if_neg e, h.look]
    constructor
    · rintro ⟨a, ha, e1, e2⟩
      exact ⟨a, mem_leftA.2 ⟨ha, fun e3 => e (e1 ▸ e3)⟩, e1, e2⟩
    · rintro ⟨a, ha, e1, e2⟩
      exact ⟨a, (mem_leftA.1 ha).1, e1, e2⟩
theorem CR.put (h : CR idf src key c all) (a : α) : CR idf src key (putC c (idf a) (src a) (key a)) (leftA idf all (idf a) ++ [a]) := by
  refine ⟨h.ci.put _ _ _, ?_, fun j k => ?_⟩
  · rw [List.map_append, List.nodup_append]
    refine ⟨leftA_nd h.nd _, by simp, fun x hx y hy e => ?_⟩
    simp only [List.map_cons, List.map_nil, List.mem_singleton] at hy
    obtain ⟨b, hb, e2⟩ := List.mem_map.1 hx
    exact (mem_leftA.1 hb).2 (e2.trans (e.trans hy))
  · rw [putC_look h.ci]
    by_cases e : j = idf a
    · subst e
      simp only [if_true]
      constructor
      · intro h1
        cases hs : src a with
        | false => rw [hs] at h1; simp at h1
        | true =>
          rw [hs] at h1
          simp only [if_true, Option.some.injEq] at h1
          exact ⟨a, by simp, rfl, hs, h1⟩
      · rintro ⟨b, hb, e1, e2, e3⟩
        rcases List.mem_append.1 hb with hb | hb
        · exact absurd e1 (mem_leftA.1 hb).2
        · rw [List.mem_singleton] at hb
          subst hb
          rw [if_pos e2, e3]
    · rw [if_neg e, h.look]
      constructor
      · rintro ⟨b, hb, e1, e2⟩
        exact ⟨b, List.mem_append_left _ (mem_leftA.2 ⟨hb, fun e3 => e (e1 ▸ e3)⟩), e1, e2⟩
      · rintro ⟨b, hb, e1, e2⟩
        rcases List.mem_append.1 hb with hb | hb
        · exact ⟨b, (mem_leftA.1 hb).1, e1, e2⟩
        · rw [List.mem_singleton] at hb
          exact absurd (hb ▸ e1).symm e
def rowC (c : CRows × CKeys) (k : ByteArray) : List Int := mkRow ((lookM c.1 k).getD [])
theorem rowC_ris (c : CRows × CKeys) (k : ByteArray) : Ris (rowC c k) := mkRow_ris _
theorem CI.mem_row (h : CI c) (k : ByteArray) (j : Int) : j ∈ rowC c k ↔ lookM c.2 j = some k := by unfold rowC; rw [mem_mkRow, h.mem]
theorem CR.mem_row (h : CR idf src key c all) (k : ByteArray) (j : Int) : j ∈ rowC c k ↔ ∃ a ∈ all, idf a = j ∧ src a = true ∧ key a = k := by rw [h.ci.mem_row, h.look]
theorem keys_nil {l : CKeys} (h : ∀ j k, lookM l j ≠ some k) : l = [] := by
  cases l with
  | nil => rfl
  | cons t l => exact absurd (by rw [lookM_cons, if_pos rfl]) (h t.1 t.2)
theorem CI.empty (h : CI c) (h2 : c.2 = []) : c.1 = [] := by
  cases hc : c.1 with
  | nil => rfl
  | cons t l =>
    have ht : t ∈ c.1 := by rw [hc]; simp
    obtain ⟨_, hne⟩ := h.row t ht
    obtain ⟨j, hj⟩ := List.exists_mem_of_ne_nil _ hne
    have hl : lookM c.1 t.1 = some t.2 := (lookM_iff h.nr).2 ht
    have := (h.mem t.1 j).1 (by rw [hl]; exact hj)
    rw [h2] at this
    simp [lookM, placeM] at this
theorem CR.empty (h : CR idf src key c []) : c.1 = [] ∧ c.2 = [] := by
  have h2 : c.2 = [] := keys_nil fun j k e => by
    obtain ⟨a, ha, _⟩ := (h.look j k).1 e
    cases ha
  exact ⟨h.ci.empty h2, h2⟩
end
end Go.Proofs.YtbcbfjnlnmhpbaaGreat
set_option linter.unusedVariables false
set_option linter.unusedSimpArgs false
set_option maxHeartbeats 1000000
set_option maxRecDepth 100000
namespace Go.Proofs.YtbcbfjnlnmhpbaaGreat
open Go Go.X Go.Rex
theorem cloneM_ok (M : Nat → Prop) (xs : List Mt) (v : Value) (w : World) (hv : SlM M w v xs) (hb : xs.length ≤ 1000000) :
    Fx Tryz.prog 48 [v] w (fun u w' => Row w' 108 3 u xs.length (xs.flatMap mtC) ∧ Fresh w.heap.size u ∧ Grow w w') := by
  obtain ⟨ad, c, b, o, rfl, hf⟩ := hv.open
  refine enter Tryz.func48 rfl rfl rfl _ (Pick.sub (l := [0]) (.cons rfl .nil)) ?_
  refine RK.seq ?_
  refine RK.region ?_
  refine RL.p rfl rfl ?_
  refine RL.done ?_
  iterate 2 refine RK.seq ?_
  refine RK.region ?_
  refine RL.p rfl rfl ?_
  refine RL.q (.free rfl) rfl rfl (Yld.eqNil u28 rfl rfl) ?_
  refine RL.done ?_
  first | refine RK.condD rfl (fun h4 => ?_) (fun h4 => ?_) | refine RK.condN rfl (fun h4 => ?_) (fun h4 => ?_) | refine RK.cond rfl (fun h4 => ?_) (fun h4 => ?_)
  · refine RK.seq ?_
    refine RK.region ?_
    refine RL.p rfl rfl ?_
    refine RL.done ?_
    refine RK.ret_of Tryz.func48 (res1 rfl rfl) ?_ _
    exact ⟨_, rfl, by cases ad with | none => (have h0 : xs.length = 0 := by (rcases Nat.eq_zero_or_pos xs.length with h | h; exact h; exact absurd (hf h).1 (by simp))); have : xs = [] := List.eq_nil_of_length_eq_zero h0; subst this; exact ⟨Row.nil _ _ _, fun b hb => by simp [Value.ownBlock] at hb, Mod.refl _ _⟩ | some a => simp at h4⟩
  · refine RK.skip ?_
    refine RK.seq ?_
    refine RK.region ?_
    refine RL.op (.free rfl) rfl rfl (Does.slice0 u28 i108) ?_
    rintro _ w1 ⟨b1, rfl, hn1⟩
    refine RL.p rfl rfl ?_
    refine RL.op (.free rfl) rfl rfl (Does.append u28 i108 rfl rfl rfl rfl rfl (Row.new hn1 3 0 rfl (by omega)) ((hv.mod (Mod.any' hn1.grow)).noM) (allOne_mts xs) (by omega)) ?_
    rintro u w2 ⟨hr, hm, hu⟩
    refine RL.p rfl rfl ?_
    refine RL.done ?_
    refine RK.ret_of Tryz.func48 (res1 rfl rfl) ?_ _
    exact ⟨_, rfl, by simpa using hr, fun b hb => by rcases hu with hu | hu <;> rw [hu] at hb <;> simp [Value.ownBlock] at hb <;> (have := hn1.at_; have := hn1.size; omega), hn1.grow.then hm (fun x hx e => by simp [Value.ownBlock] at e; have := hn1.at_; omega)⟩
theorem cloneS_ok (M : Nat → Prop) (xs : List ByteArray) (v : Value) (w : World) (hv : Sl M w v 1 xs.length (strsV xs)) (hb : xs.length ≤ 1000000) :
    Fx Tryz.prog 123 [v] w (fun u w' => Row w' 9 1 u xs.length (strsV xs) ∧ Fresh w.heap.size u ∧ Grow w w') := by
  obtain ⟨ad, c, b, o, rfl, hf⟩ := hv.open
  refine enter Tryz.func123 rfl rfl rfl _ (Pick.sub (l := [0]) (.cons rfl .nil)) ?_
  refine RK.seq ?_
  refine RK.region ?_
  refine RL.p rfl rfl ?_
  refine RL.done ?_
  iterate 2 refine RK.seq ?_
  refine RK.region ?_
  refine RL.p rfl rfl ?_
  refine RL.q (.free rfl) rfl rfl (Yld.eqNil u88 rfl rfl) ?_
  refine RL.done ?_
  first | refine RK.condD rfl (fun h4 => ?_) (fun h4 => ?_) | refine RK.condN rfl (fun h4 => ?_) (fun h4 => ?_) | refine RK.cond rfl (fun h4 => ?_) (fun h4 => ?_)
  · refine RK.seq ?_
    refine RK.region ?_
    refine RL.p rfl rfl ?_
    refine RL.done ?_
    refine RK.ret_of Tryz.func123 (res1 rfl rfl) ?_ _
    exact ⟨_, rfl, by cases ad with | none => (have h0 : xs.length = 0 := by (rcases Nat.eq_zero_or_pos xs.length with h | h; exact h; exact absurd (hf h).1 (by simp))); have : xs = [] := List.eq_nil_of_length_eq_zero h0; subst this; exact ⟨Row.nil _ _ _, fun b hb => by simp [Value.ownBlock] at hb, Mod.refl _ _⟩ | some a => simp at h4⟩
  · refine RK.skip ?_
    refine RK.seq ?_
    refine RK.region ?_
    refine RL.op (.free rfl) rfl rfl (Does.slice0 u88 i9) ?_
    rintro _ w1 ⟨b1, rfl, hn1⟩
    refine RL.p rfl rfl ?_
    refine RL.op (.free rfl) rfl rfl (Does.append u88 i9 rfl rfl rfl rfl rfl (Row.new hn1 1 0 rfl (by omega)) ((hv.mod (Mod.any' hn1.grow)).noM) (allOne_strs xs) (by omega)) ?_
    rintro u w2 ⟨hr, hm, hu⟩
    refine RL.p rfl rfl ?_
    refine RL.done ?_
    refine RK.ret_of Tryz.func123 (res1 rfl rfl) ?_ _
    exact ⟨_, rfl, by simpa using hr, fun b hb => by rcases hu with hu | hu <;> rw [hu] at hb <;> simp [Value.ownBlock] at hb <;> (have := hn1.at_; have := hn1.size; omega), hn1.grow.then hm (fun x hx e => by simp [Value.ownBlock] at e; have := hn1.at_; omega)⟩
def ruAt (r : Ru) (v1 v2 v3 : Value) : Ru := ⟨v1, v2, v3, r.src, r.tgt, r.bd, r.eq⟩
theorem Ru.Ok.noM' {M : Nat → Prop} {w : World} {r : Ru} (h : r.Ok M w) : r.Ok No w := ⟨h.s.noM, h.t.noM, h.e.noM⟩
theorem Ru.Ok.pass' {M M' : Nat → Prop} {w w' : World} {r : Ru} (h : r.Ok M w) (hm : Mod M w w') (hM : ∀ b, M' b → M b ∨ w.heap.size ≤ b) : r.Ok M' w' := ⟨h.s.pass (by omega) hm hM, h.t.pass (by omega) hm hM, h.e.pass (by omega) hm hM⟩
structure Ru.Few (r : Ru) : Prop where
  s : r.src.length ≤ 1000000
  t : r.tgt.length ≤ 1000000
  e : r.eq.length ≤ 1000000
theorem blkL {w : World} {b t : Nat} {cs ds : List Value} (h : Blk w b t (cs ++ ds)) : ∀ (j : Nat) (u : Value), cs[j]? = some u → w.cell? ⟨b, 0 + j, none⟩ = some u := fun j u hj => by
  rw [Nat.zero_add]
  refine h.cell' ?_
  rw [List.getElem?_append_left (List.getElem?_eq_some_iff.1 hj).1]
  exact hj
theorem copyRu_ok (M : Nat → Prop) (r : Ru) (w : World) (hr : r.Ok M w) (hf : r.Few) : Fx Tryz.prog 82 [.agg (ruC r).toArray] w (fun u w' => ∃ v1 v2 v3, u = .agg (ruC (ruAt r v1 v2 v3)).toArray ∧ (∀ M', (∀ b, b < w'.heap.size → M' b → b < w.heap.size) → (ruAt r v1 v2 v3).Ok M' w') ∧ Grow w w') := by
  obtain ⟨a1, c1, hv1⟩ := hr.s.shape
  obtain ⟨a2, c2, hv2⟩ := hr.t.shape
  obtain ⟨a3, c3, hv3⟩ := hr.e.shape
  refine enter Tryz.func82 rfl rfl rfl _ (Pick.sub (l := [0]) (.cons rfl .nil)) ?_
  refine RK.seq ?_
  refine RK.region ?_
  refine RL.op (.free rfl) rfl rfl (Does.box rfl) ?_
  rintro _ w1 ⟨b1, rfl, hn1⟩
  refine RL.op (.free rfl) rfl rfl (Does.alloc i90) ?_
  rintro _ w2 ⟨b2, rfl, hn2⟩
  have hB1 := hn1.blk.mod hn2.grow (fun h => h)
  have hg02 := hn1.grow.trans hn2.grow
  have hs1 := hn1.at_
  have hs2 := hn2.at_
  have hz1 := hn1.size
  have hz2 := hn2.size
  refine RL.done ?_
  refine RK.seq ?_
  refine RK.drawM No [(0, false), (1, false), (3, false), (4, false), (6, false), (7, false), (8, false), (9, false), (2, true), (5, true), (10, true), (11, false), (12, true)] [12] mixed (by kernel_rfl) ?_
  refine DL.qf rfl (.free rfl) rfl rfl (Yld.fieldAddr fo90_0 rfl) ?_
  refine DL.q rfl (.free rfl) rfl rfl rfl (Yld.load p28 rfl (atM (hB1.cell rfl) (fun h => h))) (Mod.drew _ _) ?_
  refine DL.qf rfl (.free rfl) rfl rfl (Yld.fieldAddr fo90_1 rfl) ?_
  refine DL.q rfl (.free rfl) rfl rfl rfl (Yld.load p28 rfl (atM (hB1.cell rfl) (fun h => h))) (Mod.drew _ _) ?_
  refine DL.qf rfl (.free rfl) rfl rfl (Yld.fieldAddr fo90_2 rfl) ?_
  refine DL.q rfl (.free rfl) rfl rfl rfl (Yld.loadN (cs := bdC r.bd) a32 rfl (atNM (fldN hB1 2 3) (fun h => h))) (Mod.drew _ _) ?_
  refine DL.qf rfl (.free rfl) rfl rfl (Yld.fieldAddr fo90_3 rfl) ?_
  refine DL.q rfl (.free rfl) rfl rfl rfl (Yld.load p88 rfl (atM (hB1.cell rfl) (fun h => h))) (Mod.drew _ _) ?_
  refine DL.op rfl (.free rfl) rfl rfl (Does.call rfl e48 (cloneM_ok M r.src _ _ ((hr.s.mod (Mod.any' hg02)).mod (Mod.drew _ _)) hf.s)) ?_
  rintro u3 w3 ⟨hr3, hf3, hg3⟩
  have hd3 := (Mod.drew No w2).trans hg3
  refine ⟨hd3, ?_⟩
  refine DL.op rfl (.free rfl) rfl rfl (Does.call rfl e48 (cloneM_ok M r.tgt _ _ ((hr.t.mod (Mod.any' hg02)).mod (Mod.any' hd3)) hf.t)) ?_
  rintro u4 w4 ⟨hr4, hf4, hg4⟩
  have hd4 := hd3.trans hg4
  refine ⟨hd4, ?_⟩
  refine DL.op rfl (.free rfl) rfl rfl (Does.call rfl e123 (cloneS_ok M r.eq _ _ ((hr.e.mod (Mod.any' hg02)).mod (Mod.any' hd4)) hf.e)) ?_
  rintro u5 w5 ⟨hr5, hf5, hg5⟩
  have hd5 := hd4.trans hg5
  refine ⟨hd5, ?_⟩
  obtain ⟨ad3, e3, rfl⟩ := hr3.slice
  obtain ⟨ad4, e4, rfl⟩ := hr4.slice
  obtain ⟨ad5, e5, rfl⟩ := hr5.slice
  refine DL.qf rfl (.free rfl) rfl rfl (Yld.build (v := .agg (ruC (ruAt r (.slice ad3 r.src.length e3) (.slice ad4 r.tgt.length e4) (.slice ad5 r.eq.length e5))).toArray) rfl (fun w => by kernel_rfl)) ?_
  refine DL.opT rfl (.free rfl) rfl rfl (Does.storeN i90 rfl rfl rfl rfl (hn2.blk.mod hd5 (fun h => h)) (Nat.le_refl 6)) ?_
  rintro _ w6 ⟨hb6, hm6, _⟩
  have hz3 := hd3.size
  have hz4 := hg4.size
  have hz5 := hg5.size
  have hz6 := hm6.size
  have hlt3 := fun b e => hr3.lt (b := b) e
  have hlt4 := fun b e => hr4.lt (b := b) e
  have hlt5 := fun b e => hr5.lt (b := b) e
  have hbb : w.heap.size ≤ b2 := by omega
  have hno : ∀ (M' : Nat → Prop), (∀ b, b < w6.heap.size → M' b → b < w.heap.size) → ∀ b, w2.heap.size ≤ b → b < w6.heap.size → ¬ (M' b ∨ b = b2) := fun M' hM b h1 h2 h => by
      rcases h with h | h
      · have := hM b h2 h; omega
      · omega
  refine DL.done ?_
  refine RK.ret_of Tryz.func82 (resC (cs := ruC (ruAt r (.slice ad3 r.src.length e3) (.slice ad4 r.tgt.length e4) (.slice ad5 r.eq.length e5))) rfl rfl a90 hb6) ?_ _
  exact ⟨_, rfl, _, _, _, rfl, fun M' hM => ⟨((Sl.own (hr3.mod (hg4.trans hg5) (fun _ _ h => h)) (M := fun b => M' b ∨ b = b2) (fun b e h => hno M' hM b (by have h1 := hf3 b e; simp only [World.drew] at h1; omega) (by have := hlt3 b e; omega) h)).mod (hm6.mono (fun b _ e => .inr e))).off (by omega) (fun b _ e => .inl e), ((Sl.own (hr4.mod hg5 (fun _ _ h => h)) (M := fun b => M' b ∨ b = b2) (fun b e h => hno M' hM b (by have h1 := hf4 b e; omega) (by have := hlt4 b e; omega) h)).mod (hm6.mono (fun b _ e => .inr e))).off (by omega) (fun b _ e => .inl e), ((Sl.own hr5 (M := fun b => M' b ∨ b = b2) (fun b e h => hno M' hM b (by have h1 := hf5 b e; omega) (by have := hlt5 b e; omega) h)).mod (hm6.mono (fun b _ e => .inr e))).off (by omega) (fun b _ e => .inl e)⟩, (hg02.trans hd5).then hm6 (fun y hy e => by have e' : y = b2 := e; omega)⟩
structure CacheAt (M : Nat → Prop) (w : World) (p mr mk : Nat) (r : Ru) (c : CRows × CKeys) : Prop where
  blk : Blk w p 141 (ruC r ++ [.map (some mr), .map (some mk)])
  ne : mr ≠ mk
  ok : r.Ok M w
  rl : ∃ l : List (ByteArray × (List Int × Value)), l.map (fun t => (t.1, t.2.1)) = c.1 ∧ MapAt Value.string w mr (l.map fun t => (t.1, t.2.2)) ∧ ∀ t ∈ l, Sl M w t.2.2 1 t.2.1.length (ints t.2.1)
  kl : MapAt (Value.int .i64) w mk (c.2.map fun t => (t.1, Value.string t.2))
theorem CacheAt.mod {M M0 : Nat → Prop} {w w' : World} {p mr mk : Nat} {r : Ru} {c : CRows × CKeys} (h : CacheAt M w p mr mk r c) (hm : Mod M0 w w') (h0 : ∀ b, b < w.heap.size → M0 b → M b) (n1 : ¬ M0 p) (n2 : ¬ M0 mr) (n3 : ¬ M0 mk) : CacheAt M w' p mr mk r c := by
  obtain ⟨l, hl1, hl2, hl3⟩ := h.rl
  exact ⟨h.blk.mod hm n1, h.ne, h.ok.mod (hm.mono h0), ⟨l, hl1, hl2.mod hm n2, fun t ht => (hl3 t ht).mod (hm.mono h0)⟩, h.kl.mod hm n3⟩
theorem CacheAt.grow {M : Nat → Prop} {w w' : World} {p mr mk : Nat} {r : Ru} {c : CRows × CKeys} (h : CacheAt M w p mr mk r c) (hm : Grow w w') : CacheAt M w' p mr mk r c := h.mod hm (fun b _ e => e.elim) (fun h => h) (fun h => h) (fun h => h)
theorem CacheAt.pass {M M' : Nat → Prop} {w w' : World} {p mr mk : Nat} {r : Ru} {c : CRows × CKeys} (h : CacheAt M w p mr mk r c) (hm : Grow w w') (hM : ∀ b, M' b → M b ∨ w.heap.size ≤ b) : CacheAt M' w' p mr mk r c := by
  obtain ⟨l, hl1, hl2, hl3⟩ := h.rl
  exact ⟨h.blk.mod hm (fun h => h), h.ne, h.ok.pass' (Mod.any' hm) hM, ⟨l, hl1, hl2.mod hm (fun h => h), fun t ht => (hl3 t ht).pass (by omega) (Mod.any' hm) hM⟩, h.kl.mod hm (fun h => h)⟩
theorem cacheNew_ok (M0 : Nat → Prop) (r : Ru) (w : World) (hr : r.Ok M0 w) (hf : r.Few) : Fx Tryz.prog 38 [.agg (ruC r).toArray] w (fun u w' => ∃ p mr mk v1 v2 v3, u = pp p ∧ (w.heap.size ≤ p ∧ w.heap.size ≤ mr ∧ w.heap.size ≤ mk ∧ p < w'.heap.size) ∧ (∀ M, (∀ b, b < w'.heap.size → M b → b < w.heap.size ∨ b = mr ∨ b = mk) → CacheAt M w' p mr mk (ruAt r v1 v2 v3) ([], [])) ∧ Grow w w') := by
  obtain ⟨a1, c1, hv1⟩ := hr.s.shape
  refine enter Tryz.func38 rfl rfl rfl _ (Pick.sub (l := [0]) (.cons rfl .nil)) ?_
  refine RK.seq ?_
  refine RK.region ?_
  refine RL.op (.free rfl) rfl rfl (Does.box rfl) ?_
  rintro _ w1 ⟨b1, rfl, hn1⟩
  refine RL.p rfl rfl ?_
  refine RL.done ?_
  refine RK.seq ?_
  refine RK.region ?_
  refine RL.q (.free rfl) rfl rfl (Yld.loadN (cs := ruC r) a90 rfl (atN (blk0' hn1.blk))) ?_
  refine RL.op (.free rfl) rfl rfl (Does.call rfl e82 (copyRu_ok M0 r _ (hr.mod (Mod.any' hn1.grow)) hf)) ?_
  rintro _ w2 ⟨v1, v2, v3, rfl, hok, hg2⟩
  refine RL.op (.free rfl) rfl rfl (Does.makeMap Value.string) ?_
  rintro _ w3 ⟨mr, rfl, hmr, hm3, hg3, hs3⟩
  refine RL.op (.free rfl) rfl rfl (Does.makeMap (Value.int .i64)) ?_
  rintro _ w4 ⟨mk, rfl, hmk, hm4, hg4, hs4⟩
  refine RL.q (.free rfl) rfl rfl (Yld.build (v := .agg (ruC (ruAt r v1 v2 v3) ++ [Value.map (some mr), Value.map (some mk)]).toArray) rfl (fun w => by kernel_rfl)) ?_
  refine RL.op (.free rfl) rfl rfl (Does.box rfl) ?_
  rintro _ w8 ⟨b8, rfl, hn8⟩
  have hg24 := hg3.trans hg4
  have hg28 := hg24.trans hn8.grow
  have hz1 := hn1.grow.size
  have hz2 := hg2.size
  have hz3 := hg3.size
  have hz4 := hg4.size
  have hz8 := hn8.size
  have ha8 := hn8.at_
  refine RL.p rfl rfl ?_
  refine RL.done ?_
  refine RK.ret_of Tryz.func38 (res1 rfl rfl) ?_ _
  exact ⟨_, rfl, b8, mr, mk, v1, v2, v3, rfl, ⟨by omega, by omega, by omega, by omega⟩, fun M hM => ⟨hn8.blk, by omega, (hok (fun b => M b ∧ b < w2.heap.size) (fun b _ e => by have e2 := e.2; rcases hM b (by omega) e.1 with h | h | h <;> omega)).pass' (Mod.any' hg28) (fun b e => by by_cases hb : b < w2.heap.size; exact .inl ⟨e, hb⟩; exact .inr (by omega)), ⟨[], rfl, (hm3.mod hg4 (fun h => h)).mod hn8.grow (fun h => h), by simp⟩, hm4.mod hn8.grow (fun h => h)⟩, (hn1.grow.trans hg2).trans hg28⟩
theorem cacheRule_ok (M : Nat → Prop) (w : World) (p mr mk : Nat) (r : Ru) (c : CRows × CKeys) (h : CacheAt M w p mr mk r c) (hf : r.Few) : Fx Tryz.prog 87 [pp p] w (fun u w' => ∃ v1 v2 v3, u = .agg (ruC (ruAt r v1 v2 v3)).toArray ∧ (ruAt r v1 v2 v3).Ok No w' ∧ Grow w w') := by
  refine enter Tryz.func87 rfl rfl rfl _ (Pick.sub (l := [0]) (.cons rfl .nil)) ?_
  refine RK.seq ?_
  refine RK.region ?_
  refine RL.op (.free rfl) rfl rfl (Does.alloc i90) ?_
  rintro _ w2 ⟨b2, rfl, hn2⟩
  refine RL.done ?_
  refine RK.seq ?_
  refine RK.region ?_
  iterate 2 refine RL.p rfl rfl ?_
  refine RL.q (.free rfl) rfl rfl (Yld.fieldAddr fo141_0 rfl) ?_
  refine RL.q (.free rfl) rfl rfl (Yld.loadN (cs := ruC r) a90 rfl (atN (blkL (h.blk.mod hn2.grow (fun h => h))))) ?_
  refine RL.op (.free rfl) rfl rfl (Does.call rfl e82 (copyRu_ok M r _ (h.ok.mod (Mod.any' hn2.grow)) hf)) ?_
  rintro _ w3 ⟨v1, v2, v3, rfl, hok, hg3⟩
  have hok3 := hok (fun b => b = b2) (fun b _ e => by have := hn2.blk.lt; omega)
  refine RL.op' (.free rfl) rfl (Does.storeN i90 rfl rfl rfl (ruC_one hok3) (hn2.blk.mod hg3 (fun h => h)) (Nat.le_refl 6)) ?_
  rintro _ w4 ⟨hb4, hm4, _⟩
  refine RL.done ?_
  refine RK.ret_of Tryz.func87 (resC (cs := ruC (ruAt r v1 v2 v3)) rfl rfl a90 hb4) ?_ _
  exact ⟨_, rfl, v1, v2, v3, rfl, (hok3.mod hm4).noM', (hn2.grow.trans hg3).then hm4 (fun y hy e => by have e' : y = b2 := e; have := hn2.at_; omega)⟩
end Go.Proofs.YtbcbfjnlnmhpbaaGreat
set_option linter.unusedVariables false
set_option linter.unusedSimpArgs false
set_option maxHeartbeats 1600000
set_option maxRecDepth 100000
namespace Go.Proofs.YtbcbfjnlnmhpbaaGreat
open Go Go.X
theorem toldZ_ok (M : Nat → Prop) (now : Int) (a : Sil) (w : World) (ha : SlM M w a.mv a.ms) (hl : a.ms.length ≤ 1000000) : Fx Tryz.prog 55 [.int .u64 now, .agg (silC a).toArray] w (fun u w' => ∃ v', u = .agg (silC { a with ver := stateS now a.start a.stop, mv := v' }).toArray ∧ Row w' 108 3 v' a.ms.length (a.ms.flatMap mtC) ∧ Fresh w.heap.size v' ∧ Grow w w') := by
  obtain ⟨ad, c, e⟩ := ha.shape
  obtain ⟨aid, ver, sta, sto, mv, ms, bd⟩ := a
  simp only at ha hl e
  subst e
  refine enter Tryz.func55 rfl rfl rfl _ (Pick.sub (l := [0, 1]) (.cons rfl (.cons rfl .nil))) ?_
  refine RK.seq ?_
  refine RK.region ?_
  refine RL.op (.free rfl) rfl rfl (Does.box rfl) ?_
  rintro _ w1 ⟨b3, rfl, hn3⟩
  refine RL.op (.free rfl) rfl rfl (Does.alloc i41) ?_
  rintro _ w2 ⟨b4, rfl, hn4⟩
  have hB3 : Blk w2 b3 41 [.int .i64 aid, .int .i64 ver, .int .u64 sta, .int .u64 sto, .slice ad ms.length c, .bool bd.all, .float .f64 bd.lo, .float .f64 bd.hi] := hn3.blk.mod hn4.grow (fun h => h)
  have hg2 := hn3.grow.trans hn4.grow
  refine RL.done ?_
  refine RK.seq ?_
  refine RK.region ?_
  refine RL.p rfl rfl ?_
  refine RL.q (.free rfl) rfl rfl (Yld.fieldAddr fo41_2 rfl) ?_
  refine RL.q (.free rfl) rfl rfl (Yld.load p22 rfl (at1 (hB3.cell rfl))) ?_
  refine RL.q (.free rfl) rfl rfl (Yld.fieldAddr fo41_3 rfl) ?_
  refine RL.q (.free rfl) rfl rfl (Yld.load p22 rfl (at1 (hB3.cell rfl))) ?_
  refine RL.op (.free rfl) rfl rfl (Does.call rfl e51 (state_ok now sta sto _)) ?_
  rintro _ _ ⟨rfl, rfl⟩
  refine RL.q (.free rfl) rfl rfl (Yld.fieldAddr fo41_1 rfl) ?_
  refine RL.op' (.free rfl) rfl (Does.store i3 rfl rfl rfl hB3 (.s .z)) ?_
  rintro _ w3 ⟨hb3, hm3, hs3⟩
  have hg3 : Grow w w3 := hg2.then hm3 (fun y hy e => by have e' : y = b3 := e; have := hn3.at_; omega)
  refine RL.done ?_
  refine RK.seq ?_
  refine RK.region ?_
  refine RL.q (.free rfl) rfl rfl (Yld.fieldAddr fo41_4 rfl) ?_
  refine RL.q (.free rfl) rfl rfl (Yld.load p28 rfl (at1 (hb3.cell rfl))) ?_
  refine RL.op (.free rfl) rfl rfl (Does.call rfl e48 (cloneM_ok M ms _ _ (ha.mod (Mod.any' hg3)) hl)) ?_
  rintro u5 w5 ⟨hr5, hf5, hg5⟩
  obtain ⟨ad5, c5, rfl⟩ := hr5.slice
  have hlt5 := fun b e => hr5.lt (b := b) e
  have ha3 := hn3.at_
  have ha4 := hn4.at_
  have hz3 := hn3.size
  have hz4 := hn4.size
  have hz5 := hg5.size
  refine RL.q (.free rfl) rfl rfl (Yld.fieldAddr fo41_4 rfl) ?_
  refine RL.op' (.free rfl) rfl (Does.store i28 rfl rfl rfl (hb3.mod hg5 (fun h => h)) (.s (.s (.s (.s .z))))) ?_
  rintro _ w6 ⟨hb6, hm6, hs6⟩
  have hB4 := ((hn4.blk.mod hm3 (fun e => by have e' : b4 = b3 := e; omega)).mod hg5 (fun h => h)).mod hm6 (fun e => by have e' : b4 = b3 := e; omega)
  refine RL.done ?_
  refine RK.seq ?_
  refine RK.region ?_
  refine RL.q (.free rfl) rfl rfl (Yld.loadN (cs := silC ⟨aid, stateS now sta sto, sta, sto, .slice ad5 ms.length c5, ms, bd⟩) a41 rfl (atN (blk0' hb6))) ?_
  refine RL.op' (.free rfl) rfl (Does.storeN i41 rfl rfl rfl rfl hB4 (Nat.le_refl 8)) ?_
  rintro _ w7 ⟨hb7, hm7, hs7⟩
  refine RL.done ?_
  refine RK.ret_of Tryz.func55 (resC (cs := silC ⟨aid, stateS now sta sto, sta, sto, .slice ad5 ms.length c5, ms, bd⟩) rfl rfl a41 hb7) ?_ _
  exact ⟨_, rfl, .slice ad5 ms.length c5, rfl, (hr5.mod hm6 (fun b e h => by have := hf5 b e; have h' : b = b3 := h; omega)).mod hm7 (fun b e h => by have := hf5 b e; have h' : b = b4 := h; omega), fun b e => by have := hf5 b e; omega, ((hg3.trans hg5).then hm6 (fun y hy e => by have e' : y = b3 := e; omega)).then hm7 (fun y hy e => by have e' : y = b4 := e; omega)⟩
end Go.Proofs.YtbcbfjnlnmhpbaaGreat
set_option linter.unusedVariables false
set_option linter.unusedSimpArgs false
set_option maxHeartbeats 1600000
set_option maxRecDepth 100000
namespace Go.Proofs.YtbcbfjnlnmhpbaaGreat
open Go Go.X
def spanS (now a b : Int) : Bool := decide (a < b) && decide (now < b) && decide (b ≤ 1099511627776)
theorem spanZ_ok (now a b : Int) (w : World) : Fx Tryz.prog 98 [.int .u64 now, .int .u64 a, .int .u64 b] w (fun u w' => u = .bool (spanS now a b) ∧ w = w') := by
  refine enter Tryz.func98 rfl rfl rfl _ (Pick.sub (l := [0, 1, 2]) (.cons rfl (.cons rfl (.cons rfl .nil)))) ?_
  refine RK.seq ?_
  refine RK.region ?_
  refine RL.p rfl rfl ?_
  refine RL.done ?_
  refine RK.seq ?_
  refine RK.region ?_
  iterate 4 refine RL.p rfl rfl ?_
  first | refine RL.splitD (d := 10) rfl rfl (fun h1 => ?_) (fun h1 => ?_) | refine RL.splitN (d := 10) rfl rfl (fun h1 => ?_) (fun h1 => ?_) | refine RL.split (d := 10) rfl rfl (fun h1 => ?_) (fun h1 => ?_)
  · iterate 3 refine RL.q (.yes rfl rfl rfl) rfl rfl (Yld.pure rfl) ?_
    iterate 2 refine RL.p rfl rfl ?_
    first | refine RL.splitD (d := 15) rfl rfl (fun h2 => ?_) (fun h2 => ?_) | refine RL.splitN (d := 15) rfl rfl (fun h2 => ?_) (fun h2 => ?_) | refine RL.split (d := 15) rfl rfl (fun h2 => ?_) (fun h2 => ?_)
    · iterate 2 refine RL.q (.yes rfl rfl rfl) rfl rfl (Yld.pure rfl) ?_
      iterate 2 refine RL.p rfl rfl ?_
      refine RL.done ?_
      refine RK.ret_of Tryz.func98 (res1 rfl rfl) ?_ _
      exact ⟨_, rfl, by unfold spanS; simp [h1, h2], rfl⟩
    · iterate 2 refine RL.no (.no rfl rfl rfl rfl) rfl rfl ?_
      iterate 2 refine RL.p rfl rfl ?_
      refine RL.done ?_
      refine RK.ret_of Tryz.func98 (res1 rfl rfl) ?_ _
      exact ⟨_, rfl, by unfold spanS; simp [h1, h2], rfl⟩
  · iterate 3 refine RL.no (.no rfl rfl rfl rfl) rfl rfl ?_
    iterate 2 refine RL.p rfl rfl ?_
    iterate 2 refine RL.no (.no rfl rfl rfl rfl) rfl rfl ?_
    iterate 2 refine RL.p rfl rfl ?_
    refine RL.done ?_
    refine RK.ret_of Tryz.func98 (res1 rfl rfl) ?_ _
    exact ⟨_, rfl, by unfold spanS; simp [h1], rfl⟩
def rightS (ms : List Mt) (bd : Bd) : Bool := (decide (0 < ms.length) && listM ms) && mayB bd
theorem rightZ_ok (M : Nat → Prop) (ms : List Mt) (v : Value) (bd : Bd) (w : World) (hv : SlM M w v ms) : Fx Tryz.prog 45 [v, .agg (bdC bd).toArray] w (fun u w' => u = .bool (rightS ms bd) ∧ Grow w w') := by
  obtain ⟨ad, c, rfl⟩ := hv.shape
  refine enter Tryz.func45 rfl rfl rfl _ (Pick.sub (l := [0, 1]) (.cons rfl (.cons rfl .nil))) ?_
  refine RK.seq ?_
  refine RK.region ?_
  refine RL.op (.free rfl) rfl rfl (Does.box rfl) ?_
  rintro _ w1 ⟨b3, rfl, hn3⟩
  refine RL.p rfl rfl ?_
  refine RL.done ?_
  refine RK.seq ?_
  refine RK.region ?_
  refine RL.p rfl rfl ?_
  refine RL.q (.free rfl) rfl rfl (Yld.lenSl u28 rfl) ?_
  iterate 2 refine RL.p rfl rfl ?_
  first | refine RL.splitD (d := 8) rfl rfl (fun h1 => ?_) (fun h1 => ?_) | refine RL.splitN (d := 8) rfl rfl (fun h1 => ?_) (fun h1 => ?_) | refine RL.split (d := 8) rfl rfl (fun h1 => ?_) (fun h1 => ?_)
  · refine RL.q (.yes rfl rfl rfl) rfl rfl (Yld.pure rfl) ?_
    refine RL.op (.yes rfl rfl rfl) rfl rfl (Does.call rfl e95 (matchList_ok M ms _ _ (hv.mod (Mod.any' hn3.grow)))) ?_
    rintro _ w2 ⟨rfl, hg2⟩
    have hB3 : Blk w2 b3 32 (bdC bd) := hn3.blk.mod hg2 (fun h => h)
    iterate 2 refine RL.p rfl rfl ?_
    first | refine RL.splitD (d := 12) rfl rfl (fun h2 => ?_) (fun h2 => ?_) | refine RL.splitN (d := 12) rfl rfl (fun h2 => ?_) (fun h2 => ?_) | refine RL.split (d := 12) rfl rfl (fun h2 => ?_) (fun h2 => ?_)
    · refine RL.q (.yes rfl rfl rfl) rfl rfl (Yld.loadN (cs := bdC bd) a32 rfl (atN (blk0' hB3))) ?_
      refine RL.op (.yes rfl rfl rfl) rfl rfl (Does.call rfl e96 (may_ok bd _)) ?_
      rintro _ w3 ⟨rfl, hg3⟩
      iterate 2 refine RL.p rfl rfl ?_
      refine RL.done ?_
      refine RK.ret_of Tryz.func45 (res1 rfl rfl) ?_ _
      exact ⟨_, rfl, by unfold rightS; rw [h2, decide_eq_true (by omega)]; rfl, (hn3.grow.trans hg2).trans hg3⟩
    · iterate 2 refine RL.no (.no rfl rfl rfl rfl) rfl rfl ?_
      iterate 2 refine RL.p rfl rfl ?_
      refine RL.done ?_
      refine RK.ret_of Tryz.func45 (res1 rfl rfl) ?_ _
      exact ⟨_, rfl, by unfold rightS; rw [show listM ms = false by simpa using h2]; simp, hn3.grow.trans hg2⟩
  · iterate 2 refine RL.no (.no rfl rfl rfl rfl) rfl rfl ?_
    iterate 2 refine RL.p rfl rfl ?_
    iterate 2 refine RL.no (.no rfl rfl rfl rfl) rfl rfl ?_
    iterate 2 refine RL.p rfl rfl ?_
    refine RL.done ?_
    refine RK.ret_of Tryz.func45 (res1 rfl rfl) ?_ _
    exact ⟨_, rfl, by unfold rightS; rw [decide_eq_false (by omega)]; rfl, hn3.grow⟩
def fitsS (now a b : Int) (ms : List Mt) : Int := if anyL ms = true then 7 else if spanS now a b = true then 0 else 8
theorem fitsZ_ok (M : Nat → Prop) (now a b : Int) (ms : List Mt) (v : Value) (w : World) (hv : SlM M w v ms) : Fx Tryz.prog 46 [.int .u64 now, .int .u64 a, .int .u64 b, v] w (fun u w' => u = .int .i64 (fitsS now a b ms) ∧ Grow w w') := by
  obtain ⟨ad, c, rfl⟩ := hv.shape
  refine enter Tryz.func46 rfl rfl rfl _ (Pick.sub (l := [0, 1, 2, 3]) (.cons rfl (.cons rfl (.cons rfl (.cons rfl .nil))))) ?_
  refine RK.seq ?_
  refine RK.region ?_
  refine RL.p rfl rfl ?_
  refine RL.done ?_
  refine RK.seq ?_
  refine RK.block ?_
  refine RK.seq ?_
  refine RK.region ?_
  refine RL.p rfl rfl ?_
  refine RL.op (.free rfl) rfl rfl (Does.call rfl e97 (matchAnyL_ok M ms _ _ hv)) ?_
  rintro _ w2 ⟨rfl, hg2⟩
  refine RL.p rfl rfl ?_
  refine RL.done ?_
  first | refine RK.condD rfl (fun h9 => ?_) (fun h9 => ?_) | refine RK.condN rfl (fun h9 => ?_) (fun h9 => ?_) | refine RK.cond rfl (fun h9 => ?_) (fun h9 => ?_)
  · refine RK.seq ?_
    refine RK.region ?_
    refine RL.p rfl rfl ?_
    refine RL.done ?_
    refine RK.ret_of Tryz.func46 (res1 rfl rfl) ?_ _
    exact ⟨_, rfl, by unfold fitsS; rw [if_pos h9], hg2⟩
  · refine RK.seq ?_
    refine RK.region ?_
    iterate 3 refine RL.p rfl rfl ?_
    refine RL.op (.free rfl) rfl rfl (Does.call rfl e98 (spanZ_ok now a b _)) ?_
    rintro _ _ ⟨rfl, rfl⟩
    iterate 2 refine RL.p rfl rfl ?_
    refine RL.done ?_
    first | refine RK.condD rfl (fun h12 => ?_) (fun h12 => ?_) | refine RK.condN rfl (fun h12 => ?_) (fun h12 => ?_) | refine RK.cond rfl (fun h12 => ?_) (fun h12 => ?_)
    · refine RK.seq ?_
      refine RK.region ?_
      refine RL.p rfl rfl ?_
      refine RL.done ?_
      refine RK.ret_of Tryz.func46 (res1 rfl rfl) ?_ _
      exact ⟨_, rfl, by unfold fitsS; rw [h9, show spanS now a b = false by simpa using h12]; rfl, hg2⟩
    · refine RK.skip ?_
      refine RK.inBlock ?_
      refine RK.seq ?_
      refine RK.region ?_
      refine RL.p rfl rfl ?_
      refine RL.done ?_
      refine RK.ret_of Tryz.func46 (res1 rfl rfl) ?_ _
      exact ⟨_, rfl, by unfold fitsS; rw [h9, show spanS now a b = true by simpa using h12]; rfl, hg2⟩
structure Slz where
  id : Int
  start : Int
  stop : Int
  ms : List Mt
  bd : Bd
def pubZ (a : Sil) : Slz := ⟨a.id, a.start, a.stop, a.ms, a.bd⟩
structure SS where
  ret : Int
  most : Int
  last : Int
  sl : List Slz
def ownS (p pl qu : Nat) (vp vq vs : Value) (b : Nat) : Prop := b = p ∨ b = pl ∨ b = qu ∨ vp.ownBlock = some b ∨ vq.ownBlock = some b ∨ vs.ownBlock = some b
structure ZA (w : World) (p : Nat) (s : SS) (M : Nat → Prop) (pl qu : Nat) (vp vq vs : Value) (al : List Sil) (q : List En) : Prop where
  blk : Blk w p 101 [pp pl, pp qu, .int .u64 s.ret, vs]
  pool : PoolAt w pl s.most s.last (al.map (·.id)) vp
  que : QAt w qu q vq
  row : Row w 41 8 vs al.length (al.flatMap silC)
  als : al.map pubZ = s.sl
  sms : ∀ a ∈ al, SlM M w a.mv a.ms
  sort : SortE q
  perm : q.Perm (al.map fun a => ⟨a.stop + s.ret, a.id⟩)
  ownM : ∀ b, ownS p pl qu vp vq vs b → M b
  ltM : ∀ b, M b → b < w.heap.size
def ZStore (O M : Nat → Prop) (w : World) (p : Nat) (s : SS) : Prop := ∃ pl qu vp vq vs al q, (∀ b, O b ↔ ownS p pl qu vp vq vs b) ∧ ZA w p s M pl qu vp vq vs al q
structure Gz (s : SS) : Prop where
  r0 : 1 ≤ s.ret
  r1 : s.ret ≤ 1048576
  m1 : s.most ≤ 12
  len : (s.sl.length : Int) ≤ s.most
  ris : Ris (s.sl.map (·.id))
  l0 : 0 ≤ s.last
  low : ∀ a ∈ s.sl, a.id ≤ s.last
  st : ∀ a ∈ s.sl, 0 ≤ a.stop ∧ a.stop ≤ 1099511627776
theorem Gz.le {s : SS} (h : Gz s) : s.sl.length ≤ 12 := by have := h.len; have := h.m1; omega
section
variable {w : World} {p : Nat} {s : SS} {M : Nat → Prop} {pl qu : Nat} {vp vq vs : Value} {al : List Sil} {q : List En}
theorem ZA.len (h : ZA w p s M pl qu vp vq vs al q) : al.length = s.sl.length := by rw [← h.als, List.length_map]
theorem ZA.ids (h : ZA w p s M pl qu vp vq vs al q) : al.map (·.id) = s.sl.map (·.id) := by rw [← h.als, List.map_map]; rfl
theorem ZA.qlen (h : ZA w p s M pl qu vp vq vs al q) : q.length = al.length := by rw [h.perm.length_eq, List.length_map]
theorem ZA.own_lt (h : ZA w p s M pl qu vp vq vs al q) {b : Nat} (e : ownS p pl qu vp vq vs b) : b < w.heap.size := h.ltM b (h.ownM b e)
theorem ZA.ne_ppl (h : ZA w p s M pl qu vp vq vs al q) : p ≠ pl := h.blk.ty.ne h.pool.blk.ty rfl
theorem ZA.ne_plqu (h : ZA w p s M pl qu vp vq vs al q) : pl ≠ qu := h.pool.blk.ty.ne h.que.blk.ty rfl
theorem ZA.grow {w' : World} (h : ZA w p s M pl qu vp vq vs al q) (hg : Grow w w') : ZA w' p s M pl qu vp vq vs al q :=
  ⟨h.blk.mod hg (fun h => h), ⟨h.pool.blk.mod hg (fun h => h), h.pool.row.mod hg (fun _ _ h => h), h.pool.ne⟩, h.que.grow hg, h.row.mod hg (fun _ _ h => h), h.als, fun a ha => (h.sms a ha).mod (Mod.any' hg), h.sort, h.perm, h.ownM, fun b hb => Nat.lt_of_lt_of_le (h.ltM b hb) hg.size⟩
end
theorem ZStore.grow {O M : Nat → Prop} {w w' : World} {p : Nat} {s : SS} (h : ZStore O M w p s) (hg : Grow w w') : ZStore O M w' p s := by
  obtain ⟨pl, qu, vp, vq, vs, al, q, hO, h⟩ := h
  exact ⟨pl, qu, vp, vq, vs, al, q, hO, h.grow hg⟩
theorem ZStore.lt {O M : Nat → Prop} {w : World} {p : Nat} {s : SS} (h : ZStore O M w p s) : ∀ b, O b → b < w.heap.size := by
  obtain ⟨pl, qu, vp, vq, vs, al, q, hO, h⟩ := h
  exact fun b hb => h.own_lt ((hO b).1 hb)
theorem set_sil (st sp : Int) : ∀ (al : List Sil) (i : Nat) (a : Sil), al[i]? = some a → ((al.flatMap silC).set (i * 8 + 2) (.int .u64 st)).set (i * 8 + 3) (.int .u64 sp) = (al.set i { a with start := st, stop := sp }).flatMap silC
  | [], i, a, h => by simp at h
  | x :: al, 0, a, h => by
    obtain rfl : x = a := by simpa using h
    simp only [List.flatMap_cons, silC, List.set_cons_zero]
    rfl
  | x :: al, i + 1, a, h => by
    have ih := set_sil st sp al i a (by simpa using h)
    rw [List.set_cons_succ, List.flatMap_cons, List.flatMap_cons, ← ih]
    rw [List.set_append_right _ _ (by rw [silC_len]; omega), List.set_append_right _ _ (by rw [silC_len]; omega), silC_len]
    congr 2
    · congr 1; omega
    · omega
end Go.Proofs.YtbcbfjnlnmhpbaaGreat
set_option linter.unusedVariables false
set_option linter.unusedSimpArgs false
set_option maxHeartbeats 1600000
set_option maxRecDepth 100000
namespace Go.Proofs.YtbcbfjnlnmhpbaaGreat
open Go Go.X
theorem turnZ_ok (w : World) (p pl qu : Nat) (ret start stop : Int) (vq vs : Value) (al : List Sil) (q : List En) (i : Nat) (a : Sil) (hb : Blk w p 101 [pp pl, pp qu, .int .u64 ret, vs]) (hq : QAt w qu q vq) (hs : SortE q) (hr : Row w 41 8 vs al.length (al.flatMap silC)) (ha : al[i]? = some a) (hql : q.length ≤ 1000) (hal : al.length ≤ 1000) (h0 : 0 ≤ stop + ret) (h1 : stop + ret < 18446744073709551616) :
    Fx Tryz.prog 49 [pp p, .int .i64 (i : Int), .int .u64 start, .int .u64 stop] w (fun u w' => u = .tuple #[] ∧ ∃ vq', Blk w' p 101 [pp pl, pp qu, .int .u64 ret, vs] ∧ QAt w' qu (putE (dropE q a.id) ⟨stop + ret, a.id⟩) vq' ∧ Row w' 41 8 vs al.length ((al.set i { a with start := start, stop := stop }).flatMap silC) ∧ Mod (fun b => b = qu ∨ vq.ownBlock = some b ∨ vs.ownBlock = some b) w w' ∧ ∀ b, vq'.ownBlock = some b → vq.ownBlock = some b ∨ w.heap.size ≤ b) := by
  have hil : i < al.length := (List.getElem?_eq_some_iff.1 ha).1
  obtain ⟨gb, cp, cs, rfl, hbk, hl, hkc, hcm, htk⟩ := hr.whole (by omega)
  have hpg : p ≠ gb := hb.ty.ne hbk.ty rfl
  have hgq : gb ≠ qu := hbk.ty.ne hq.blk.ty rfl
  have hpq : p ≠ qu := hb.ty.ne hq.blk.ty rfl
  have hgv : ∀ b, vq.ownBlock = some b → b ≠ gb := fun b e => (hq.row.ty e).ne hbk.ty rfl
  have hpv : ∀ b, vq.ownBlock = some b → b ≠ p := fun b e => (hq.row.ty e).ne hb.ty rfl
  refine enter Tryz.func49 rfl rfl rfl _ (Pick.sub (l := [0, 1, 2, 3]) (.cons rfl (.cons rfl (.cons rfl (.cons rfl .nil))))) ?_
  refine RK.seq ?_
  refine RK.drawM (· = gb) [(0, false), (1, false), (2, false), (3, false), (4, false), (5, false), (6, false), (7, false), (8, false), (9, false), (10, false), (11, false), (12, false), (13, false), (14, true), (15, false), (16, false), (17, true)] [14, 17] mixed (by kernel_rfl) ?_
  iterate 2 refine DL.p rfl rfl rfl ?_
  refine DL.qf rfl (.free rfl) rfl rfl (Yld.fieldAddr fo101_3 rfl) ?_
  refine DL.q rfl (.free rfl) rfl rfl rfl (Yld.load p44 rfl (atM (hb.cell rfl) (hpg))) (Mod.drew _ _) ?_
  iterate 3 refine DL.p rfl rfl rfl ?_
  refine DL.qf rfl (.free rfl) rfl rfl (Yld.fieldAddr fo101_3 rfl) ?_
  refine DL.q rfl (.free rfl) rfl rfl rfl (Yld.load p44 rfl (atM (hb.cell rfl) (hpg))) (Mod.drew _ _) ?_
  iterate 3 refine DL.p rfl rfl rfl ?_
  refine DL.qf rfl (.free rfl) rfl rfl (Yld.indexAddrN u44 i41 rfl rfl (by omega)) ?_
  refine DL.qf rfl (.free rfl) rfl rfl (Yld.fieldAddr fo41_2 rfl) ?_
  refine DL.opT rfl (.free rfl) rfl rfl (Does.store i22 rfl rfl rfl (hbk.mod (Mod.drew No _) (fun h => h)) (SetAt.of (by rw [hl]; omega))) ?_
  rintro _ w2 ⟨hb2, hm2, hs2⟩
  refine DL.qf rfl (.free rfl) rfl rfl (Yld.indexAddrN u44 i41 rfl rfl (by omega)) ?_
  refine DL.qf rfl (.free rfl) rfl rfl (Yld.fieldAddr fo41_3 rfl) ?_
  refine DL.opT rfl (.free rfl) rfl rfl (Does.store i22 rfl rfl rfl hb2 (SetAt.of (by rw [List.length_set, hl]; omega))) ?_
  rintro _ w3 ⟨hb3, hm3, hs3⟩
  have hm03 : Mod (· = gb) w w3 := ((Mod.drew _ _).trans hm2).trans hm3
  have hbp3 := hb.mod hm03 hpg
  have hR : Row w3 41 8 (.slice (some ⟨gb, 0, none⟩) al.length cp) al.length ((al.set i { a with start := start, stop := stop }).flatMap silC) := by
      have hR := Row.shut hb3 (sz := 8) (cap := cp) (k := al.length) (by rw [List.length_set, List.length_set]; exact hl) hkc hcm
      rw [List.take_set, List.take_set, htk, Nat.zero_add, set_sil start stop al i a ha] at hR
      exact hR
  have hR2 : Row w3 41 8 (.slice (some ⟨gb, 0, none⟩) al.length cp) (al.set i { a with start := start, stop := stop }).length ((al.set i { a with start := start, stop := stop }).flatMap silC) := by rw [List.length_set]; exact hR
  have hx : (al.set i { a with start := start, stop := stop })[i]? = some { a with start := start, stop := stop } := by rw [List.getElem?_set_self hil]
  obtain ⟨b1, o1, c1', he1, _, _, hc1⟩ := (Sl.own (M := No) hR2 (fun _ _ h => h)).elem silC_len hx
  rw [List.length_set] at he1
  cases he1
  have hq3 := hq.mod hm03 hgq.symm (fun b e => hgv b e)
  refine DL.done ?_
  refine RK.drawM (fun b => b = qu ∨ vq.ownBlock = some b) [(0, false), (1, false), (2, false), (3, false), (4, false), (5, false), (6, false), (7, false), (8, false), (9, false), (10, false), (11, false), (12, false), (13, false), (14, false), (15, false), (16, false), (17, false), (18, true)] [] mixed (by kernel_rfl) ?_
  iterate 2 refine DL.p rfl rfl rfl ?_
  refine DL.qf rfl (.free rfl) rfl rfl (Yld.fieldAddr fo101_1 rfl) ?_
  refine DL.q rfl (.free rfl) rfl rfl rfl (Yld.load p98 rfl (atM (hbp3.cell rfl) ((fun e => e.elim hpq (fun e => hpv p e rfl))))) (Mod.drew _ _) ?_
  iterate 2 refine DL.p rfl rfl rfl ?_
  refine DL.qf rfl (.free rfl) rfl rfl (Yld.fieldAddr fo101_3 rfl) ?_
  refine DL.q rfl (.free rfl) rfl rfl rfl (Yld.load p44 rfl (atM (hbp3.cell rfl) ((fun e => e.elim hpq (fun e => hpv p e rfl))))) (Mod.drew _ _) ?_
  refine DL.p rfl rfl rfl ?_
  refine DL.qf rfl (.free rfl) rfl rfl (Yld.indexAddrN u44 i41 rfl rfl (by omega)) ?_
  refine DL.qf rfl (.free rfl) rfl rfl (Yld.fieldAddr fo41_0 rfl) ?_
  refine DL.q rfl (.free rfl) rfl rfl rfl (Yld.load p3 rfl (atM (hc1 0 _ rfl) ((fun e => e.elim hgq (fun e => hgv gb e rfl))))) (Mod.drew _ _) ?_
  iterate 3 refine DL.p rfl rfl rfl ?_
  refine DL.qf rfl (.free rfl) rfl rfl (Yld.fieldAddr fo101_2 rfl) ?_
  refine DL.q rfl (.free rfl) rfl rfl rfl (Yld.load p22 rfl (atM (hbp3.cell rfl) ((fun e => e.elim hpq (fun e => hpv p e rfl))))) (Mod.drew _ _) ?_
  refine DL.p rfl rfl rfl ?_
  refine DL.re (d := 41) rfl rfl (congrArg (Value.int .u64) (show _ = stop + ret by rw [IntKind.wrap_u64]; omega)) ?_
  refine DL.op rfl (.free rfl) rfl rfl (Does.call rfl e99 (reapPut_ok _ qu q vq (hq3.grow (Mod.drew No _)) hs a.id (stop + ret) (by omega))) ?_
  rintro _ w4 ⟨rfl, vq', hq4, hm4', hf4⟩
  have hm4 : Mod (fun b => b = qu ∨ vq.ownBlock = some b) w3 w4 := (Mod.drew _ _).trans hm4'
  refine ⟨hm4, ?_⟩
  have hz3 := hm03.size
  refine DL.done ?_
  refine RK.end_of Tryz.func49 (res0 rfl) ?_
  exact ⟨_, rfl, rfl, vq', hbp3.mod hm4 (fun e => e.elim hpq (fun e => hpv p e rfl)), hq4, hR.mod hm4 (fun b e h => by cases e; exact h.elim hgq (fun e => hgv gb e rfl)), (hm03.mono fun b _ e => .inr (.inr (by rw [e]; rfl))).trans (hm4.mono fun b _ e => e.elim .inl (fun e => .inr (.inl e))), fun b e => (hf4 b e).elim .inl (fun h => .inr (by simp only [World.drew] at h; omega))⟩
end Go.Proofs.YtbcbfjnlnmhpbaaGreat
set_option linter.unusedVariables false
set_option linter.unusedSimpArgs false
set_option maxHeartbeats 1600000
set_option maxRecDepth 100000
namespace Go.Proofs.YtbcbfjnlnmhpbaaGreat
open Go Go.X
def entZ (ret : Int) (a : Sil) : En := ⟨a.stop + ret, a.id⟩
theorem ZA.perm' {w : World} {p : Nat} {s : SS} {M : Nat → Prop} {pl qu : Nat} {vp vq vs : Value} {al : List Sil} {q : List En} (h : ZA w p s M pl qu vp vq vs al q) : q.Perm (al.map (entZ s.ret)) := h.perm
theorem dropE_none {q : List En} {id : Int} (h : ∀ x ∈ q, x.id ≠ id) : dropE q id = q := List.eraseP_of_forall_not fun x hx => by simpa using h x hx
theorem dropE_no {q : List En} {id : Int} {L : List En} (hp : q.Perm L) (hd : L.Pairwise fun x y => x.id ≠ y.id) : ∀ x ∈ dropE q id, x.id ≠ id := by
  have hd' : q.Pairwise fun x y => x.id ≠ y.id := (hp.pairwise_iff (fun {a b} h => fun e => h e.symm)).2 hd
  clear hd hp
  induction q with
  | nil => intro x hx; simp [dropE] at hx
  | cons y q ih =>
    rw [List.pairwise_cons] at hd'
    intro x hx
    unfold dropE at hx
    by_cases hy : y.id = id
    · rw [List.eraseP_cons_of_pos (by simpa using hy)] at hx
      have := hd'.1 x hx
      omega
    · rw [List.eraseP_cons_of_neg (by simpa using hy)] at hx
      rcases List.mem_cons.1 hx with rfl | hx
      · exact hy
      · exact ih hd'.2 x hx
theorem ids_ne {ret : Int} {al : List Sil} (hris : Ris (al.map (·.id))) : (al.map (entZ ret)).Pairwise fun x y => x.id ≠ y.id := by
  have hris := List.pairwise_map.1 hris
  rw [List.pairwise_map]
  exact hris.imp fun {x y} h e => by simp only [entZ] at e; omega
theorem turn_sort {ret : Int} {al : List Sil} {q : List En} {id due : Int} (hs : SortE q) (hperm : q.Perm (al.map (entZ ret))) (hris : Ris (al.map (·.id))) : SortE (putE (dropE q id) ⟨due, id⟩) :=
  putE_sort (dropE_sort hs id) fun h => dropE_no hperm (ids_ne hris) _ h rfl
theorem ZStore.next {M : Nat → Prop} {w w' : World} {p pl qu : Nat} {s' : SS} {vp vq vs : Value} {al : List Sil} {q : List En} (hM : ∀ b, M b → b < w.heap.size) (hm : Mod M w w')
    (blk : Blk w' p 101 [pp pl, pp qu, .int .u64 s'.ret, vs]) (pool : PoolAt w' pl s'.most s'.last (al.map (·.id)) vp) (que : QAt w' qu q vq) (row : Row w' 41 8 vs al.length (al.flatMap silC)) (als : al.map pubZ = s'.sl)
    (sms : ∀ a ∈ al, SlM M w a.mv a.ms ∨ (Row w' 108 3 a.mv a.ms.length (a.ms.flatMap mtC) ∧ ∀ b, a.mv.ownBlock = some b → w.heap.size ≤ b)) (sort : SortE q) (perm : q.Perm (al.map (entZ s'.ret))) (hO : ∀ b, ownS p pl qu vp vq vs b → M b ∨ w.heap.size ≤ b) :
    ZStore (ownS p pl qu vp vq vs) (fun b => M b ∨ ownS p pl qu vp vq vs b) w' p s' := by
  have hty : ∀ b, ownS p pl qu vp vq vs b → ∀ k, Ty w' k 108 → b ≠ k := fun b e k hk => by
    rcases e with rfl | rfl | rfl | e | e | e
    · exact blk.ty.ne hk rfl
    · exact pool.blk.ty.ne hk rfl
    · exact que.blk.ty.ne hk rfl
    · exact (pool.row.ty e).ne hk rfl
    · exact (que.row.ty e).ne hk rfl
    · exact (row.ty e).ne hk rfl
  refine ⟨pl, qu, vp, vq, vs, al, q, fun _ => Iff.rfl, blk, pool, que, row, als, fun a ha => ?_, sort, perm, fun b e => .inr e, fun b e => ?_⟩
  · rcases sms a ha with h | ⟨h, hf⟩
    · exact (h.off (by omega) (fun b hb e => e.elim id fun e => (hO b e).elim id fun e => by omega)).mod (hm.mono fun b _ e => .inl e)
    · refine Sl.own h fun k hk e => ?_
      have h1 := hf k hk
      rcases e with e | e
      · have := hM k e; omega
      · exact hty k e k (h.ty hk) rfl
  · rcases e with e | rfl | rfl | rfl | e | e | e
    · exact Nat.lt_of_lt_of_le (hM b e) hm.size
    · exact blk.lt
    · exact pool.blk.lt
    · exact que.blk.lt
    · exact pool.row.lt e
    · exact que.row.lt e
    · exact row.lt e
def clampS (x lo hi : Int) : Int := if hi < (if lo > x then lo else x) then hi else (if lo > x then lo else x)
theorem newZ_ok (m r : Int) (w : World) : Fx Tryz.prog 10 [.int .i64 m, .int .u64 r] w (fun u w' => ∃ p O, u = pp p ∧ ZStore O O w' p ⟨clampS r 1 1048576, clampS m 1 12, 0, []⟩ ∧ Grow w w' ∧ ∀ b, O b → w.heap.size ≤ b) := by
  refine enter Tryz.func10 rfl rfl rfl _ (Pick.sub (l := [0, 1]) (.cons rfl (.cons rfl .nil))) ?_
  refine RK.seq ?_
  refine RK.region ?_
  refine RL.p rfl rfl ?_
  refine RL.done ?_
  refine RK.seq ?_
  refine RK.region ?_
  refine RL.p rfl rfl ?_
  refine RL.q (.free rfl) rfl rfl (Yld.max2 rfl rfl) ?_
  refine RL.q (.free rfl) rfl rfl (Yld.min2 rfl rfl) ?_
  refine RL.op (.free rfl) rfl rfl (Does.call rfl e43 (poolNew_ok _ _)) ?_
  rintro _ w1 ⟨pl, rfl, hpa, hp1, hg1, hz1⟩
  refine RL.op (.free rfl) rfl rfl (Does.call rfl e44 (reapNew_ok _)) ?_
  rintro _ w2 ⟨qu, rfl, hqa, hq2, hg2, hz2⟩
  refine RL.p rfl rfl ?_
  refine RL.q (.free rfl) rfl rfl (Yld.max2k rfl rfl) ?_
  refine RL.q (.free rfl) rfl rfl (Yld.min2k rfl rfl) ?_
  refine RL.q (.free rfl) rfl rfl (Yld.build (v := .agg #[pp pl, pp qu, .int .u64 (clampS r 1 1048576), .slice none 0 0]) rfl (fun w => by kernel_rfl)) ?_
  refine RL.op (.free rfl) rfl rfl (Does.box rfl) ?_
  rintro _ w3 ⟨b14, rfl, hn14⟩
  have hmost : (if 0 > clampS m 1 12 then 0 else clampS m 1 12) = clampS m 1 12 := by unfold clampS; split <;> split <;> (try split) <;> omega
  have hp3 : PoolAt w3 pl (clampS m 1 12) 0 [] (.slice none 0 0) := by
      have h1 : PoolAt w1 pl (clampS m 1 12) 0 [] (.slice none 0 0) := hmost ▸ hp1
      exact ⟨h1.blk.mod (hg2.trans hn14.grow) (fun h => h), h1.row.mod (hg2.trans hn14.grow) (fun _ _ h => h), h1.ne⟩
  have hlt : ∀ b, ownS b14 pl qu (.slice none 0 0) (.slice none 0 0) (.slice none 0 0) b → b < w3.heap.size ∧ w.heap.size ≤ b := fun b e => by
      have h1 := hn14.at_
      have h2 := hg1.size
      have h3 := hn14.blk.lt
      have h4 := hp3.blk.lt
      have h5 := (hq2.grow hn14.grow).blk.lt
      have h6 := hg2.size
      rcases e with e | e | e | e | e | e
      · omega
      · omega
      · omega
      · simp [Value.ownBlock] at e
      · simp [Value.ownBlock] at e
      · simp [Value.ownBlock] at e
  refine RL.p rfl rfl ?_
  refine RL.done ?_
  refine RK.ret_of Tryz.func10 (res1 rfl rfl) ?_ _
  exact ⟨_, rfl, b14, ownS b14 pl qu (.slice none 0 0) (.slice none 0 0) (.slice none 0 0), rfl, ⟨pl, qu, .slice none 0 0, .slice none 0 0, .slice none 0 0, [], [], fun _ => Iff.rfl, ⟨hn14.blk, hp3, hq2.grow hn14.grow, Row.nil _ _ _, rfl, fun a ha => (by cases ha), List.Pairwise.nil, List.Perm.nil, fun b e => e, fun b e => (hlt b e).1⟩⟩, (hg1.trans hg2).trans hn14.grow, fun b e => (hlt b e).2⟩
theorem takeNo_ok (w : World) (p : Nat) (most last : Int) (out : List Int) (v : Value) (hp : PoolAt w p most last out v) (h1 : most ≤ out.length) :
    Fx Tryz.prog 47 [pp p] w (fun u w' => u = .tuple #[.int .i64 0, .bool false] ∧ Grow w w') := by
  obtain ⟨ad, c, rfl⟩ := hp.row.slice
  refine enter Tryz.func47 rfl rfl rfl _ (Pick.sub (l := [0]) (.cons rfl .nil)) ?_
  refine RK.seq ?_
  refine RK.region ?_
  iterate 2 refine RL.p rfl rfl ?_
  refine RL.done ?_
  iterate 2 refine RK.seq ?_
  refine RK.drawM No [(0, false), (1, false), (2, false), (3, false), (4, false), (5, false), (6, false), (7, false), (8, false), (9, false), (10, false), (11, false), (12, false), (13, false), (14, false), (15, false), (16, false)] [] mixed (by kernel_rfl) ?_
  iterate 2 refine DL.p rfl rfl rfl ?_
  refine DL.qf rfl (.free rfl) rfl rfl (Yld.fieldAddr fo152_2 rfl) ?_
  refine DL.q rfl (.free rfl) rfl rfl rfl (Yld.load p35 rfl (atM (hp.blk.cell rfl) id)) (Mod.drew _ _) ?_
  refine DL.q rfl (.free rfl) rfl rfl rfl (Yld.lenSl u35 rfl) (Mod.drew _ _) ?_
  iterate 2 refine DL.p rfl rfl rfl ?_
  refine DL.qf rfl (.free rfl) rfl rfl (Yld.fieldAddr fo152_0 rfl) ?_
  refine DL.q rfl (.free rfl) rfl rfl rfl (Yld.load p3 rfl (atM (hp.blk.cell rfl) id)) (Mod.drew _ _) ?_
  iterate 2 refine DL.p rfl rfl rfl ?_
  refine DL.knownT (d := 14) rfl rfl (decide_eq_true (by omega)) ?_
  iterate 5 refine DL.no rfl (.no rfl rfl rfl rfl) rfl rfl ?_
  refine DL.p rfl rfl rfl ?_
  refine DL.done ?_
  refine RK.condT rfl ?_
  refine RK.seq ?_
  refine RK.region ?_
  iterate 2 refine RL.p rfl rfl ?_
  refine RL.done ?_
  refine RK.ret_of Tryz.func47 (res2 rfl rfl rfl) ?_ _
  exact ⟨_, rfl, rfl, Mod.drew _ _⟩
end Go.Proofs.YtbcbfjnlnmhpbaaGreat
set_option linter.unusedVariables false
set_option linter.unusedSimpArgs false
set_option maxHeartbeats 3200000
set_option maxRecDepth 100000
namespace Go.Proofs.YtbcbfjnlnmhpbaaGreat
open Go Go.X
theorem ZStore.self {O M : Nat → Prop} {w : World} {p : Nat} {s : SS} (h : ZStore O M w p s) : ZStore O (fun b => M b ∨ O b) w p s := by
  have e : (fun b => M b ∨ O b) = M := by
    obtain ⟨pl, qu, vp, vq, vs, al, q, hO, h⟩ := h
    exact funext fun b => propext ⟨fun e => e.elim id fun e => h.ownM b ((hO b).1 e), .inl⟩
  rw [e]; exact h
def makeS (s : SS) (now a b : Int) (ms : List Mt) (bd : Bd) : SS × Int × Int :=
  if rightS ms bd = false then (s, 0, 1) else if fitsS now a b ms ≠ 0 then (s, 0, fitsS now a b ms) else if s.most ≤ s.sl.length then (s, 0, 10)
  else ({ s with last := s.last + 1, sl := s.sl ++ [⟨s.last + 1, a, b, ms, bd⟩] }, s.last + 1, 0)
theorem fits_span {now a b : Int} {ms : List Mt} (h : ¬ fitsS now a b ms ≠ 0) : a < b ∧ now < b ∧ b ≤ 1099511627776 := by
  unfold fitsS at h
  split at h
  · simp at h
  · split at h
    · rename_i h2
      unfold spanS at h2
      simp only [Bool.and_eq_true, decide_eq_true_eq] at h2
      omega
    · simp at h
theorem makeZ_ok (w : World) (p : Nat) (s : SS) (O M : Nat → Prop) (h : ZStore O M w p s) (g : Gz s) (hlast : s.last < 2147483647) (now a b : Int) (hb0 : 0 ≤ b) (ms : List Mt) (vm : Value) (bd : Bd) (hms : SlM M w vm ms) (hlen : ms.length ≤ 1000000) :
    Fx Tryz.prog 11 [pp p, .int .u64 now, .int .u64 a, .int .u64 b, vm, .agg (bdC bd).toArray] w (fun u w' => ∃ O', u = .tuple #[.int .i64 (makeS s now a b ms bd).2.1, .int .i64 (makeS s now a b ms bd).2.2] ∧ ZStore O' (fun x => M x ∨ O' x) w' p (makeS s now a b ms bd).1 ∧ Mod O w w' ∧ ∀ x, O' x → O x ∨ w.heap.size ≤ x) := by
  have hself := h.self
  have hback : ∀ w', Grow w w' → ZStore O (fun b => M b ∨ O b) w' p s := fun w' hg => hself.grow hg
  obtain ⟨pl, qu, vp, vq, vs, al, q, hO, h⟩ := h
  have hle := g.le
  have hal := h.len
  have hids := h.ids
  have hql := h.qlen
  obtain ⟨adm, cm, rfl⟩ := hms.shape
  by_cases hfull : s.most ≤ s.sl.length
  · skip
    refine enter Tryz.func11 rfl rfl rfl _ (Pick.sub (l := [0, 1, 2, 3, 4, 5]) (.cons rfl (.cons rfl (.cons rfl (.cons rfl (.cons rfl (.cons rfl .nil))))))) ?_
    refine RK.seq ?_
    refine RK.region ?_
    refine RL.op (.free rfl) rfl rfl (Does.box rfl) ?_
    rintro _ w1 ⟨b11, rfl, hn11⟩
    have hB11 : Blk w1 b11 32 (bdC bd) := hn11.blk
    iterate 2 refine RL.p rfl rfl ?_
    refine RL.done ?_
    iterate 2 refine RK.seq ?_
    refine RK.region ?_
    refine RL.p rfl rfl ?_
    refine RL.q (.free rfl) rfl rfl (Yld.loadN (cs := bdC bd) a32 rfl (atN (blk0' hB11))) ?_
    refine RL.op (.free rfl) rfl rfl (Does.call rfl e45 (rightZ_ok M ms _ bd _ (hms.mod (Mod.any' hn11.grow)))) ?_
    rintro _ w2 ⟨rfl, hg2⟩
    refine RL.p rfl rfl ?_
    refine RL.done ?_
    first | refine RK.condD rfl (fun h20 => ?_) (fun h20 => ?_) | refine RK.condN rfl (fun h20 => ?_) (fun h20 => ?_) | refine RK.cond rfl (fun h20 => ?_) (fun h20 => ?_)
    · have e : makeS s now a b ms bd = (s, 0, 1) := by unfold makeS; rw [if_pos (by simpa using h20)]
      refine RK.seq ?_
      refine RK.region ?_
      iterate 2 refine RL.p rfl rfl ?_
      refine RL.done ?_
      refine RK.ret_of Tryz.func11 (res2 rfl rfl rfl) ?_ _
      exact ⟨_, rfl, O, by rw [e], by rw [e]; exact hback _ (hn11.grow.trans hg2), Mod.any' (hn11.grow.trans hg2), fun x e => .inl e⟩
    · refine RK.skip ?_
      iterate 2 refine RK.seq ?_
      refine RK.region ?_
      iterate 4 refine RL.p rfl rfl ?_
      refine RL.op (.free rfl) rfl rfl (Does.call rfl e46 (fitsZ_ok M now a b ms _ _ ((hms.mod (Mod.any' hn11.grow)).mod (Mod.any' hg2)))) ?_
      rintro _ w3 ⟨rfl, hg3⟩
      have hg03 := (hn11.grow.trans hg2).trans hg3
      refine RL.p rfl rfl ?_
      refine RL.done ?_
      refine RK.seq ?_
      refine RK.region ?_
      iterate 2 refine RL.p rfl rfl ?_
      refine RL.done ?_
      first | refine RK.condD rfl (fun h27 => ?_) (fun h27 => ?_) | refine RK.condN rfl (fun h27 => ?_) (fun h27 => ?_) | refine RK.cond rfl (fun h27 => ?_) (fun h27 => ?_)
      · have e : makeS s now a b ms bd = (s, 0, fitsS now a b ms) := by unfold makeS; rw [if_neg (by simpa using h20), if_pos h27]
        refine RK.seq ?_
        refine RK.region ?_
        iterate 3 refine RL.p rfl rfl ?_
        refine RL.done ?_
        refine RK.ret_of Tryz.func11 (res2 rfl rfl rfl) ?_ _
        exact ⟨_, rfl, O, by rw [e], by rw [e]; exact hback _ hg03, Mod.any' hg03, fun x e => .inl e⟩
      · have e : makeS s now a b ms bd = (s, 0, 10) := by unfold makeS; rw [if_neg (by simpa using h20), if_neg h27, if_pos hfull]
        have h3 := h.grow hg03
        refine RK.skip ?_
        refine RK.seq ?_
        refine RK.region ?_
        iterate 2 refine RL.p rfl rfl ?_
        refine RL.q (.free rfl) rfl rfl (Yld.fieldAddr fo101_0 rfl) ?_
        refine RL.q (.free rfl) rfl rfl (Yld.load p96 rfl (at1 (h3.blk.cell rfl))) ?_
        refine RL.op (.free rfl) rfl rfl (Does.call rfl e47 (takeNo_ok _ pl s.most s.last _ vp h3.pool (by rw [List.length_map, hal]; exact hfull))) ?_
        rintro _ w4 ⟨rfl, hg4⟩
        iterate 5 refine RL.p rfl rfl ?_
        refine RL.done ?_
        iterate 2 refine RK.seq ?_
        refine RK.region ?_
        iterate 2 refine RL.p rfl rfl ?_
        refine RL.done ?_
        refine RK.condT (hcT rfl (rfl)) ?_
        refine RK.seq ?_
        refine RK.region ?_
        iterate 2 refine RL.p rfl rfl ?_
        refine RL.done ?_
        refine RK.ret_of Tryz.func11 (res2 rfl rfl rfl) ?_ _
        exact ⟨_, rfl, O, by rw [e], by rw [e]; exact hback _ (hg03.trans hg4), Mod.any' (hg03.trans hg4), fun x e => .inl e⟩
  · skip
    refine enter Tryz.func11 rfl rfl rfl _ (Pick.sub (l := [0, 1, 2, 3, 4, 5]) (.cons rfl (.cons rfl (.cons rfl (.cons rfl (.cons rfl (.cons rfl .nil))))))) ?_
    refine RK.seq ?_
    refine RK.region ?_
    refine RL.op (.free rfl) rfl rfl (Does.box rfl) ?_
    rintro _ w1 ⟨b11, rfl, hn11⟩
    have hB11 : Blk w1 b11 32 (bdC bd) := hn11.blk
    iterate 2 refine RL.p rfl rfl ?_
    refine RL.done ?_
    iterate 2 refine RK.seq ?_
    refine RK.region ?_
    refine RL.p rfl rfl ?_
    refine RL.q (.free rfl) rfl rfl (Yld.loadN (cs := bdC bd) a32 rfl (atN (blk0' hB11))) ?_
    refine RL.op (.free rfl) rfl rfl (Does.call rfl e45 (rightZ_ok M ms _ bd _ (hms.mod (Mod.any' hn11.grow)))) ?_
    rintro _ w2 ⟨rfl, hg2⟩
    refine RL.p rfl rfl ?_
    refine RL.done ?_
    first | refine RK.condD rfl (fun h20 => ?_) (fun h20 => ?_) | refine RK.condN rfl (fun h20 => ?_) (fun h20 => ?_) | refine RK.cond rfl (fun h20 => ?_) (fun h20 => ?_)
    · have e : makeS s now a b ms bd = (s, 0, 1) := by unfold makeS; rw [if_pos (by simpa using h20)]
      refine RK.seq ?_
      refine RK.region ?_
      iterate 2 refine RL.p rfl rfl ?_
      refine RL.done ?_
      refine RK.ret_of Tryz.func11 (res2 rfl rfl rfl) ?_ _
      exact ⟨_, rfl, O, by rw [e], by rw [e]; exact hback _ (hn11.grow.trans hg2), Mod.any' (hn11.grow.trans hg2), fun x e => .inl e⟩
    · refine RK.skip ?_
      iterate 2 refine RK.seq ?_
      refine RK.region ?_
      iterate 4 refine RL.p rfl rfl ?_
      refine RL.op (.free rfl) rfl rfl (Does.call rfl e46 (fitsZ_ok M now a b ms _ _ ((hms.mod (Mod.any' hn11.grow)).mod (Mod.any' hg2)))) ?_
      rintro _ w3 ⟨rfl, hg3⟩
      have hg03 := (hn11.grow.trans hg2).trans hg3
      refine RL.p rfl rfl ?_
      refine RL.done ?_
      refine RK.seq ?_
      refine RK.region ?_
      iterate 2 refine RL.p rfl rfl ?_
      refine RL.done ?_
      first | refine RK.condD rfl (fun h27 => ?_) (fun h27 => ?_) | refine RK.condN rfl (fun h27 => ?_) (fun h27 => ?_) | refine RK.cond rfl (fun h27 => ?_) (fun h27 => ?_)
      · have e : makeS s now a b ms bd = (s, 0, fitsS now a b ms) := by unfold makeS; rw [if_neg (by simpa using h20), if_pos h27]
        refine RK.seq ?_
        refine RK.region ?_
        iterate 3 refine RL.p rfl rfl ?_
        refine RL.done ?_
        refine RK.ret_of Tryz.func11 (res2 rfl rfl rfl) ?_ _
        exact ⟨_, rfl, O, by rw [e], by rw [e]; exact hback _ hg03, Mod.any' hg03, fun x e => .inl e⟩
      · have e : makeS s now a b ms bd = ({ s with last := s.last + 1, sl := s.sl ++ [⟨s.last + 1, a, b, ms, bd⟩] }, s.last + 1, 0) := by unfold makeS; rw [if_neg (by simpa using h20), if_neg h27, if_neg hfull]
        have hsp := fits_span h27
        have hl0 := g.l0
        have hr0 := g.r0
        have hr1 := g.r1
        have h3 := h.grow hg03
        have hlt3 : ∀ x, ownS p pl qu vp vq vs x → x < w.heap.size := fun x e => h.own_lt e
        have hz03 := hg03.size
        have hb11 : ∀ x, ownS p pl qu vp vq vs x → x ≠ b11 := fun x e hx => by have := hlt3 x e; have := hn11.at_; omega
        refine RK.skip ?_
        refine RK.seq ?_
        refine RK.region ?_
        iterate 2 refine RL.p rfl rfl ?_
        refine RL.q (.free rfl) rfl rfl (Yld.fieldAddr fo101_0 rfl) ?_
        refine RL.q (.free rfl) rfl rfl (Yld.load p96 rfl (at1 (h3.blk.cell rfl))) ?_
        refine RL.op (.free rfl) rfl rfl (Does.call rfl e47 (take_ok _ pl s.most s.last _ vp h3.pool (by rw [List.length_map, hal]; omega) (by omega) hl0 (by omega) (by rw [List.length_map]; omega))) ?_
        rintro _ w4 ⟨rfl, vp', hp4, hm4, hf4⟩
        have hm04 : Mod (fun x => x = pl ∨ vp.ownBlock = some x) w w4 := (Mod.any' hg03).trans hm4
        have n1 : ¬ (p = pl ∨ vp.ownBlock = some p) := fun e => e.elim h.ne_ppl fun e => (h.pool.row.ty e).ne h.blk.ty rfl rfl
        have hb4 := h.blk.mod hm04 n1
        have hr4 := h.row.mod hm04 (fun x e1 e2 => e2.elim (fun e2 => (h.row.ty e1).ne h.pool.blk.ty rfl e2) (fun e2 => (h.row.ty e1).ne (h.pool.row.ty e2) rfl rfl))
        have hq4 := h.que.mod hm04 (fun e2 => e2.elim (fun e2 => h.ne_plqu e2.symm) (fun e2 => h.que.blk.ty.ne (h.pool.row.ty e2) rfl rfl)) (fun x e1 e2 => e2.elim (fun e2 => (h.que.row.ty e1).ne h.pool.blk.ty rfl e2) (fun e2 => (h.que.row.ty e1).ne (h.pool.row.ty e2) rfl rfl))
        have hO4 : Mod M w w4 := hm04.mono fun x _ e => h.ownM x (e.elim (fun e => .inr (.inl e)) (fun e => .inr (.inr (.inr (.inl e)))))
        have hB4 := (hB11.mod (hg2.trans hg3) (fun h => h)).mod hm4 (fun e => hb11 b11 (e.elim (fun e => .inr (.inl e)) (fun e => .inr (.inr (.inr (.inl e))))) rfl)
        have hz4 := hm04.size
        iterate 5 refine RL.p rfl rfl ?_
        refine RL.done ?_
        iterate 2 refine RK.seq ?_
        refine RK.region ?_
        iterate 2 refine RL.p rfl rfl ?_
        refine RL.done ?_
        refine RK.condF (hcF rfl (rfl)) ?_
        refine RK.skip ?_
        refine RK.seq ?_
        refine RK.drawM (fun x => vs.ownBlock = some x) [(0, false), (1, false), (2, false), (3, false), (4, false), (5, false), (6, false), (8, false), (7, true), (9, false), (10, true), (11, true), (12, false), (13, false), (14, true)] [14] mixed (by kernel_rfl) ?_
        iterate 3 refine DL.p rfl rfl rfl ?_
        refine DL.qf rfl (.free rfl) rfl rfl (Yld.fieldAddr fo101_3 rfl) ?_
        refine DL.q rfl (.free rfl) rfl rfl rfl (Yld.load p44 rfl (atM (hb4.cell rfl) (fun e => (h.row.ty e).ne h.blk.ty rfl rfl))) (Mod.drew _ _) ?_
        iterate 2 refine DL.p rfl rfl rfl ?_
        refine DL.q rfl (.free rfl) rfl rfl rfl (Yld.loadN (cs := bdC bd) a32 rfl (atNM (blk0' hB4) (fun e => hb11 b11 (.inr (.inr (.inr (.inr (.inr e))))) rfl))) (Mod.drew _ _) ?_
        refine DL.op rfl (.free rfl) rfl rfl (Does.call rfl e48 (cloneM_ok M ms _ _ ((hms.mod hO4).mod (Mod.drew _ _)) hlen)) ?_
        rintro u5 w5 ⟨hr5, hf5, hg5'⟩
        obtain ⟨ad5, c5, rfl⟩ := hr5.slice
        have hg5 := (Mod.drew No w4).trans hg5'
        refine ⟨Mod.any' hg5, ?_⟩
        refine DL.qf rfl (.free rfl) rfl rfl (Yld.build (v := .agg (silC ⟨s.last + 1, 0, 0, 0, .slice ad5 ms.length c5, ms, bd⟩).toArray) rfl (fun w => by kernel_rfl)) ?_
        refine DL.op rfl (.free rfl) rfl rfl (Does.slice1 u44 i41 rfl rfl rfl rfl rfl) ?_
        rintro _ w6 ⟨b49, rfl, hn49⟩
        have hg46 := hg5.trans hn49.grow
        refine ⟨Mod.any' hg46, ?_⟩
        refine DL.op rfl (.free rfl) rfl rfl (Does.append u44 i41 rfl rfl rfl rfl rfl (hr4.mod hg46 (fun _ _ h => h)) (Sl.new hn49 8 1 rfl (by omega) (fun h => h)) (rfl) (by omega)) ?_
        rintro u7 w7 ⟨hr7, hm7, hu7⟩
        refine ⟨(Mod.any' hg46).trans hm7, ?_⟩
        obtain ⟨ad7, c7, rfl⟩ := hr7.slice
        obtain ⟨a0, ha0⟩ : ∃ a0 : Sil, a0 = ⟨s.last + 1, 0, 0, 0, .slice ad5 ms.length c5, ms, bd⟩ := ⟨_, rfl⟩
        have hb7 := (hb4.mod hg46 (fun h => h)).mod hm7 (fun e => (h.row.ty e).ne h.blk.ty rfl rfl)
        have hq7 := (hq4.grow hg46).mod hm7 (fun e => (h.row.ty e).ne h.que.blk.ty rfl rfl) (fun x e1 e2 => (h.que.row.ty e1).ne (h.row.ty e2) rfl rfl)
        have hp6 := hp4.mod hg46 (fun h => h) (fun _ _ h => h)
        have hr6 := hr4.mod hg46 (fun _ _ h => h)
        have hp7 := hp6.mod hm7 (fun e => (hr6.ty e).ne hp6.blk.ty rfl rfl) (fun x e1 e2 => (hp6.row.ty e1).ne (hr6.ty e2) rfl rfl)
        have hm57 := hr5.mod hn49.grow (fun _ _ h => h)
        have hm7m := hm57.mod hm7 (fun x e1 e2 => (hm57.ty e1).ne (hr6.ty e2) rfl rfl)
        refine DL.p rfl rfl rfl ?_
        refine DL.qf rfl (.free rfl) rfl rfl (Yld.fieldAddr fo101_3 rfl) ?_
        refine DL.opT rfl (.free rfl) rfl rfl (Does.store i44 rfl rfl rfl hb7 (.s (.s (.s .z)))) ?_
        rintro _ w8 ⟨hb8, hm8, hs8⟩
        have hr8 := hr7.mod hm8 (fun x e1 e2 => (hr7.ty e1).ne hb7.ty rfl e2)
        have hq8 := hq7.mod hm8 (fun e => hq7.blk.ty.ne hb7.ty rfl e) (fun x e1 e2 => (hq7.row.ty e1).ne hb7.ty rfl e2)
        have hp8 := hp7.mod hm8 (fun e => hp7.blk.ty.ne hb7.ty rfl e) (fun x e1 e2 => (hp7.row.ty e1).ne hb7.ty rfl e2)
        have hm8m := hm7m.mod hm8 (fun x e1 e2 => (hm7m.ty e1).ne hb7.ty rfl e2)
        have hr8' : Row w8 41 8 (.slice ad7 (al.length + 1) c7) (al ++ [a0]).length ((al ++ [a0]).flatMap silC) := by
            rw [List.length_append, List.flatMap_append, List.flatMap_singleton, ha0]; exact hr8
        have hset : (al ++ [a0]).set al.length { a0 with start := a, stop := b } = al ++ [{ a0 with start := a, stop := b }] := by simp
        refine DL.done ?_
        refine RK.seq ?_
        refine RK.region ?_
        iterate 3 refine RL.p rfl rfl ?_
        refine RL.q (.free rfl) rfl rfl (Yld.fieldAddr fo101_3 rfl) ?_
        refine RL.q (.free rfl) rfl rfl (Yld.load p44 rfl (at1 (hb8.cell rfl))) ?_
        refine RL.q (.free rfl) rfl rfl (Yld.lenSl u44 rfl) ?_
        refine RL.p rfl rfl ?_
        refine RL.re (d := 59) rfl rfl (sub_i64 (z := (al.length : Int)) (by simp) (by omega) (by omega)) ?_
        iterate 2 refine RL.p rfl rfl ?_
        refine RL.op (.free rfl) rfl rfl (Does.call rfl e49 (turnZ_ok _ p pl qu s.ret a b vq (.slice ad7 (al.length + 1) c7) (al ++ [a0]) q al.length a0 hb8 hq8 h.sort hr8' (by simp) (by omega) (by simp; omega) (by omega) (by omega))) ?_
        rintro _ w9 ⟨rfl, vq', hb9, hq9, hr9, hm9, hf9⟩
        have hid : a0.id = s.last + 1 := by rw [ha0]
        have hn8 : ∀ x, (x = qu ∨ vq.ownBlock = some x ∨ (Value.slice ad7 (al.length + 1) c7).ownBlock = some x) → Ty w8 x 155 ∨ Ty w8 x 164 ∨ Ty w8 x 41 := fun x e => by
            rcases e with rfl | e | e
            · exact .inl hq8.blk.ty
            · exact .inr (.inl (hq8.row.ty e))
            · exact .inr (.inr (hr8.ty e))
        have hp9 := hp8.mod hm9 (fun e => by
            rcases hn8 _ e with e | e | e
            · exact hp8.blk.ty.ne e rfl rfl
            · exact hp8.blk.ty.ne e rfl rfl
            · exact hp8.blk.ty.ne e rfl rfl) (fun x e1 e => by
            rcases hn8 _ e with e | e | e
            · exact (hp8.row.ty e1).ne e rfl rfl
            · exact (hp8.row.ty e1).ne e rfl rfl
            · exact (hp8.row.ty e1).ne e rfl rfl)
        have hm9m := hm8m.mod hm9 (fun x e1 e => by
            rcases hn8 _ e with e | e | e
            · exact (hm8m.ty e1).ne e rfl rfl
            · exact (hm8m.ty e1).ne e rfl rfl
            · exact (hm8m.ty e1).ne e rfl rfl)
        rw [hset] at hr9
        have hz6 := hg46.size
        have hz5 := hn49.grow.size
        have hz7 := hm7.size
        have hz8 := hm8.size
        have hz55 := hg5.size
        have hown : ∀ x, ownS p pl qu vp' vq' (.slice ad7 (al.length + 1) c7) x → ownS p pl qu vp vq vs x ∨ w.heap.size ≤ x := fun x e => by
            rcases e with e | e | e | e | e | e
            · exact .inl (.inl e)
            · exact .inl (.inr (.inl e))
            · exact .inl (.inr (.inr (.inl e)))
            · rcases hf4 x e with e | e
              · exact .inl (.inr (.inr (.inr (.inl e))))
              · exact .inr (by omega)
            · rcases hf9 x e with e | e
              · exact .inl (.inr (.inr (.inr (.inr (.inl e)))))
              · exact .inr (by omega)
            · rcases hu7 with h7 | h7
              · rw [h7] at e; exact .inl (.inr (.inr (.inr (.inr (.inr e)))))
              · rw [h7] at e; cases e; exact .inr (by omega)
        have hmod8 : Mod (ownS p pl qu vp vq vs) w w8 := ((hm04.mono fun x _ e => e.elim (fun e => .inr (.inl e)) (fun e => .inr (.inr (.inr (.inl e))))).trans (Mod.any' hg46)).trans ((hm7.mono fun x _ e => .inr (.inr (.inr (.inr (.inr e))))).trans (hm8.mono fun x _ e => .inl e))
        have hmod9 : Mod (ownS p pl qu vp vq vs) w w9 := hmod8.then hm9 (fun x hx e => by
            rcases e with e | e | e
            · exact .inr (.inr (.inl e))
            · exact .inr (.inr (.inr (.inr (.inl e))))
            · exact (hown x (.inr (.inr (.inr (.inr (.inr e)))))).elim id fun e => by omega)
        have hdrop : dropE q a0.id = q := dropE_none fun x hx e => by
            have h1 := h.perm'.mem_iff.1 hx
            obtain ⟨y, hy, rfl⟩ := List.mem_map.1 h1
            have h2 : pubZ y ∈ s.sl := by rw [← h.als]; exact List.mem_map.2 ⟨y, hy, rfl⟩
            have h3 := g.low _ h2
            have h4 : y.id = a0.id := e
            have h5 : y.id ≤ s.last := h3
            omega
        refine RL.done ?_
        refine RK.seq ?_
        refine RK.region ?_
        iterate 3 refine RL.p rfl rfl ?_
        refine RL.done ?_
        refine RK.ret_of Tryz.func11 (res2 rfl rfl rfl) ?_ _
        exact ⟨_, rfl, ownS p pl qu vp' vq' (.slice ad7 (al.length + 1) c7), by rw [e], by
            rw [e]
            refine ZStore.next (w := w) (al := al ++ [{ a0 with start := a, stop := b }]) h.ltM (hmod9.mono fun x _ e => h.ownM x e) hb9 ?_ hq9 (by rw [List.length_append]; exact (by rw [List.length_append] at hr9; exact hr9)) ?_ (fun y hy => ?_) ?_ ?_ (fun x e => (hown x e).elim (fun e => .inl (h.ownM x e)) .inr)
            · rw [List.map_append, List.map_singleton]
              show PoolAt w9 pl s.most (s.last + 1) (al.map (·.id) ++ [a0.id]) vp'
              rw [hid]; exact hp9
            · rw [List.map_append, List.map_singleton, h.als]
              subst ha0; rfl
            · rcases List.mem_append.1 hy with hy | hy
              · exact .inl (h.sms y hy)
              · obtain rfl := List.mem_singleton.1 hy
                subst ha0
                exact .inr ⟨hm9m, fun b e => by have := hf5 b e; simp only [World.drew] at this; omega⟩
            · rw [hdrop]
              have := turn_sort (id := a0.id) (due := b + s.ret) h.sort h.perm' (by rw [hids]; exact g.ris)
              rw [hdrop] at this; exact this
            · rw [hdrop, List.map_append, List.map_singleton]
              refine (putE_perm _ _).trans ?_
              exact (List.Perm.cons _ h.perm').trans (List.perm_append_singleton _ _).symm, hmod9.mono fun x _ e => (hO x).2 e, fun x e => (hown x e).elim (fun e => .inl ((hO x).2 e)) .inr⟩
end Go.Proofs.YtbcbfjnlnmhpbaaGreat
set_option linter.unusedVariables false
set_option linter.unusedSimpArgs false
set_option maxHeartbeats 3200000
set_option maxRecDepth 100000
namespace Go.Proofs.YtbcbfjnlnmhpbaaGreat
open Go Go.X
noncomputable def holdZ (now : Int) (ls : List Lab) (v : Nat) (a : Slz) : Bool := decide (stateS now a.start a.stop = 2) && (a.ms.all fun m => holdsM m ls) && inBd a.bd v
noncomputable def holdsZ (now : Int) (ls : List Lab) (v : Nat) (l : List Slz) : List Int := (l.filter (holdZ now ls v)).map (·.id)
theorem holdsZ_len (now : Int) (ls : List Lab) (v : Nat) (l : List Slz) : (holdsZ now ls v l).length ≤ l.length := by
  unfold holdsZ
  rw [List.length_map]
  exact List.length_filter_le _ _
theorem holdsZ_snoc (now : Int) (ls : List Lab) (v : Nat) {al : List Sil} {k : Nat} {s : Sil} (hs : al[k]? = some s) : holdsZ now ls v ((al.take (k + 1)).map pubZ) = holdsZ now ls v ((al.take k).map pubZ) ++ (if holdZ now ls v (pubZ s) = true then [s.id] else []) := by
  unfold holdsZ
  rw [List.take_add_one, hs, List.map_append, List.filter_append, List.map_append]
  congr 1
  show List.map _ (List.filter _ [pubZ s]) = _
  by_cases h : holdZ now ls v (pubZ s) = true
  · rw [if_pos h, List.filter_cons_of_pos h]; rfl
  · rw [if_neg h, List.filter_cons_of_neg h]; rfl
theorem holdsStore_ok (w : World) (p : Nat) (s : SS) (O M : Nat → Prop) (h : ZStore O M w p s) (g : Gz s) (now : Int) (M' : Nat → Prop) (ls : List Lab) (vl : Value) (v : Nat) (hl : SlL M' w vl ls) (hz : ∀ x ∈ ls, x.value.size ≤ 100000) :
    Fx Tryz.prog 15 [pp p, .int .u64 now, vl, .float .f64 v] w (fun u w' => Row w' 3 1 u (holdsZ now ls v s.sl).length (ints (holdsZ now ls v s.sl)) ∧ Fresh w.heap.size u ∧ Grow w w') := by
  obtain ⟨pl, qu, vp, vq, vs, al, q, hO, h⟩ := h
  have hle := g.le
  have hal := h.len
  have hals := h.als
  have hsl := Sl.own (M := No) h.row (fun _ _ h => h)
  have hsms := h.sms
  have hblk := h.blk
  obtain ⟨ads, cs, rfl⟩ := h.row.slice
  clear h
  obtain ⟨adl, cl, rfl⟩ := hl.shape
  refine enter Tryz.func15 rfl rfl rfl _ (Pick.sub (l := [0, 1, 2, 3]) (.cons rfl (.cons rfl (.cons rfl (.cons rfl .nil))))) ?_
  refine RK.seq ?_
  refine RK.region ?_
  refine RL.p rfl rfl ?_
  refine RL.done ?_
  refine RK.seq ?_
  refine RK.region ?_
  refine RL.p rfl rfl ?_
  refine RL.done ?_
  iterate 2 refine RK.seq ?_
  refine RK.region ?_
  iterate 2 refine RL.p rfl rfl ?_
  refine RL.q (.free rfl) rfl rfl (Yld.fieldAddr fo101_3 rfl) ?_
  refine RL.q (.free rfl) rfl rfl (Yld.load p44 rfl (at1 (hblk.cell rfl))) ?_
  refine RL.q (.free rfl) rfl rfl (Yld.lenSl u44 rfl) ?_
  refine RL.p rfl rfl ?_
  refine RL.done ?_
  refine RK.block ?_
  refine RK.loop (fun s : Nat × Value => [(1, .int .u64 now), (2, .slice adl ls.length cl), (3, .float .f64 v), (9, s.2), (15, .slice ads al.length cs), (16, .int .i64 (al.length : Int)), (17, .int .i64 (s.1 : Int))]) (fun s w' => Row w' 3 1 s.2 (holdsZ now ls v ((al.take s.1).map pubZ)).length (ints (holdsZ now ls v ((al.take s.1).map pubZ))) ∧ Fresh w.heap.size s.2 ∧ Grow w w' ∧ s.1 ≤ al.length) (fun s => al.length - s.1) (0, .slice none 0 0) ⟨rfl, rfl, rfl, rfl, rfl, rfl, rfl, trivial⟩ ⟨by simpa [holdsZ] using Row.nil _ _ _, fun b e => by simp [Value.ownBlock] at e, Mod.refl _ _, by simp⟩ (fun s w' hI ih => ?_)
  obtain ⟨k, u⟩ := s
  obtain ⟨hr, hf, hg, hk⟩ := hI
  simp only at hr hf hk
  refine RK.seq ?_
  refine RK.region ?_
  refine RL.p rfl rfl ?_
  refine RL.done ?_
  refine RK.seq ?_
  first | refine RK.condD rfl (fun h18 => ?_) (fun h18 => ?_) | refine RK.condN rfl (fun h18 => ?_) (fun h18 => ?_) | refine RK.cond rfl (fun h18 => ?_) (fun h18 => ?_)
  · obtain ⟨s, hs⟩ : ∃ s, al[k]? = some s := ⟨al[k]'(by omega), List.getElem?_eq_getElem (by omega)⟩
    obtain ⟨b1, o1, c1', he1, _, _, hc1⟩ := hsl.elem silC_len hs
    cases he1
    have hsm0 := hsms s (List.mem_of_getElem? hs)
    have hsm := hsm0.mod (Mod.any' hg)
    have hsn := holdsZ_snoc now ls v hs
    have hsl1 := holdsZ_len now ls v ((al.take k).map pubZ)
    have hsl2 : ((al.take k).map pubZ).length ≤ k := by simp; omega
    refine RK.skip ?_
    refine RK.seq ?_
    refine RK.block ?_
    refine RK.seq ?_
    refine RK.region ?_
    refine RL.q (.free rfl) rfl rfl (Yld.indexAddrN u44 i41 rfl rfl (by omega)) ?_
    refine RL.q (.free rfl) rfl rfl (Yld.loadN (cs := silC s) a41 rfl (atN (fun q z hq => hg.cell (hc1 q z hq) (fun h => h)))) ?_
    refine RL.op (.free rfl) rfl rfl (Does.alloc i41) ?_
    rintro _ w1 ⟨b11, rfl, hn11⟩
    refine RL.op' (.free rfl) rfl (Does.storeN i41 rfl rfl rfl (silC_one hsm) hn11.blk (Nat.le_refl 8)) ?_
    rintro _ w2 ⟨hb2, hm2, _⟩
    have hg2' : Grow w' w2 := hn11.grow.then hm2 (fun y hy e => by have e' : y = b11 := e; have := hn11.at_; omega)
    have hg2 := hg.trans hg2'
    have hB2 : Blk w2 b11 41 [.int .i64 s.id, .int .i64 s.ver, .int .u64 s.start, .int .u64 s.stop, s.mv, .bool s.bd.all, .float .f64 s.bd.lo, .float .f64 s.bd.hi] := hb2
    refine RL.done ?_
    refine RK.seq ?_
    refine RK.region ?_
    refine RL.p rfl rfl ?_
    refine RL.q (.free rfl) rfl rfl (Yld.fieldAddr fo41_2 rfl) ?_
    refine RL.q (.free rfl) rfl rfl (Yld.load p22 rfl (at1 (hB2.cell rfl))) ?_
    refine RL.q (.free rfl) rfl rfl (Yld.fieldAddr fo41_3 rfl) ?_
    refine RL.q (.free rfl) rfl rfl (Yld.load p22 rfl (at1 (hB2.cell rfl))) ?_
    refine RL.op (.free rfl) rfl rfl (Does.call rfl e51 (state_ok now s.start s.stop _)) ?_
    rintro _ _ ⟨rfl, rfl⟩
    iterate 2 refine RL.p rfl rfl ?_
    first | refine RL.splitD (d := 28) rfl rfl (fun h28 => ?_) (fun h28 => ?_) | refine RL.splitN (d := 28) rfl rfl (fun h28 => ?_) (fun h28 => ?_) | refine RL.split (d := 28) rfl rfl (fun h28 => ?_) (fun h28 => ?_)
    · refine RL.q (.yes rfl rfl rfl) rfl rfl (Yld.fieldAddr fo41_4 rfl) ?_
      refine RL.q (.yes rfl rfl rfl) rfl rfl (Yld.load p28 rfl (at1 (hB2.cell rfl))) ?_
      refine RL.q (.yes rfl rfl rfl) rfl rfl (Yld.pure rfl) ?_
      refine RL.op (.yes rfl rfl rfl) rfl rfl (Does.call rfl e52 (allM_ok holdsM s.ms (fun m _ => matchHolds_ok m) M' M ls hz _ _ _ (hsm.mod (Mod.any' hg2')) (hl.mod (Mod.any' hg2)))) ?_
      rintro _ w3 ⟨rfl, hg3⟩
      have hg23 := hg2.trans hg3
      have hB3 := hB2.mod hg3 (fun h => h)
      iterate 2 refine RL.p rfl rfl ?_
      first | refine RL.splitD (d := 34) rfl rfl (fun h34 => ?_) (fun h34 => ?_) | refine RL.splitN (d := 34) rfl rfl (fun h34 => ?_) (fun h34 => ?_) | refine RL.split (d := 34) rfl rfl (fun h34 => ?_) (fun h34 => ?_)
      · refine RL.q (.yes rfl rfl rfl) rfl rfl (Yld.fieldAddr fo41_5 rfl) ?_
        refine RL.q (.yes rfl rfl rfl) rfl rfl (Yld.loadN (cs := bdC s.bd) a32 rfl (atN (fldN hB3 5 3))) ?_
        refine RL.q (.yes rfl rfl rfl) rfl rfl (Yld.pure rfl) ?_
        refine RL.op (.yes rfl rfl rfl) rfl rfl (Does.call rfl e53 (in_band_ok s.bd v _)) ?_
        rintro _ w4 ⟨rfl, hg4⟩
        have hg24 := hg23.trans hg4
        have hr4 := hr.mod ((hg2'.trans hg3).trans hg4) (fun _ _ h => h)
        refine RL.p rfl rfl ?_
        refine RL.done ?_
        first | refine RK.condD rfl (fun h39 => ?_) (fun h39 => ?_) | refine RK.condN rfl (fun h39 => ?_) (fun h39 => ?_) | refine RK.cond rfl (fun h39 => ?_) (fun h39 => ?_)
        · have hyes : holdZ now ls v (pubZ s) = true := by unfold holdZ pubZ; simp only; rw [decide_eq_true h28, h34, h39]; rfl
          refine RK.region ?_
          refine RL.p rfl rfl ?_
          refine RL.q (.free rfl) rfl rfl (Yld.fieldAddr fo41_0 rfl) ?_
          refine RL.q (.free rfl) rfl rfl (Yld.load p3 rfl (at1 ((hB3.mod hg4 (fun h => h)).cell rfl))) ?_
          refine RL.op (.free rfl) rfl rfl (Does.slice1 u35 i3 rfl rfl rfl rfl rfl) ?_
          rintro _ w5 ⟨b7, rfl, hn7⟩
          refine RL.op (.free rfl) rfl rfl (Does.append u35 i3 rfl rfl rfl rfl rfl (hr4.mod hn7.grow (fun _ _ h => h)) (Sl.new hn7 1 1 rfl (by omega) (fun h => h)) (rfl) (by omega)) ?_
          rintro z8 w8 ⟨hr8, hm8, hu8⟩
          have hs7 := hn7.grow.size
          have hs4 := hg24.size
          refine RL.p rfl rfl ?_
          refine RL.done ?_
          refine RK.inBlock ?_
          refine RK.region ?_
          refine RL.p rfl rfl ?_
          refine RL.re (d := 45) rfl rfl (succ_i64 (by omega)) ?_
          refine RL.p rfl rfl ?_
          refine RL.done ?_
          exact RK.back (ih (k + 1, z8) _ ⟨by
              simp only
              rw [hsn, if_pos hyes]
              have e1 : ints (holdsZ now ls v ((al.take k).map pubZ) ++ [s.id]) = ints (holdsZ now ls v ((al.take k).map pubZ)) ++ (Value.int .i64 s.id).cells.toList := by simp [ints, Value.cells]
              rw [e1, List.length_append]; exact hr8, fun b e => by
              rcases hu8 with h1 | h1
              · exact hf b (h1 ▸ e)
              · rw [h1] at e; cases e; omega, (hg24.trans hn7.grow).then hm8 (fun b hb e => by have := hf b e; omega), by simp only; omega⟩ (by simp only; omega)) ⟨rfl, rfl, rfl, rfl, rfl, rfl, rfl, trivial⟩
        · have hnos : holdZ now ls v (pubZ s) = false := by unfold holdZ pubZ; simp only; rw [decide_eq_true h28, h34, show inBd s.bd v = false by simpa using h39]; rfl
          refine RK.skip ?_
          refine RK.inBlock ?_
          refine RK.region ?_
          refine RL.p rfl rfl ?_
          refine RL.re (d := 45) rfl rfl (succ_i64 (by omega)) ?_
          refine RL.p rfl rfl ?_
          refine RL.done ?_
          exact RK.back (ih (k + 1, u) _ ⟨by simp only; rw [hsn, if_neg (by simp [hnos]), List.append_nil]; exact hr4, hf, hg24, by simp only; omega⟩ (by simp only; omega)) ⟨rfl, rfl, rfl, rfl, rfl, rfl, rfl, trivial⟩
      · have hnos : holdZ now ls v (pubZ s) = false := by unfold holdZ pubZ; simp only; rw [show (s.ms.all fun m => holdsM m ls) = false by simpa only [Bool.not_eq_true] using h34]; simp
        iterate 4 refine RL.no (.no rfl rfl rfl rfl) rfl rfl ?_
        refine RL.p rfl rfl ?_
        refine RL.done ?_
        refine RK.condF rfl ?_
        refine RK.skip ?_
        refine RK.inBlock ?_
        refine RK.region ?_
        refine RL.p rfl rfl ?_
        refine RL.re (d := 45) rfl rfl (succ_i64 (by omega)) ?_
        refine RL.p rfl rfl ?_
        refine RL.done ?_
        exact RK.back (ih (k + 1, u) _ ⟨by simp only; rw [hsn, if_neg (by simp [hnos]), List.append_nil]; exact hr.mod (hg2'.trans hg3) (fun _ _ h => h), hf, hg23, by simp only; omega⟩ (by simp only; omega)) ⟨rfl, rfl, rfl, rfl, rfl, rfl, rfl, trivial⟩
    · have hnos : holdZ now ls v (pubZ s) = false := by unfold holdZ pubZ; simp only; rw [decide_eq_false h28]; rfl
      iterate 4 refine RL.no (.no rfl rfl rfl rfl) rfl rfl ?_
      iterate 2 refine RL.p rfl rfl ?_
      iterate 4 refine RL.no (.no rfl rfl rfl rfl) rfl rfl ?_
      refine RL.p rfl rfl ?_
      refine RL.done ?_
      refine RK.condF rfl ?_
      refine RK.skip ?_
      refine RK.inBlock ?_
      refine RK.region ?_
      refine RL.p rfl rfl ?_
      refine RL.re (d := 45) rfl rfl (succ_i64 (by omega)) ?_
      refine RL.p rfl rfl ?_
      refine RL.done ?_
      exact RK.back (ih (k + 1, u) _ ⟨by simp only; rw [hsn, if_neg (by simp [hnos]), List.append_nil]; exact hr.mod hg2' (fun _ _ h => h), hf, hg2, by simp only; omega⟩ (by simp only; omega)) ⟨rfl, rfl, rfl, rfl, rfl, rfl, rfl, trivial⟩
  · have ek : al.take k = al := List.take_of_length_le (by omega)
    rw [ek, hals] at hr
    refine RK.exit rfl ?_
    refine RK.seq ?_
    refine RK.region ?_
    iterate 2 refine RL.p rfl rfl ?_
    refine RL.done ?_
    refine RK.ret_of Tryz.func15 (res1 rfl rfl) ?_ _
    exact ⟨_, rfl, hr, hf, hg⟩
end Go.Proofs.YtbcbfjnlnmhpbaaGreat
set_option linter.unusedVariables false
set_option linter.unusedSimpArgs false
set_option maxHeartbeats 3200000
set_option maxRecDepth 100000
namespace Go.Proofs.YtbcbfjnlnmhpbaaGreat
open Go Go.X
theorem Gz.make {s : SS} (g : Gz s) (now a b : Int) (hb : 0 ≤ b) (ms : List Mt) (bd : Bd) : Gz (makeS s now a b ms bd).1 := by
  unfold makeS
  split
  · exact g
  · split
    · exact g
    · rename_i hf
      have hsp := fits_span hf
      split
      · exact g
      · rename_i hm
        have h1 := g.l0
        refine ⟨g.r0, g.r1, g.m1, ?_, ?_, ?_, fun x hx => ?_, fun x hx => ?_⟩
        · simp only [List.length_append, List.length_singleton]; omega
        · show Ris ((s.sl ++ [_]).map _)
          rw [List.map_append]
          refine List.pairwise_append.2 ⟨g.ris, by simp, fun x hx y hy => ?_⟩
          obtain ⟨z, hz, rfl⟩ := List.mem_map.1 hx
          have h2 := g.low z hz
          have h3 : y = s.last + 1 := by simpa using hy
          omega
        · show 0 ≤ s.last + 1; omega
        · rcases List.mem_append.1 hx with hx | hx
          · have h2 := g.low x hx
            show x.id ≤ s.last + 1
            omega
          · obtain rfl := List.mem_singleton.1 hx
            exact Int.le_refl _
        · rcases List.mem_append.1 hx with hx | hx
          · exact g.st x hx
          · obtain rfl := List.mem_singleton.1 hx
            exact ⟨hb, hsp.2.2⟩
def noneT : ByteArray := ⟨#[110, 111, 110, 101]⟩
def mP : Mt := ⟨1, noneT, ⟨#[]⟩⟩
def bdAll : Bd := ⟨true, 0, 0⟩
end Go.Proofs.YtbcbfjnlnmhpbaaGreat
set_option linter.unusedVariables false
set_option linter.unusedSimpArgs false
set_option maxHeartbeats 3200000
set_option maxRecDepth 100000
namespace Go.Proofs.YtbcbfjnlnmhpbaaGreat
open Go Go.X
def toldP (now : Int) (a : Slz) : Slz × Int := (a, stateS now a.start a.stop)
def wantZ (now st : Int) (a : Slz) : Bool := decide (st = 0) || decide (stateS now a.start a.stop = st)
def listZ (now st : Int) (l : List Slz) : List (Slz × Int) := (l.filter (wantZ now st)).map (toldP now)
theorem listZ_len (now st : Int) (l : List Slz) : (listZ now st l).length ≤ l.length := by
  unfold listZ
  rw [List.length_map]
  exact List.length_filter_le _ _
theorem listZ_snoc (now st : Int) {al : List Sil} {k : Nat} {s : Sil} (hs : al[k]? = some s) : listZ now st ((al.take (k + 1)).map pubZ) = listZ now st ((al.take k).map pubZ) ++ (if wantZ now st (pubZ s) = true then [toldP now (pubZ s)] else []) := by
  unfold listZ
  rw [List.take_add_one, hs, List.map_append, List.filter_append, List.map_append]
  congr 1
  show List.map _ (List.filter _ [pubZ s]) = _
  by_cases h : wantZ now st (pubZ s) = true
  · rw [if_pos h, List.filter_cons_of_pos h]; rfl
  · rw [if_neg h, List.filter_cons_of_neg h]; rfl
def pubT (a : Sil) : Slz × Int := (pubZ a, a.ver)
theorem listRow_ok (w : World) (p : Nat) (s : SS) (O M : Nat → Prop) (h : ZStore O M w p s) (g : Gz s) (now st : Int) (hms : ∀ a ∈ s.sl, a.ms.length ≤ 1000000) :
    Fx Tryz.prog 17 [pp p, .int .u64 now, .int .i64 st] w (fun u w' => (∃ tl : List Sil, tl.map pubT = listZ now st s.sl ∧ Row w' 41 8 u tl.length (tl.flatMap silC) ∧ ∀ a ∈ tl, Row w' 108 3 a.mv a.ms.length (a.ms.flatMap mtC)) ∧ Fresh w.heap.size u ∧ Grow w w') := by
  obtain ⟨pl, qu, vp, vq, vs, al, q, hO, h⟩ := h
  have hle := g.le
  have hal := h.len
  have hals := h.als
  have hsl := Sl.own (M := No) h.row (fun _ _ h => h)
  have hsms := h.sms
  have hblk := h.blk
  obtain ⟨ads, cs, rfl⟩ := h.row.slice
  clear h
  refine enter Tryz.func17 rfl rfl rfl _ (Pick.sub (l := [0, 1, 2]) (.cons rfl (.cons rfl (.cons rfl .nil)))) ?_
  refine RK.seq ?_
  refine RK.region ?_
  refine RL.p rfl rfl ?_
  refine RL.done ?_
  refine RK.seq ?_
  refine RK.region ?_
  refine RL.p rfl rfl ?_
  refine RL.done ?_
  iterate 2 refine RK.seq ?_
  refine RK.region ?_
  iterate 2 refine RL.p rfl rfl ?_
  refine RL.q (.free rfl) rfl rfl (Yld.fieldAddr fo101_3 rfl) ?_
  refine RL.q (.free rfl) rfl rfl (Yld.load p44 rfl (at1 (hblk.cell rfl))) ?_
  refine RL.q (.free rfl) rfl rfl (Yld.lenSl u44 rfl) ?_
  refine RL.p rfl rfl ?_
  refine RL.done ?_
  refine RK.block ?_
  refine RK.loop (fun s : Nat × Value => [(1, .int .u64 now), (2, .int .i64 st), (7, s.2), (13, .slice ads al.length cs), (14, .int .i64 (al.length : Int)), (15, .int .i64 (s.1 : Int))]) (fun s w' => (∃ tl : List Sil, tl.map pubT = listZ now st ((al.take s.1).map pubZ) ∧ Row w' 41 8 s.2 tl.length (tl.flatMap silC) ∧ ∀ a ∈ tl, Row w' 108 3 a.mv a.ms.length (a.ms.flatMap mtC)) ∧ Fresh w.heap.size s.2 ∧ Grow w w' ∧ s.1 ≤ al.length) (fun s => al.length - s.1) (0, .slice none 0 0) ⟨rfl, rfl, rfl, rfl, rfl, rfl, trivial⟩ ⟨⟨[], by simp [listZ], Row.nil _ _ _, fun a h => (by cases h)⟩, fun b e => by simp [Value.ownBlock] at e, Mod.refl _ _, by simp⟩ (fun s w' hI ih => ?_)
  obtain ⟨k, u⟩ := s
  obtain ⟨⟨tl, htl, hr, hsh⟩, hf, hg, hk⟩ := hI
  simp only at hr hf hk htl
  refine RK.seq ?_
  refine RK.region ?_
  refine RL.p rfl rfl ?_
  refine RL.done ?_
  refine RK.seq ?_
  first | refine RK.condD rfl (fun h16 => ?_) (fun h16 => ?_) | refine RK.condN rfl (fun h16 => ?_) (fun h16 => ?_) | refine RK.cond rfl (fun h16 => ?_) (fun h16 => ?_)
  · obtain ⟨s, hs⟩ : ∃ s, al[k]? = some s := ⟨al[k]'(by omega), List.getElem?_eq_getElem (by omega)⟩
    obtain ⟨b1, o1, c1', he1, _, _, hc1⟩ := hsl.elem silC_len hs
    cases he1
    have hsm := (hsms s (List.mem_of_getElem? hs)).mod (Mod.any' hg)
    have hsn := listZ_snoc now st hs
    have hml := hms (pubZ s) (by rw [← hals]; exact List.mem_map.2 ⟨s, List.mem_of_getElem? hs, rfl⟩)
    have hsl1 := listZ_len now st ((al.take k).map pubZ)
    have hsl2 : ((al.take k).map pubZ).length ≤ k := by simp; omega
    have hsl3 : tl.length ≤ k := by rw [← htl, List.length_map] at hsl1; omega
    refine RK.skip ?_
    refine RK.seq ?_
    refine RK.block ?_
    refine RK.seq ?_
    refine RK.region ?_
    refine RL.q (.free rfl) rfl rfl (Yld.indexAddrN u44 i41 rfl rfl (by omega)) ?_
    refine RL.q (.free rfl) rfl rfl (Yld.loadN (cs := silC s) a41 rfl (atN (fun q z hq => hg.cell (hc1 q z hq) (fun h => h)))) ?_
    refine RL.op (.free rfl) rfl rfl (Does.alloc i41) ?_
    rintro _ w1 ⟨b9, rfl, hn9⟩
    refine RL.op' (.free rfl) rfl (Does.storeN i41 rfl rfl rfl (silC_one hsm) hn9.blk (Nat.le_refl 8)) ?_
    rintro _ w2 ⟨hb2, hm2, _⟩
    have hg2' : Grow w' w2 := hn9.grow.then hm2 (fun y hy e => by have e' : y = b9 := e; have := hn9.at_; omega)
    have hB2 : Blk w2 b9 41 (silC s) := hb2
    refine RL.done ?_
    refine RK.seq ?_
    refine RK.region ?_
    refine RL.p rfl rfl ?_
    refine RL.q (.free rfl) rfl rfl (Yld.loadN (cs := silC s) a41 rfl (atN (blk0' hB2))) ?_
    refine RL.op (.free rfl) rfl rfl (Does.call rfl e55 (toldZ_ok M now s _ (hsm.mod (Mod.any' hg2')) hml)) ?_
    rintro _ w3 ⟨v3, rfl, hr3, hf3, hg3⟩
    obtain ⟨ad3, c3, rfl⟩ := hr3.slice
    refine RL.op' (.free rfl) rfl (Does.storeN i41 rfl rfl rfl rfl (hB2.mod hg3 (fun h => h)) (Nat.le_refl 8)) ?_
    rintro _ w4 ⟨hb4, hm4, _⟩
    have hg34 : Grow w' w4 := (hg2'.trans hg3).then hm4 (fun y hy e => by have e' : y = b9 := e; have := hn9.at_; omega)
    obtain ⟨t, ht⟩ : ∃ t : Sil, t = { s with ver := stateS now s.start s.stop, mv := .slice ad3 s.ms.length c3 } := ⟨_, rfl⟩
    have hB4 : Blk w4 b9 41 (silC t) := by subst ht; exact hb4
    have hg4 := hg.trans hg34
    have hr4 := hr.mod hg34 (fun _ _ h => h)
    have hrt4 : Row w4 108 3 t.mv t.ms.length (t.ms.flatMap mtC) := by subst ht; exact hr3.mod hm4 (fun x e1 e2 => by have e' : x = b9 := e2; exact (hr3.ty e1).ne (hB2.mod hg3 (fun h => h)).ty rfl e')
    have hsh4 : ∀ a ∈ tl, Row w4 108 3 a.mv a.ms.length (a.ms.flatMap mtC) := fun a ha => (hsh a ha).mod hg34 (fun _ _ h => h)
    have hpt : pubT t = toldP now (pubZ s) := by subst ht; rfl
    have hz4 := hg4.size
    refine RL.done ?_
    refine RK.seq ?_
    refine RK.region ?_
    iterate 3 refine RL.p rfl rfl ?_
    first | refine RL.splitD (d := 24) rfl rfl (fun h23 => ?_) (fun h23 => ?_) | refine RL.splitN (d := 24) rfl rfl (fun h23 => ?_) (fun h23 => ?_) | refine RL.split (d := 24) rfl rfl (fun h23 => ?_) (fun h23 => ?_)
    · have hwant : wantZ now st (pubZ s) = true := by unfold wantZ; rw [decide_eq_true h23]; rfl
      have hone : ((Value.agg (silC t).toArray).cells.toList.all fun x => x.oneCell') = true := by subst ht; rfl
      iterate 4 refine RL.no (.no rfl rfl rfl rfl) rfl rfl ?_
      refine RL.p rfl rfl ?_
      refine RL.done ?_
      refine RK.condT rfl ?_
      refine RK.region ?_
      refine RL.p rfl rfl ?_
      refine RL.q (.free rfl) rfl rfl (Yld.loadN (cs := silC t) a41 rfl (atN (blk0' hB4))) ?_
      refine RL.op (.free rfl) rfl rfl (Does.slice1 u44 i41 rfl rfl rfl rfl rfl) ?_
      rintro _ w5 ⟨b32, rfl, hn32⟩
      refine RL.op (.free rfl) rfl rfl (Does.append u44 i41 rfl rfl rfl rfl rfl (hr4.mod hn32.grow (fun _ _ h => h)) (Sl.new hn32 8 1 rfl (by omega) (fun h => h)) (hone) (by omega)) ?_
      rintro z8 w8 ⟨hr8, hm8, hu8⟩
      have hs5 := hn32.grow.size
      refine RL.p rfl rfl ?_
      refine RL.done ?_
      refine RK.inBlock ?_
      refine RK.region ?_
      refine RL.p rfl rfl ?_
      refine RL.re (d := 34) rfl rfl (succ_i64 (by omega)) ?_
      refine RL.p rfl rfl ?_
      refine RL.done ?_
      exact RK.back (ih (k + 1, z8) _ ⟨⟨tl ++ [t], by
          simp only
          rw [hsn, if_pos hwant, List.map_append, htl, List.map_singleton, hpt], by
          rw [List.length_append, List.flatMap_append, List.flatMap_singleton]
          simpa [Value.cells] using hr8, fun a ha => by
          rcases List.mem_append.1 ha with ha | ha
          · have h1 := (hsh4 a ha).mod hn32.grow (fun _ _ h => h)
            exact h1.mod hm8 (fun x e1 e2 => (h1.ty e1).ne ((hr4.mod hn32.grow (fun _ _ h => h)).ty e2) rfl rfl)
          · have e := List.mem_singleton.1 ha
            have h1 := hrt4.mod hn32.grow (fun _ _ h => h)
            rw [e]
            exact h1.mod hm8 (fun x e1 e2 => (h1.ty e1).ne ((hr4.mod hn32.grow (fun _ _ h => h)).ty e2) rfl rfl)⟩, fun b e => by
          rcases hu8 with h1 | h1
          · exact hf b (h1 ▸ e)
          · rw [h1] at e; cases e; omega, (hg4.trans hn32.grow).then hm8 (fun b hb e => by have := hf b e; omega), by simp only; omega⟩ (by simp only; omega)) ⟨rfl, rfl, rfl, rfl, rfl, rfl, trivial⟩
    · refine RL.q (.yes rfl rfl rfl) rfl rfl (Yld.fieldAddr fo41_1 rfl) ?_
      refine RL.q (.yes rfl rfl rfl) rfl rfl (Yld.load p3 rfl (at1 (hB4.cell (by subst ht; rfl)))) ?_
      iterate 2 refine RL.q (.yes rfl rfl rfl) rfl rfl (Yld.pure rfl) ?_
      refine RL.p rfl rfl ?_
      refine RL.done ?_
      first | refine RK.condD rfl (fun h29 => ?_) (fun h29 => ?_) | refine RK.condN rfl (fun h29 => ?_) (fun h29 => ?_) | refine RK.cond rfl (fun h29 => ?_) (fun h29 => ?_)
      · have hwant : wantZ now st (pubZ s) = true := by unfold wantZ pubZ; simp only; rw [decide_eq_true h29]; simp
        have hone : ((Value.agg (silC t).toArray).cells.toList.all fun x => x.oneCell') = true := by subst ht; rfl
        refine RK.region ?_
        refine RL.p rfl rfl ?_
        refine RL.q (.free rfl) rfl rfl (Yld.loadN (cs := silC t) a41 rfl (atN (blk0' hB4))) ?_
        refine RL.op (.free rfl) rfl rfl (Does.slice1 u44 i41 rfl rfl rfl rfl rfl) ?_
        rintro _ w5 ⟨b32, rfl, hn32⟩
        refine RL.op (.free rfl) rfl rfl (Does.append u44 i41 rfl rfl rfl rfl rfl (hr4.mod hn32.grow (fun _ _ h => h)) (Sl.new hn32 8 1 rfl (by omega) (fun h => h)) (hone) (by omega)) ?_
        rintro z8 w8 ⟨hr8, hm8, hu8⟩
        have hs5 := hn32.grow.size
        refine RL.p rfl rfl ?_
        refine RL.done ?_
        refine RK.inBlock ?_
        refine RK.region ?_
        refine RL.p rfl rfl ?_
        refine RL.re (d := 34) rfl rfl (succ_i64 (by omega)) ?_
        refine RL.p rfl rfl ?_
        refine RL.done ?_
        exact RK.back (ih (k + 1, z8) _ ⟨⟨tl ++ [t], by
            simp only
            rw [hsn, if_pos hwant, List.map_append, htl, List.map_singleton, hpt], by
            rw [List.length_append, List.flatMap_append, List.flatMap_singleton]
            simpa [Value.cells] using hr8, fun a ha => by
            rcases List.mem_append.1 ha with ha | ha
            · have h1 := (hsh4 a ha).mod hn32.grow (fun _ _ h => h)
              exact h1.mod hm8 (fun x e1 e2 => (h1.ty e1).ne ((hr4.mod hn32.grow (fun _ _ h => h)).ty e2) rfl rfl)
            · have e := List.mem_singleton.1 ha
              have h1 := hrt4.mod hn32.grow (fun _ _ h => h)
              rw [e]
              exact h1.mod hm8 (fun x e1 e2 => (h1.ty e1).ne ((hr4.mod hn32.grow (fun _ _ h => h)).ty e2) rfl rfl)⟩, fun b e => by
            rcases hu8 with h1 | h1
            · exact hf b (h1 ▸ e)
            · rw [h1] at e; cases e; omega, (hg4.trans hn32.grow).then hm8 (fun b hb e => by have := hf b e; omega), by simp only; omega⟩ (by simp only; omega)) ⟨rfl, rfl, rfl, rfl, rfl, rfl, trivial⟩
      · have hnot : wantZ now st (pubZ s) = false := by unfold wantZ pubZ; simp only; rw [decide_eq_false h23, decide_eq_false h29]; rfl
        refine RK.skip ?_
        refine RK.inBlock ?_
        refine RK.region ?_
        refine RL.p rfl rfl ?_
        refine RL.re (d := 34) rfl rfl (succ_i64 (by omega)) ?_
        refine RL.p rfl rfl ?_
        refine RL.done ?_
        exact RK.back (ih (k + 1, u) _ ⟨⟨tl, by simp only; rw [hsn, if_neg (by simp [hnot]), List.append_nil]; exact htl, hr4, hsh4⟩, hf, hg4, by simp only; omega⟩ (by simp only; omega)) ⟨rfl, rfl, rfl, rfl, rfl, rfl, trivial⟩
  · have ek : al.take k = al := List.take_of_length_le (by omega)
    rw [ek, hals] at htl
    refine RK.exit rfl ?_
    refine RK.seq ?_
    refine RK.region ?_
    iterate 2 refine RL.p rfl rfl ?_
    refine RL.done ?_
    refine RK.ret_of Tryz.func17 (res1 rfl rfl) ?_ _
    exact ⟨_, rfl, ⟨tl, htl, hr, hsh⟩, hf, hg⟩
end Go.Proofs.YtbcbfjnlnmhpbaaGreat
set_option linter.unusedVariables false
set_option linter.unusedSimpArgs false
set_option maxHeartbeats 3200000
set_option maxRecDepth 100000
namespace Go.Proofs.YtbcbfjnlnmhpbaaGreat
open Go Go.X
def ownR (p : Nat) (vs : Value) (b : Nat) : Prop := b = p ∨ vs.ownBlock = some b
structure RZ (w : World) (p : Nat) (s : SS) (M : Nat → Prop) (vs : Value) (al : List Sil) : Prop where
  blk : Blk w p 64 [.int .i64 s.most, .int .u64 s.ret, vs, .int .i64 s.last]
  row : Row w 41 8 vs al.length (al.flatMap silC)
  als : al.map pubZ = s.sl
  sms : ∀ a ∈ al, SlM M w a.mv a.ms
  ownM : ∀ b, ownR p vs b → M b
  ltM : ∀ b, M b → b < w.heap.size
def RStore (O M : Nat → Prop) (w : World) (p : Nat) (s : SS) : Prop := ∃ vs al, (∀ b, O b ↔ ownR p vs b) ∧ RZ w p s M vs al
section
variable {w : World} {p : Nat} {s : SS} {M : Nat → Prop} {vs : Value} {al : List Sil}
theorem RZ.len (h : RZ w p s M vs al) : al.length = s.sl.length := by rw [← h.als, List.length_map]
theorem RZ.own_lt (h : RZ w p s M vs al) {b : Nat} (e : ownR p vs b) : b < w.heap.size := h.ltM b (h.ownM b e)
end
theorem RStore.lt {O M : Nat → Prop} {w : World} {p : Nat} {s : SS} (h : RStore O M w p s) : ∀ b, O b → b < w.heap.size := by
  obtain ⟨vs, al, hO, h⟩ := h
  exact fun b hb => h.own_lt ((hO b).1 hb)
theorem ZStore.inM {O M : Nat → Prop} {w : World} {p : Nat} {s : SS} (h : ZStore O M w p s) : ∀ b, O b → M b := by
  obtain ⟨pl, qu, vp, vq, vs, al, q, hO, h⟩ := h
  exact fun b hb => h.ownM b ((hO b).1 hb)
theorem ZStore.other {O M P M' : Nat → Prop} {w w' : World} {p : Nat} {s : SS} (h : ZStore O M w p s) (hm : Mod P w w') (hP : ∀ b, P b → M b) (hd : ∀ b, O b → ¬ P b) (hM : ∀ b, M' b → M b ∨ w.heap.size ≤ b) (hMM : ∀ b, M b → M' b) (hlt : ∀ b, M' b → b < w'.heap.size) : ZStore O M' w' p s := by
  obtain ⟨pl, qu, vp, vq, vs, al, q, hO, h⟩ := h
  have n : ∀ b, ownS p pl qu vp vq vs b → ¬ P b := fun b e => hd b ((hO b).2 e)
  exact ⟨pl, qu, vp, vq, vs, al, q, hO, h.blk.mod hm (n _ (.inl rfl)), ⟨h.pool.blk.mod hm (n _ (.inr (.inl rfl))), h.pool.row.mod hm (fun b e => n b (.inr (.inr (.inr (.inl e))))), h.pool.ne⟩, h.que.mod hm (n _ (.inr (.inr (.inl rfl)))) (fun b e => n b (.inr (.inr (.inr (.inr (.inl e)))))), h.row.mod hm (fun b e => n b (.inr (.inr (.inr (.inr (.inr e)))))), h.als, fun a ha => (h.sms a ha).pass (by omega) (hm.mono fun b _ e => hP b e) hM, h.sort, h.perm, fun b e => hMM b (h.ownM b e), hlt⟩
theorem RStore.other {O M P M' : Nat → Prop} {w w' : World} {p : Nat} {s : SS} (h : RStore O M w p s) (hm : Mod P w w') (hP : ∀ b, P b → M b) (hd : ∀ b, O b → ¬ P b) (hM : ∀ b, M' b → M b ∨ w.heap.size ≤ b) (hMM : ∀ b, M b → M' b) (hlt : ∀ b, M' b → b < w'.heap.size) : RStore O M' w' p s := by
  obtain ⟨vs, al, hO, h⟩ := h
  have n : ∀ b, ownR p vs b → ¬ P b := fun b e => hd b ((hO b).2 e)
  exact ⟨vs, al, hO, h.blk.mod hm (n _ (.inl rfl)), h.row.mod hm (fun b e => n b (.inr e)), h.als, fun a ha => (h.sms a ha).pass (by omega) (hm.mono fun b _ e => hP b e) hM, fun b e => hMM b (h.ownM b e), hlt⟩
end Go.Proofs.YtbcbfjnlnmhpbaaGreat
set_option linter.unusedVariables false
set_option linter.unusedSimpArgs false
set_option maxHeartbeats 3200000
set_option maxRecDepth 100000
namespace Go.Proofs.YtbcbfjnlnmhpbaaGreat
open Go Go.X
theorem flat_set {α : Type} {f : α → List Value} {sz : Nat} (hf : ∀ x, (f x).length = sz) (tl : List Value) (y : α) : ∀ (al : List α) (i : Nat), i < al.length → (al.flatMap f ++ tl).take (i * sz) ++ f y ++ (al.flatMap f ++ tl).drop (i * sz + sz) = (al.set i y).flatMap f ++ tl
  | [], i, h => by simp at h
  | x :: al, 0, h => by
    rw [Nat.zero_mul, List.take_zero, List.nil_append, Nat.zero_add, List.flatMap_cons, List.append_assoc, ← hf x, List.drop_left, List.set_cons_zero, List.flatMap_cons, List.append_assoc]
  | x :: al, i + 1, h => by
    have ih := flat_set hf tl y al i (by simpa using h)
    have e1 : (i + 1) * sz = (f x).length + i * sz := by rw [hf x, Nat.succ_mul, Nat.add_comm]
    have e2 : (x :: al).flatMap f ++ tl = f x ++ (al.flatMap f ++ tl) := by rw [List.flatMap_cons, List.append_assoc]
    rw [List.set_cons_succ, show (x :: al.set i y).flatMap f = f x ++ (al.set i y).flatMap f from List.flatMap_cons, e2, e1, Nat.add_assoc, List.take_length_add_append, List.drop_length_add_append, List.append_assoc (f x) _ tl, ← ih]
    simp only [List.append_assoc]
end Go.Proofs.YtbcbfjnlnmhpbaaGreat
set_option linter.unusedVariables false
set_option linter.unusedSimpArgs false
set_option maxHeartbeats 3200000
set_option maxRecDepth 100000
namespace Go.Proofs.YtbcbfjnlnmhpbaaGreat
open Go Go.X
def sT (a b : Int) : SS := ⟨5, 2, 1, [⟨1, a, b, [mP], bdAll⟩]⟩
end Go.Proofs.YtbcbfjnlnmhpbaaGreat
set_option linter.unusedVariables false
set_option linter.unusedSimpArgs false
set_option maxHeartbeats 1000000
set_option maxRecDepth 100000
namespace Go.Proofs.YtbcbfjnlnmhpbaaGreat
open Go Go.X Go.Rex
theorem source_le {r : Ru} {ls : List Lab} {v : Nat} (h : sourceS r ls v = true) : r.eq.length ≤ 4 := by
  unfold sourceS worksRu at h
  simp only [Bool.and_eq_true] at h
  exact isRu_le h.1.1.1
theorem row_at {M : Nat → Prop} {w : World} {l : List (ByteArray × (List Int × Value))} {rows : CRows} (h1 : l.map (fun t => (t.1, t.2.1)) = rows) (h3 : ∀ t ∈ l, Sl M w t.2.2 1 t.2.1.length (ints t.2.1)) (k : ByteArray) :
    ∃ vv, (lookM (l.map fun t => (t.1, t.2.2)) k).getD (.slice none 0 0) = vv ∧ Sl M w vv 1 ((lookM rows k).getD []).length (ints ((lookM rows k).getD [])) := by
  have e1 := lookM_map (fun a : List Int × Value => a.1) k l
  have e2 := lookM_map (fun a : List Int × Value => a.2) k l
  rw [h1] at e1
  rw [e1, e2]
  cases hh : lookM l k with
  | none => exact ⟨_, rfl, Sl.nil _ _ _ _ _⟩
  | some a => exact ⟨_, rfl, h3 _ (lookM_mem hh)⟩
theorem cacheDrop_ok (M : Nat → Prop) (w : World) (p mr mk : Nat) (r : Ru) (c : CRows × CKeys) (h : CacheAt M w p mr mk r c) (hMr : M mr) (hMk : M mk) (hM : ∀ b, M b → b < w.heap.size) (id : Int) (hB : CB c 1000000) :
    Fx Tryz.prog 83 [pp p, .int .i64 id] w (fun u w' => u = .tuple #[] ∧ CacheAt M w' p mr mk r (dropC c id) ∧ Mod (fun b => b = mr ∨ b = mk) w w') := by
  obtain ⟨l, hl1, hl2, hl3⟩ := h.rl
  have n1 : p ≠ mr := h.blk.ty.nem hl2.mp
  have n2 : p ≠ mk := h.blk.ty.nem h.kl.mp
  have hlk : lookM (c.2.map fun t => (t.1, Value.string t.2)) id = (lookM c.2 id).map Value.string := lookM_map _ id c.2
  obtain ⟨ok, hok⟩ : ∃ ok, lookM c.2 id = ok := ⟨_, rfl⟩
  rw [hok] at hlk
  refine enter Tryz.func83 rfl rfl rfl _ (Pick.sub (l := [0, 1]) (.cons rfl (.cons rfl .nil))) ?_
  refine RK.seq ?_
  refine RK.region ?_
  iterate 2 refine RL.p rfl rfl ?_
  refine RL.q (.free rfl) rfl rfl (Yld.fieldAddr fo141_2 rfl) ?_
  refine RL.q (.free rfl) rfl rfl (Yld.load p139 rfl (at1 (h.blk.cell rfl))) ?_
  refine RL.p rfl rfl ?_
  refine RL.q (.free rfl) rfl rfl (Yld.lookup Tryz.underlying139 key3 i9 rfl rfl (fun w' e => e ▸ h.kl)) ?_
  refine RL.re (d := 12) rfl rfl (show _ = Value.tuple #[.string (ok.getD ByteArray.empty), .bool ok.isSome] by rw [hlk]; cases ok <;> rfl) ?_
  iterate 5 refine RL.p rfl rfl ?_
  refine RL.done ?_
  iterate 2 refine RK.seq ?_
  refine RK.region ?_
  iterate 2 refine RL.p rfl rfl ?_
  refine RL.done ?_
  first | refine RK.condD rfl (fun h16 => ?_) (fun h16 => ?_) | refine RK.condN rfl (fun h16 => ?_) (fun h16 => ?_) | refine RK.cond rfl (fun h16 => ?_) (fun h16 => ?_)
  · obtain rfl : ok = none := by cases ok with
        | none => rfl
        | some a => simp at h16
    refine RK.ret_of Tryz.func83 (res0 rfl) ?_ _
    exact ⟨_, rfl, rfl, by unfold dropC; rw [hok]; exact h, Mod.refl _ _⟩
  · obtain ⟨key, rfl⟩ : ∃ key, ok = some key := by cases ok with
        | none => simp at h16
        | some a => exact ⟨a, rfl⟩
    refine RK.skip ?_
    refine RK.seq ?_
    refine RK.region ?_
    iterate 2 refine RL.p rfl rfl ?_
    refine RL.q (.free rfl) rfl rfl (Yld.fieldAddr fo141_2 rfl) ?_
    refine RL.q (.free rfl) rfl rfl (Yld.load p139 rfl (at1 (h.blk.cell rfl))) ?_
    refine RL.p rfl rfl ?_
    refine RL.op' (.free rfl) rfl (Does.delete Tryz.underlying139 key3 (k := id) rfl rfl h.kl) ?_
    rintro _ w2 ⟨hm2, hmod2, hs2⟩
    have hk2 : MapAt (Value.int .i64) w2 mk ((cutM c.2 id).map fun t => (t.1, Value.string t.2)) := by rw [← cutM_map]; exact hm2
    have hmodM : Mod M w w2 := hmod2.mono fun b _ e => e ▸ hMk
    have hB2 := h.blk.mod hmod2 n2
    obtain ⟨vv, hval, hsl⟩ := row_at hl1 (fun t ht => (hl3 t ht).mod hmodM) key
    have hbnd := hB.look key
    obtain ⟨row0, hrow0⟩ : ∃ row0, (lookM c.1 key).getD [] = row0 := ⟨_, rfl⟩
    rw [hrow0] at hbnd hsl
    refine RL.done ?_
    refine RK.seq ?_
    refine RK.drawM No [(0, false), (1, false), (2, false), (3, false), (4, false), (5, false), (6, false), (7, false), (8, false), (9, false), (10, false), (11, false), (12, true), (13, true)] [13] mixed (by kernel_rfl) ?_
    iterate 2 refine DL.p rfl rfl rfl ?_
    refine DL.qf rfl (.free rfl) rfl rfl (Yld.fieldAddr fo141_1 rfl) ?_
    refine DL.q rfl (.free rfl) rfl rfl rfl (Yld.load p138 rfl (atM (hB2.cell rfl) (fun h => h))) (Mod.drew _ _) ?_
    iterate 3 refine DL.p rfl rfl rfl ?_
    refine DL.qf rfl (.free rfl) rfl rfl (Yld.fieldAddr fo141_1 rfl) ?_
    refine DL.q rfl (.free rfl) rfl rfl rfl (Yld.load p138 rfl (atM (hB2.cell rfl) (fun h => h))) (Mod.drew _ _) ?_
    refine DL.p rfl rfl rfl ?_
    refine DL.q rfl (.free rfl) rfl rfl rfl (Yld.lookup Tryz.underlying138 key9 i35 (k := key) rfl rfl (fun w' hm => (hl2.mod hmod2 h.ne).mod hm (fun h => h))) (Mod.drew _ _) ?_
    refine DL.re (d := 32) rfl rfl (hval) ?_
    refine DL.p rfl rfl rfl ?_
    refine DL.op rfl (.free rfl) rfl rfl (Does.call rfl e109 (cut_ok M row0 id vv _ (hsl.mod (Mod.drew M _)) (by omega))) ?_
    rintro u7 w7 ⟨hr7, hf7, hg7⟩
    have hd7 := (Mod.drew No w2).trans hg7
    refine ⟨hd7, ?_⟩
    refine DL.opT rfl (.free rfl) rfl rfl (Does.mapUpdate Tryz.underlying138 key9 (k := key) rfl rfl rfl ((hl2.mod hmod2 h.ne).mod hd7 (fun h => h))) ?_
    rintro _ w8 ⟨hm8, hmod8, hs8⟩
    obtain ⟨ad7, c7, rfl⟩ := hr7.slice
    have hmod08 : Mod (fun b => b = mr ∨ b = mk) w w8 := ((hmod2.mono fun b _ e => .inr e).trans (Mod.any' hd7)).trans (hmod8.mono fun b _ e => .inl e)
    have hmodM8 : Mod M w w8 := hmod08.mono fun b _ e => by rcases e with rfl | rfl <;> assumption
    have hB8 := h.blk.mod hmod08 (fun e => e.elim n1 n2)
    have hu7 : Sl M w8 (.slice ad7 (cutRow row0 id).length c7) 1 (cutRow row0 id).length (ints (cutRow row0 id)) := (Sl.own hr7 (fun b e hb => by have h1 := hf7 b e; have h2 := hM b hb; simp only [World.drew] at h1; omega)).mod (hmod8.mono fun b _ e => e ▸ hMr)
    have hput : (putM l key (cutRow row0 id, Value.slice ad7 (cutRow row0 id).length c7)).map (fun t => (t.1, t.2.1)) = putM c.1 key (cutRow row0 id) := by
        rw [← hl1]; exact (putM_map (fun a : List Int × Value => a.1) key (_, Value.slice ad7 (cutRow row0 id).length c7) l).symm
    have hput2 : MapAt Value.string w8 mr ((putM l key (cutRow row0 id, Value.slice ad7 (cutRow row0 id).length c7)).map fun t => (t.1, t.2.2)) := by
        rw [← putM_map (fun a : List Int × Value => a.2) key (_, Value.slice ad7 (cutRow row0 id).length c7) l]; exact hm8
    have hlk8 : (lookM ((putM l key (cutRow row0 id, Value.slice ad7 (cutRow row0 id).length c7)).map fun t => (t.1, t.2.2)) key).getD (.slice none 0 0) = .slice ad7 (cutRow row0 id).length c7 := by
        rw [lookM_map (fun a : List Int × Value => a.2), lookM_putM]; simp
    have hk8 : MapAt (Value.int .i64) w8 mk ((cutM c.2 id).map fun t => (t.1, Value.string t.2)) := (hk2.mod hd7 (fun h => h)).mod hmod8 (fun e => h.ne e.symm)
    have hC8 : ∀ w9, Mod (· = mr) w8 w9 → ∀ (rows9 : CRows) (r9 : List (ByteArray × (List Int × Value))), (∀ t ∈ r9, t ∈ putM l key (cutRow row0 id, .slice ad7 (cutRow row0 id).length c7)) → MapAt Value.string w9 mr (r9.map fun t => (t.1, t.2.2)) → r9.map (fun t => (t.1, t.2.1)) = rows9 → CacheAt M w9 p mr mk r (rows9, cutM c.2 id) := by
        intro w9 h9 rows9 r9 hsub hmap hrows
        have h9M : Mod M w8 w9 := h9.mono fun b _ e => e ▸ hMr
        refine ⟨hB8.mod h9 n1, h.ne, (h.ok.mod hmodM8).mod h9M, ⟨r9, hrows, hmap, fun t ht => ?_⟩, hk8.mod h9 (fun e => h.ne e.symm)⟩
        rcases mem_putM (hsub t ht) with h1 | rfl
        · exact ((hl3 t h1).mod hmodM8).mod h9M
        · exact hu7.mod h9M
    refine DL.done ?_
    refine RK.seq ?_
    refine RK.region ?_
    iterate 2 refine RL.p rfl rfl ?_
    refine RL.q (.free rfl) rfl rfl (Yld.fieldAddr fo141_1 rfl) ?_
    refine RL.q (.free rfl) rfl rfl (Yld.load p138 rfl (at1 (hB8.cell rfl))) ?_
    refine RL.p rfl rfl ?_
    refine RL.q (.free rfl) rfl rfl (Yld.lookup Tryz.underlying138 key9 i35 (k := key) rfl rfl (fun w' e => e ▸ hput2)) ?_
    refine RL.re (d := 40) rfl rfl (hlk8) ?_
    refine RL.q (.free rfl) rfl rfl (Yld.lenSl u35 rfl) ?_
    refine RL.p rfl rfl ?_
    refine RL.done ?_
    first | refine RK.condD rfl (fun h42 => ?_) (fun h42 => ?_) | refine RK.condN rfl (fun h42 => ?_) (fun h42 => ?_) | refine RK.cond rfl (fun h42 => ?_) (fun h42 => ?_)
    · have hemp : cutRow row0 id = [] := List.eq_nil_of_length_eq_zero (by omega)
      refine RK.region ?_
      iterate 2 refine RL.p rfl rfl ?_
      refine RL.q (.free rfl) rfl rfl (Yld.fieldAddr fo141_1 rfl) ?_
      refine RL.q (.free rfl) rfl rfl (Yld.load p138 rfl (at1 (hB8.cell rfl))) ?_
      refine RL.p rfl rfl ?_
      refine RL.op' (.free rfl) rfl (Does.delete Tryz.underlying138 key9 (k := key) rfl rfl hput2) ?_
      rintro _ w9 ⟨hm9, hmod9, hs9⟩
      refine RL.done ?_
      refine RK.end_of Tryz.func83 (res0 rfl) ?_
      exact ⟨_, rfl, rfl, by
          have h1 := hC8 w9 hmod9 (cutM (putM c.1 key (cutRow row0 id)) key) (cutM (putM l key (cutRow row0 id, Value.slice ad7 (cutRow row0 id).length c7)) key) (fun t ht => mem_cutM' ht) (by rw [← cutM_map (fun a : List Int × Value => a.2) key]; exact hm9) (by rw [← hput]; exact (cutM_map (fun a : List Int × Value => a.1) key _).symm)
          unfold dropC cutC
          rw [hok]
          simp only [hrow0, if_pos hemp]
          exact h1, hmod08.trans (hmod9.mono fun b _ e => .inl e)⟩
    · have hemp : ¬ cutRow row0 id = [] := fun e => h42 (by rw [e]; rfl)
      refine RK.skip ?_
      refine RK.end_of Tryz.func83 (res0 rfl) ?_
      exact ⟨_, rfl, rfl, by
          have h1 := hC8 w8 (Mod.refl _ _) (putM c.1 key (cutRow row0 id)) _ (fun t ht => ht) hput2 hput
          unfold dropC cutC
          rw [hok]
          simp only [hrow0, if_neg hemp]
          exact h1, hmod08⟩
theorem cachePut_ok (M : Nat → Prop) (w : World) (p mr mk : Nat) (r : Ru) (c : CRows × CKeys) (h : CacheAt M w p mr mk r c) (hMr : M mr) (hMk : M mk) (hM : ∀ b, M b → b < w.heap.size) (a : Al) (ha : AlOk M w a) (hB : CB c 1000000) :
    Fx Tryz.prog 39 [pp p, .agg (alC a).toArray] w (fun u w' => u = .tuple #[] ∧ CacheAt M w' p mr mk r (putC c a.id (sourceS r a.ls a.val) (keyT r.eq a.ls)) ∧ Mod (fun b => b = mr ∨ b = mk) w w') := by
  refine enter Tryz.func39 rfl rfl rfl _ (Pick.sub (l := [0, 1]) (.cons rfl (.cons rfl .nil))) ?_
  refine RK.seq ?_
  refine RK.region ?_
  refine RL.op (.free rfl) rfl rfl (Does.box rfl) ?_
  rintro _ w1 ⟨b3, rfl, hn3⟩
  have h1 := h.grow hn3.grow
  have hz1 := hn3.grow.size
  refine RL.done ?_
  refine RK.seq ?_
  refine RK.region ?_
  refine RL.p rfl rfl ?_
  refine RL.q (.free rfl) rfl rfl (Yld.fieldAddr fo82_0 rfl) ?_
  refine RL.q (.free rfl) rfl rfl (Yld.load p3 rfl (at1 (hn3.blk.cell rfl))) ?_
  refine RL.op (.free rfl) rfl rfl (Does.call rfl e83 (cacheDrop_ok M _ p mr mk r c h1 hMr hMk (fun b hb => by have := hM b hb; omega) a.id hB)) ?_
  rintro _ w2 ⟨rfl, hc2, hm2⟩
  have hz2 := hm2.size
  have hm2M : Mod M w1 w2 := hm2.mono fun b _ e => by rcases e with rfl | rfl <;> assumption
  have ha2 : AlOk M w2 a := (ha.mod (Mod.any' hn3.grow)).mod hm2M
  have hne3 : ¬ (b3 = mr ∨ b3 = mk) := fun e => by have := hn3.at_; have h8 := hM _ hMr; have h9 := hM _ hMk; rcases e with e | e <;> omega
  have hB3 := hn3.blk.mod hm2 hne3
  have hd2 := hB.drop a.id
  refine RL.done ?_
  refine RK.seq ?_
  refine RK.drawM No [(0, false), (1, false), (2, false), (3, false), (4, false), (5, true)] [] mixed (by kernel_rfl) ?_
  iterate 2 refine DL.p rfl rfl rfl ?_
  refine DL.qf rfl (.free rfl) rfl rfl (Yld.fieldAddr fo141_0 rfl) ?_
  refine DL.q rfl (.free rfl) rfl rfl rfl (Yld.loadN (cs := ruC r) a90 rfl (atNM (blkL hc2.blk) (fun h => h))) (Mod.drew _ _) ?_
  refine DL.q rfl (.free rfl) rfl rfl rfl (Yld.loadN (cs := alC a) a82 rfl (atNM (blk0' hB3) (fun h => h))) (Mod.drew _ _) ?_
  refine DL.op rfl (.free rfl) rfl rfl (Does.call rfl e84 (source_ok M M r a _ (hc2.ok.mod (Mod.drew _ _)) (ha2.mod (Mod.drew _ _)))) ?_
  rintro _ w3 ⟨rfl, hg3⟩
  have hd3 := (Mod.drew No w2).trans hg3
  refine ⟨hd3, ?_⟩
  have hc3 := hc2.grow hd3
  have hB33 := hB3.mod hd3 (fun h => h)
  have hz3 := hd3.size
  refine DL.done ?_
  first | refine RK.condD rfl (fun h14 => ?_) (fun h14 => ?_) | refine RK.condN rfl (fun h14 => ?_) (fun h14 => ?_) | refine RK.cond rfl (fun h14 => ?_) (fun h14 => ?_)
  · have h4 : r.eq.length ≤ 4 := source_le h14
    refine RK.seq ?_
    refine RK.drawM No [(0, false), (1, false), (2, false), (3, false), (4, false), (5, true), (6, false)] [] mixed (by kernel_rfl) ?_
    iterate 2 refine DL.p rfl rfl rfl ?_
    refine DL.qf rfl (.free rfl) rfl rfl (Yld.fieldAddr fo141_0 rfl) ?_
    refine DL.q rfl (.free rfl) rfl rfl rfl (Yld.loadN (cs := ruC r) a90 rfl (atNM (blkL hc3.blk) (fun h => h))) (Mod.drew _ _) ?_
    refine DL.q rfl (.free rfl) rfl rfl rfl (Yld.loadN (cs := alC a) a82 rfl (atNM (blk0' hB33) (fun h => h))) (Mod.drew _ _) ?_
    refine DL.op rfl (.free rfl) rfl rfl (Does.call rfl e85 (ruleKey_ok M M r h4 a ha.z _ (hc3.ok.mod (Mod.drew _ _)) ((ha2.l.mod (Mod.any' hd3)).mod (Mod.drew _ _)))) ?_
    rintro _ w4 ⟨rfl, hg4⟩
    have hd4 := (Mod.drew No w3).trans hg4
    refine ⟨hd4, ?_⟩
    have hc4 := hc3.grow hd4
    have hB34 := hB33.mod hd4 (fun h => h)
    have hz4 := hd4.size
    generalize hkey : keyT r.eq a.ls = key at *
    refine DL.p rfl rfl rfl ?_
    refine DL.done ?_
    refine RK.seq ?_
    refine RK.drawM No [(0, false), (1, false), (2, false), (3, false), (4, false), (5, false), (6, false), (7, true)] [7] mixed (by kernel_rfl) ?_
    iterate 2 refine DL.p rfl rfl rfl ?_
    refine DL.qf rfl (.free rfl) rfl rfl (Yld.fieldAddr fo141_2 rfl) ?_
    refine DL.q rfl (.free rfl) rfl rfl rfl (Yld.load p139 rfl (atM (hc4.blk.cell rfl) (fun h => h))) (Mod.drew _ _) ?_
    refine DL.qf rfl (.free rfl) rfl rfl (Yld.fieldAddr fo82_0 rfl) ?_
    refine DL.q rfl (.free rfl) rfl rfl rfl (Yld.load p3 rfl (atM (hB34.cell rfl) (fun h => h))) (Mod.drew _ _) ?_
    refine DL.p rfl rfl rfl ?_
    refine DL.opT rfl (.free rfl) rfl rfl (Does.mapUpdate Tryz.underlying139 key3 (k := a.id) (v := .string key) rfl rfl rfl (hc4.kl.mod (Mod.drew No _) (fun h => h))) ?_
    rintro _ w5 ⟨hm5, hmod5', hs5⟩
    have hmod5 : Mod (· = mk) w4 w5 := (Mod.drew _ _).trans hmod5'
    have hk5 : MapAt (Value.int .i64) w5 mk ((putM (dropC c a.id).2 a.id key).map fun t => (t.1, Value.string t.2)) := by rw [← putM_map]; exact hm5
    obtain ⟨l, hl1, hl2, hl3⟩ := hc4.rl
    have n1 : p ≠ mr := hc4.blk.ty.nem hl2.mp
    have n2 : p ≠ mk := hc4.blk.ty.nem hc4.kl.mp
    have hB5 := hc4.blk.mod hmod5 n2
    have hmod5M : Mod M w4 w5 := hmod5.mono fun b _ e => e ▸ hMk
    have hl25 := hl2.mod hmod5 hc4.ne
    obtain ⟨vv, hval, hsl⟩ := row_at hl1 (fun t ht => (hl3 t ht).mod hmod5M) key
    have hbnd := hd2.look key
    have hB35 := hB34.mod hmod5 (fun e => hne3 (.inr e))
    have hz5 := hmod5.size
    refine DL.done ?_
    refine RK.drawM No [(0, false), (1, false), (2, false), (3, false), (4, false), (5, false), (6, false), (7, false), (8, false), (9, false), (10, false), (11, false), (12, false), (13, true), (14, true)] [14] mixed (by kernel_rfl) ?_
    iterate 2 refine DL.p rfl rfl rfl ?_
    refine DL.qf rfl (.free rfl) rfl rfl (Yld.fieldAddr fo141_1 rfl) ?_
    refine DL.q rfl (.free rfl) rfl rfl rfl (Yld.load p138 rfl (atM (hB5.cell rfl) (fun h => h))) (Mod.drew _ _) ?_
    iterate 3 refine DL.p rfl rfl rfl ?_
    refine DL.qf rfl (.free rfl) rfl rfl (Yld.fieldAddr fo141_1 rfl) ?_
    refine DL.q rfl (.free rfl) rfl rfl rfl (Yld.load p138 rfl (atM (hB5.cell rfl) (fun h => h))) (Mod.drew _ _) ?_
    refine DL.p rfl rfl rfl ?_
    refine DL.q rfl (.free rfl) rfl rfl rfl (Yld.lookup Tryz.underlying138 key9 i35 (k := key) rfl rfl (fun w' hm => hl25.mod hm (fun h => h))) (Mod.drew _ _) ?_
    refine DL.re (d := 38) rfl rfl (hval) ?_
    refine DL.qf rfl (.free rfl) rfl rfl (Yld.fieldAddr fo82_0 rfl) ?_
    refine DL.q rfl (.free rfl) rfl rfl rfl (Yld.load p3 rfl (atM (hB35.cell rfl) (fun h => h))) (Mod.drew _ _) ?_
    refine DL.op rfl (.free rfl) rfl rfl (Does.call rfl e86 (put_ok M _ a.id vv _ (hsl.mod (Mod.drew M _)) (by omega))) ?_
    rintro u7 w7 ⟨hr7, hf7, hg7⟩
    have hd7 := (Mod.drew No w5).trans hg7
    refine ⟨hd7, ?_⟩
    refine DL.opT rfl (.free rfl) rfl rfl (Does.mapUpdate Tryz.underlying138 key9 (k := key) rfl rfl rfl (hl25.mod hd7 (fun h => h))) ?_
    rintro _ w8 ⟨hm8, hmod8, hs8⟩
    have hm48 : Mod (fun b => b = mr ∨ b = mk) w4 w8 := ((hmod5.mono fun b _ e => .inr e).trans (Mod.any' hd7)).trans (hmod8.mono fun b _ e => .inl e)
    have hm48M : Mod M w4 w8 := hm48.mono fun b _ e => by rcases e with rfl | rfl <;> assumption
    have hu7 := (Sl.own (M := M) hr7 (fun b e hb => by have h1 := hf7 b e; have h2 := hM b hb; simp only [World.drew] at h1; omega)).mod (hmod8.mono fun b _ e => e ▸ hMr)
    refine DL.done ?_
    refine RK.end_of Tryz.func39 (res0 rfl) ?_
    exact ⟨_, rfl, rfl, by
        unfold putC
        rw [h14, if_pos rfl]
        refine ⟨hc4.blk.mod hm48 (fun e => e.elim n1 n2), hc4.ne, hc4.ok.mod hm48M, ⟨putM l key (mkRow ((lookM (dropC c a.id).1 key).getD [] ++ [a.id]), u7), ?_, ?_, fun t ht => ?_⟩, (hk5.mod hd7 (fun h => h)).mod hmod8 (fun e => hc4.ne e.symm)⟩
        · show _ = putM (dropC c a.id).1 key (mkRow ((lookM (dropC c a.id).1 key).getD [] ++ [a.id]))
          rw [← hl1]; exact (putM_map (fun a : List Int × Value => a.1) key (_, u7) l).symm
        · rw [← putM_map (fun a : List Int × Value => a.2) key (_, u7) l]; exact hm8
        · rcases mem_putM ht with h1 | rfl
          · exact (hl3 t h1).mod hm48M
          · exact hu7, ((((Mod.any' hn3.grow).trans hm2).trans (Mod.any' hd3)).trans (Mod.any' hd4)).trans hm48⟩
  · refine RK.skip ?_
    refine RK.end_of Tryz.func39 (res0 rfl) ?_
    exact ⟨_, rfl, rfl, by
        unfold putC
        rw [show sourceS r a.ls a.val = false by simpa using h14, if_neg (by decide)]
        exact hc3, ((Mod.any' hn3.grow).trans hm2).trans (Mod.any' hd3)⟩
theorem cacheSources_ok (M M' : Nat → Prop) (w : World) (p mr mk : Nat) (r : Ru) (c : CRows × CKeys) (h : CacheAt M w p mr mk r c) (h4 : r.eq.length ≤ 4) (a : Al) (ha : AlOk M' w a) (hB : CB c 1000000) :
    Fx Tryz.prog 90 [pp p, .agg (alC a).toArray] w (fun u w' => Row w' 3 1 u (rowC c (keyT r.eq a.ls)).length (ints (rowC c (keyT r.eq a.ls))) ∧ Fresh w.heap.size u ∧ Grow w w') := by
  obtain ⟨l, hl1, hl2, hl3⟩ := h.rl
  obtain ⟨vv, hval, hsl⟩ := row_at hl1 hl3 (keyT r.eq a.ls)
  have hbnd := hB.look (keyT r.eq a.ls)
  refine enter Tryz.func90 rfl rfl rfl _ (Pick.sub (l := [0, 1]) (.cons rfl (.cons rfl .nil))) ?_
  refine RK.seq ?_
  refine RK.region ?_
  refine RL.op (.free rfl) rfl rfl (Does.box rfl) ?_
  rintro _ w1 ⟨b3, rfl, hn3⟩
  have hB1 := h.blk.mod hn3.grow (fun h => h)
  refine RL.p rfl rfl ?_
  refine RL.done ?_
  refine RK.seq ?_
  refine RK.drawM No [(0, false), (1, false), (2, false), (3, false), (4, false), (5, false), (6, false), (7, false), (8, false), (9, true), (10, false), (11, true), (12, false)] [] mixed (by kernel_rfl) ?_
  iterate 2 refine DL.p rfl rfl rfl ?_
  refine DL.qf rfl (.free rfl) rfl rfl (Yld.fieldAddr fo141_1 rfl) ?_
  refine DL.q rfl (.free rfl) rfl rfl rfl (Yld.load p138 rfl (atM (hB1.cell rfl) (fun h => h))) (Mod.drew _ _) ?_
  iterate 2 refine DL.p rfl rfl rfl ?_
  refine DL.qf rfl (.free rfl) rfl rfl (Yld.fieldAddr fo141_0 rfl) ?_
  refine DL.q rfl (.free rfl) rfl rfl rfl (Yld.loadN (cs := ruC r) a90 rfl (atNM (blkL hB1) (fun h => h))) (Mod.drew _ _) ?_
  refine DL.q rfl (.free rfl) rfl rfl rfl (Yld.loadN (cs := alC a) a82 rfl (atNM (blk0' hn3.blk) (fun h => h))) (Mod.drew _ _) ?_
  refine DL.op rfl (.free rfl) rfl rfl (Does.call rfl e85 (ruleKey_ok M M' r h4 a ha.z _ ((h.ok.mod (Mod.any' hn3.grow)).mod (Mod.drew _ _)) ((ha.l.mod (Mod.any' hn3.grow)).mod (Mod.drew _ _)))) ?_
  rintro _ w3 ⟨rfl, hg3⟩
  have hd3 := (Mod.drew No w1).trans hg3
  refine ⟨hd3, ?_⟩
  have hg03 := hn3.grow.trans hd3
  refine DL.q rfl (.free rfl) rfl rfl rfl (Yld.lookup Tryz.underlying138 key9 i35 (k := keyT r.eq a.ls) rfl rfl (fun w' hm => (hl2.mod hn3.grow (fun h => h)).mod hm (fun h => h))) (hd3) ?_
  refine DL.re (d := 15) rfl rfl (hval) ?_
  refine DL.op rfl (.free rfl) rfl rfl (Does.call rfl e92 (make_ok M _ vv _ (hsl.mod (Mod.any' hg03)) (by omega))) ?_
  rintro u4 w4 ⟨hr4, hf4, hg4⟩
  refine ⟨hd3.trans hg4, ?_⟩
  refine DL.p rfl rfl rfl ?_
  refine DL.done ?_
  refine RK.ret_of Tryz.func90 (res1 rfl rfl) ?_ _
  exact ⟨_, rfl, hr4, fun b e => by have h1 := hf4 b e; have h2 := hg03.size; omega, hg03.trans hg4⟩
end Go.Proofs.YtbcbfjnlnmhpbaaGreat
set_option linter.unusedVariables false
set_option linter.unusedSimpArgs false
set_option maxHeartbeats 2000000
set_option maxRecDepth 100000
namespace Go.Proofs.YtbcbfjnlnmhpbaaGreat
open Go Go.X Go.Rex
def sevT : ByteArray := ⟨#[115, 101, 118]⟩
def critT : ByteArray := ⟨#[99, 114, 105, 116]⟩
def warnT : ByteArray := ⟨#[119, 97, 114, 110]⟩
def cwT : ByteArray := ⟨#[99, 114, 105, 116, 124, 119, 97, 114, 110]⟩
def mSrc : Mt := ⟨1, sevT, critT⟩
def mTgt : Mt := ⟨3, sevT, cwT⟩
def lsOf (s : ByteArray) : List Lab := [⟨sevT, s⟩]
def cwR : Rx := .node 3 (.cons (.node 2 (.cons (.set [0, 34359738368, 0, 0]) (.cons (.set [0, 1125899906842624, 0, 0]) (.cons (.set [0, 2199023255552, 0, 0]) (.cons (.set [0, 4503599627370496, 0, 0]) .nil))))) (.cons (.node 2 (.cons (.set [0, 36028797018963968, 0, 0]) (.cons (.set [0, 8589934592, 0, 0]) (.cons (.set [0, 1125899906842624, 0, 0]) (.cons (.set [0, 70368744177664, 0, 0]) .nil))))) .nil))
theorem cw_parse : parseS cwT = some cwR := by kernel_rfl
theorem mSrc_is : isM mSrc = true := by kernel_rfl
theorem mSrc_large : largeM mSrc = false := by kernel_rfl
theorem mTgt_is : isM mTgt = true := by kernel_rfl
theorem mTgt_large : largeM mTgt = false := by kernel_rfl
theorem getL_of (s : ByteArray) : getL (lsOf s) sevT = s := by unfold getL lsOf; simp
theorem src_crit : holdsM mSrc (lsOf critT) = true := by
  unfold holdsM
  rw [mSrc_is, mSrc_large]
  simp [mSrc, getL_of]
theorem src_warn : holdsM mSrc (lsOf warnT) = false := by
  have hne : ¬ warnT = critT := by decide
  unfold holdsM
  rw [mSrc_is, mSrc_large]
  simp [mSrc, getL_of, hne]
theorem tgt_warn : holdsM mTgt (lsOf warnT) = true := by
  have ht : takesS cwT warnT = true := by
    unfold takesS
    rw [cw_parse]
    simp only
    rw [takes_iff]
    have hs : ∀ t i, decide (i < warnT.size) && inB t (b8 warnT i) = true → HS warnT t i := fun t i h => by
      simp only [Bool.and_eq_true, decide_eq_true_eq] at h
      exact h
    show Lg (HS warnT) cwR true 0 4
    unfold cwR
    simp only [Lg, Nat.reduceEqDiff, if_true, if_false, Bool.false_eq_true, true_and]
    refine .inr (.inl ⟨1, ⟨hs _ _ (by kernel_rfl), rfl⟩, 2, ⟨hs _ _ (by kernel_rfl), rfl⟩, 3, ⟨hs _ _ (by kernel_rfl), rfl⟩, 4, ⟨hs _ _ (by kernel_rfl), rfl⟩, rfl⟩)
  unfold holdsM
  rw [mTgt_is, mTgt_large]
  simp [mTgt, getL_of, ht]
theorem of18_ok (id : Int) (s : ByteArray) (w : World) : Fx Tryz.prog 93 [.int .i64 id, .string s] w (fun u w' => ∃ b, u = .agg (alC ⟨id, lsOf s, 0, .slice (some ⟨b, 0, none⟩) 1 1⟩).toArray ∧ SlL No w' (.slice (some ⟨b, 0, none⟩) 1 1) (lsOf s) ∧ Grow w w') := by
  refine enter Tryz.func93 rfl rfl rfl _ (Pick.sub (l := [0, 1]) (.cons rfl (.cons rfl .nil))) ?_
  refine RK.seq ?_
  refine RK.region ?_
  refine RL.op (.free rfl) rfl rfl (Does.alloc i82) ?_
  rintro _ w1 ⟨b4, rfl, hn4⟩
  refine RL.done ?_
  refine RK.seq ?_
  refine RK.region ?_
  iterate 2 refine RL.p rfl rfl ?_
  refine RL.q (.free rfl) rfl rfl (Yld.build (v := .agg #[.string sevT, .string s]) rfl (fun w => by kernel_rfl)) ?_
  refine RL.op (.free rfl) rfl rfl (Does.slice1 u39 i38 rfl rfl rfl rfl rfl) ?_
  rintro _ w2 ⟨b5, rfl, hn5⟩
  have hB4 := hn4.blk.mod hn5.grow (fun h => h)
  refine RL.q (.free rfl) rfl rfl (Yld.build (v := .agg #[.int .i64 id, .slice (some ⟨b5, 0, none⟩) 1 1, .float .f64 0]) rfl (fun w => by kernel_rfl)) ?_
  refine RL.op' (.free rfl) rfl (Does.storeN i82 rfl rfl rfl rfl hB4 (Nat.le_refl 3)) ?_
  rintro _ w3 ⟨hb3, hm3, _⟩
  have hs4 := hn4.at_
  have hs5 := hn5.at_
  have hs6 := hn4.size
  have hne : ¬ b5 = b4 := by omega
  refine RL.done ?_
  refine RK.ret_of Tryz.func93 (resC (cs := alC ⟨id, lsOf s, 0, .slice (some ⟨b5, 0, none⟩) 1 1⟩) rfl rfl a82 hb3) ?_ _
  exact ⟨_, rfl, b5, rfl, (Sl.new (M := (· = b4)) hn5 2 1 rfl (by omega) hne).mod hm3 |>.noM, (hn4.grow.trans hn5.grow).then hm3 (fun y hy e => by have e' : y = b4 := e; omega)⟩
def critRu (b1 b2 : Nat) : Ru := ⟨.slice (some ⟨b1, 0, none⟩) 1 1, .slice (some ⟨b2, 0, none⟩) 1 1, .slice none 0 0, [mSrc], [mTgt], ⟨true, 0, 0⟩, []⟩
theorem critical_ok (w : World) : Fx Tryz.prog 94 [] w (fun u w' => ∃ b1 b2, u = .agg (ruC (critRu b1 b2)).toArray ∧ (critRu b1 b2).Ok No w' ∧ Grow w w') := by
  refine enter Tryz.func94 rfl rfl rfl _ (Pick.sub (l := []) .nil) ?_
  refine RK.seq ?_
  refine RK.region ?_
  refine RL.op (.free rfl) rfl rfl (Does.alloc i90) ?_
  rintro _ w1 ⟨b0, rfl, hn0⟩
  refine RL.done ?_
  refine RK.seq ?_
  refine RK.region ?_
  refine RL.q (.free rfl) rfl rfl (Yld.build (v := .agg (mtC mSrc).toArray) rfl (fun w => by kernel_rfl)) ?_
  refine RL.op (.free rfl) rfl rfl (Does.slice1 u28 i108 rfl rfl rfl rfl rfl) ?_
  rintro _ w2 ⟨b1, rfl, hn1⟩
  refine RL.q (.free rfl) rfl rfl (Yld.build (v := .agg (mtC mTgt).toArray) rfl (fun w => by kernel_rfl)) ?_
  refine RL.op (.free rfl) rfl rfl (Does.slice1 u28 i108 rfl rfl rfl rfl rfl) ?_
  rintro _ w3 ⟨b2, rfl, hn2⟩
  have hB0 := (hn0.blk.mod hn1.grow (fun h => h)).mod hn2.grow (fun h => h)
  refine RL.q (.free rfl) rfl rfl (Yld.build (v := .agg (bdC ⟨true, 0, 0⟩).toArray) rfl (fun w => by kernel_rfl)) ?_
  refine RL.q (.free rfl) rfl rfl (Yld.build (v := .agg (ruC (critRu b1 b2)).toArray) rfl (fun w => by kernel_rfl)) ?_
  refine RL.op' (.free rfl) rfl (Does.storeN i90 rfl rfl rfl rfl hB0 (Nat.le_refl 6)) ?_
  rintro _ w4 ⟨hb4, hm4, _⟩
  have hs0 := hn0.at_
  have hs1 := hn1.at_
  have hs2 := hn2.at_
  have hs3 := hn0.size
  have hs4 := hn1.size
  refine RL.done ?_
  refine RK.ret_of Tryz.func94 (resC (cs := ruC (critRu b1 b2)) rfl rfl a90 hb4) ?_ _
  exact ⟨_, rfl, b1, b2, rfl, ⟨((Sl.new (M := (· = b0)) hn1 3 1 rfl (by omega) (by omega)).mod (Mod.any' hn2.grow)).mod hm4 |>.noM, ((Sl.new (M := (· = b0)) hn2 3 1 rfl (by omega) (by omega)).mod hm4).noM, Sl.nil _ _ _ _ _⟩, ((hn0.grow.trans hn1.grow).trans hn2.grow).then hm4 (fun y hy e => by have e' : y = b0 := e; omega)⟩
theorem may0 : mayB ⟨true, 0, 0⟩ = true := by kernel_rfl
theorem in0 (v : Nat) : inBd ⟨true, 0, 0⟩ v = true := by unfold inBd; rw [may0]; rfl
theorem list1 {m : Mt} (h : isM m = true) : listM [m] = true := listM_yes (by simp) fun i hi => by
  obtain rfl : i = 0 := by simpa using hi
  rw [okM_0 rfl]; exact h
theorem crit_works (b1 b2 : Nat) : worksRu (critRu b1 b2) = true := by
  have h1 : isRu (critRu b1 b2) = true := by
    refine isRu_yes (by simp [critRu]) (by simp [critRu]) (list1 mSrc_is) (list1 mTgt_is) may0 (by simp [critRu]) fun i hi => ?_
    simp [critRu] at hi
  have h2 : largeRu (critRu b1 b2) = false := by
    unfold largeRu anyL
    simp [critRu, mSrc_large, mTgt_large]
  unfold worksRu
  rw [h1, h2]; rfl
theorem crit_target (b1 b2 : Nat) : targetS (critRu b1 b2) (lsOf warnT) = true := by
  unfold targetS
  rw [crit_works]
  simp [critRu, tgt_warn]
theorem crit_source (b1 b2 : Nat) (v : Nat) : sourceS (critRu b1 b2) (lsOf critT) v = true := by
  unfold sourceS
  rw [crit_works]
  simp [critRu, src_crit, in0]
theorem crit_source2 (b1 b2 : Nat) (v : Nat) : sourceS (critRu b1 b2) (lsOf warnT) v = false := by
  unfold sourceS
  simp [critRu, src_warn]
theorem crit_yes (b1 b2 : Nat) (i j : Int) (v v' : Value) : mutesS (critRu b1 b2) ⟨i, lsOf critT, 0, v⟩ ⟨j, lsOf warnT, 0, v'⟩ = true := by
  unfold mutesS
  simp only
  rw [crit_target, crit_source, crit_source2]
  have : keyT (critRu b1 b2).eq (lsOf critT) = keyT (critRu b1 b2).eq (lsOf warnT) := rfl
  simp [this]
theorem crit_no (b1 b2 : Nat) (i j : Int) (v v' : Value) (s : ByteArray) : mutesS (critRu b1 b2) ⟨i, lsOf s, 0, v⟩ ⟨j, lsOf critT, 0, v'⟩ = false := by
  unfold mutesS
  simp only
  rw [crit_source]
  simp
theorem crit_no2 (b1 b2 : Nat) (i j : Int) (v v' : Value) (s : ByteArray) : mutesS (critRu b1 b2) ⟨i, lsOf warnT, 0, v⟩ ⟨j, lsOf s, 0, v'⟩ = false := by
  unfold mutesS
  simp only
  rw [crit_source2]
  simp
theorem runs_mut2 (b1 b2 : Nat) (v1 v2 v3 : Value) : mkRow (mutS ⟨2, lsOf warnT, 0, v2⟩ [⟨1, lsOf critT, 0, v1⟩, ⟨2, lsOf warnT, 0, v2⟩, ⟨3, lsOf critT, 0, v3⟩] [critRu b1 b2]) = [1, 3] := by
  have h : mutS ⟨2, lsOf warnT, 0, v2⟩ [⟨1, lsOf critT, 0, v1⟩, ⟨2, lsOf warnT, 0, v2⟩, ⟨3, lsOf critT, 0, v3⟩] [critRu b1 b2] = [1, 3] := by
    unfold mutS mutOf
    simp only [List.flatMap_cons, List.flatMap_nil, List.append_nil, List.filter_cons, List.filter_nil, crit_yes, crit_no2, if_true, Bool.false_eq_true, if_false, List.map_cons, List.map_nil]
  rw [h]
  exact mkRow_id (by simp [Ris])
theorem runs_mut1 (b1 b2 : Nat) (v1 v2 v3 : Value) : mkRow (mutS ⟨1, lsOf critT, 0, v1⟩ [⟨1, lsOf critT, 0, v1⟩, ⟨2, lsOf warnT, 0, v2⟩, ⟨3, lsOf critT, 0, v3⟩] [critRu b1 b2]) = [] := by
  have h : mutS ⟨1, lsOf critT, 0, v1⟩ [⟨1, lsOf critT, 0, v1⟩, ⟨2, lsOf warnT, 0, v2⟩, ⟨3, lsOf critT, 0, v3⟩] [critRu b1 b2] = [] := by
    unfold mutS mutOf
    simp only [List.flatMap_cons, List.flatMap_nil, List.append_nil, List.filter_cons, List.filter_nil, crit_no, Bool.false_eq_true, if_false, List.map_nil]
  rw [h]
  exact mkRow_id (by simp [Ris])
theorem runs_sil (v2 vm : Value) : mkRow (silS 5 ⟨2, lsOf warnT, 0, v2⟩ [⟨9, 0, 5, 6, vm, [mTgt], ⟨true, 0, 0⟩⟩]) = [9] := by
  have h : silHolds 5 ⟨2, lsOf warnT, 0, v2⟩ ⟨9, 0, 5, 6, vm, [mTgt], ⟨true, 0, 0⟩⟩ = true := by
    unfold silHolds
    simp [stateS, tgt_warn, in0]
  have h2 : silS 5 ⟨2, lsOf warnT, 0, v2⟩ [⟨9, 0, 5, 6, vm, [mTgt], ⟨true, 0, 0⟩⟩] = [9] := by
    unfold silS
    simp [h]
  rw [h2]
  exact mkRow_id (by simp [Ris])
theorem lsOf_z {s : ByteArray} (h : s.size ≤ 100000) : ∀ x ∈ lsOf s, x.value.size ≤ 100000 := fun x hx => by
  simp only [lsOf, List.mem_singleton] at hx
  subst hx; exact h
theorem mruns_ok (w : World) : Fx Tryz.prog 42 [] w (fun u w' => u = .bool true ∧ Grow w w') := by
  refine enter Tryz.func42 rfl rfl rfl _ (Pick.sub (l := []) .nil) ?_
  refine RK.seq ?_
  refine RK.region ?_
  refine RL.p rfl rfl ?_
  refine RL.done ?_
  refine RK.seq ?_
  refine RK.region ?_
  refine RL.op (.free rfl) rfl rfl (Does.call rfl e93 (of18_ok 1 critT _)) ?_
  rintro _ w1 ⟨c1, rfl, hs1, hg1⟩
  refine RL.op (.free rfl) rfl rfl (Does.call rfl e93 (of18_ok 2 warnT _)) ?_
  rintro _ w2 ⟨c2, rfl, hs2, hg2⟩
  refine RL.op (.free rfl) rfl rfl (Does.call rfl e93 (of18_ok 3 critT _)) ?_
  rintro _ w3 ⟨c3, rfl, hs3, hg3⟩
  refine RL.op (.free rfl) rfl rfl (Does.bslice (el := 82) ([.int .i64 1, .slice (some ⟨c1, 0, none⟩) 1 1, .float .f64 0, .int .i64 2, .slice (some ⟨c2, 0, none⟩) 1 1, .float .f64 0, .int .i64 3, .slice (some ⟨c3, 0, none⟩) 1 1, .float .f64 0]) rfl (fun w => by kernel_rfl)) ?_
  rintro _ w4 ⟨b4, rfl, hn4⟩
  refine RL.p rfl rfl ?_
  refine RL.done ?_
  refine RK.seq ?_
  refine RK.region ?_
  refine RL.op (.free rfl) rfl rfl (Does.call rfl e94 (critical_ok _)) ?_
  rintro _ w5 ⟨b1, b2, rfl, hru, hg5⟩
  refine RL.op (.free rfl) rfl rfl (Does.slice1 u83 i90 rfl rfl rfl rfl rfl) ?_
  rintro _ w6 ⟨b6, rfl, hn6⟩
  have hAl : Sl No w4 (.slice (some ⟨b4, 0, none⟩) 3 3) 3 3 ([(⟨1, lsOf critT, 0, .slice (some ⟨c1, 0, none⟩) 1 1⟩ : Al), ⟨2, lsOf warnT, 0, .slice (some ⟨c2, 0, none⟩) 1 1⟩, ⟨3, lsOf critT, 0, .slice (some ⟨c3, 0, none⟩) 1 1⟩].flatMap alC) := Sl.new hn4 3 3 rfl (by omega) (fun h => h)
  have hg46 := hg5.trans hn6.grow
  have hRu : Sl No w6 (.slice (some ⟨b6, 0, none⟩) 1 1) 6 1 ([critRu b1 b2].flatMap ruC) := Sl.new hn6 6 1 rfl (by omega) (fun h => h)
  have hP0 : PlainIn w6 ⟨1, lsOf critT, 0, .slice (some ⟨c1, 0, none⟩) 1 1⟩ [] (.slice none 0 0) [(⟨1, lsOf critT, 0, .slice (some ⟨c1, 0, none⟩) 1 1⟩ : Al), ⟨2, lsOf warnT, 0, .slice (some ⟨c2, 0, none⟩) 1 1⟩, ⟨3, lsOf critT, 0, .slice (some ⟨c3, 0, none⟩) 1 1⟩] (.slice (some ⟨b4, 0, none⟩) 3 3) [critRu b1 b2] (.slice (some ⟨b6, 0, none⟩) 1 1) := by
      have h1 : AlOk No w6 ⟨1, lsOf critT, 0, .slice (some ⟨c1, 0, none⟩) 1 1⟩ := ⟨hs1.mod (((hg2.trans hg3).trans hn4.grow).trans hg46), lsOf_z (by decide)⟩
      have h2 : AlOk No w6 ⟨2, lsOf warnT, 0, .slice (some ⟨c2, 0, none⟩) 1 1⟩ := ⟨hs2.mod ((hg3.trans hn4.grow).trans hg46), lsOf_z (by decide)⟩
      have h3 : AlOk No w6 ⟨3, lsOf critT, 0, .slice (some ⟨c3, 0, none⟩) 1 1⟩ := ⟨hs3.mod (hn4.grow.trans hg46), lsOf_z (by decide)⟩
      refine ⟨h1, Sl.nil _ _ _ _ _, by simp, hAl.mod hg46, fun a ha => ?_, hRu, fun r hr => ?_, by simp, by simp, by simp⟩
      · simp only [List.mem_cons, List.not_mem_nil, or_false] at ha
        rcases ha with rfl | rfl | rfl
        · exact h1
        · exact h2
        · exact h3
      · simp only [List.mem_singleton] at hr; subst hr; exact hru.mod hn6.grow
  obtain ⟨x1, x2, x3, hx, _, _, hca⟩ := hP0.a.elem alC_len (k := 1) rfl
  cases hx
  obtain ⟨y1, y2, y3, hy, _, _, hcr⟩ := hP0.r.elem ruC_len (k := 0) rfl
  cases hy
  obtain ⟨z1, z2, z3, hz, _, _, hcb⟩ := hP0.a.elem alC_len (k := 0) rfl
  cases hz
  refine RL.p rfl rfl ?_
  refine RL.done ?_
  refine RK.seq ?_
  refine RK.drawM No [(0, false), (1, false), (2, false), (3, false), (4, false), (5, false), (6, false), (7, false), (8, false), (10, false), (11, false), (9, true), (12, true), (13, false), (14, false), (15, false), (16, false), (17, false)] [] mixed (by kernel_rfl) ?_
  refine DL.p rfl rfl rfl ?_
  refine DL.qf rfl (.free rfl) rfl rfl (Yld.indexAddr u79 i82 rfl rfl (by omega) (by omega)) ?_
  refine DL.q rfl (.free rfl) rfl rfl rfl (Yld.loadN (cs := alC ⟨2, lsOf warnT, 0, .slice (some ⟨c2, 0, none⟩) 1 1⟩) a82 rfl (atNM (fun q z hq => by simpa using hca q z hq) (fun h => h))) (Mod.drew _ _) ?_
  refine DL.p rfl rfl rfl ?_
  refine DL.qf rfl (.free rfl) rfl rfl (Yld.indexAddr u83 i90 rfl rfl (by omega) (by omega)) ?_
  refine DL.qf rfl (.free rfl) rfl rfl (Yld.fieldAddr fo90_1 rfl) ?_
  refine DL.q rfl (.free rfl) rfl rfl rfl (Yld.load p28 rfl (atM (by have := hcr 1 _ rfl; simpa using this) (fun h => h))) (Mod.drew _ _) ?_
  refine DL.qf rfl (.free rfl) rfl rfl (Yld.build (v := .agg (bdC ⟨true, 0, 0⟩).toArray) rfl (fun w => by kernel_rfl)) ?_
  refine DL.qf rfl (.free rfl) rfl rfl (Yld.build (v := .agg (silC ⟨9, 0, 5, 6, .slice (some ⟨b2, 0, none⟩) 1 1, [mTgt], ⟨true, 0, 0⟩⟩).toArray) rfl (fun w => by kernel_rfl)) ?_
  iterate 2 refine DL.p rfl rfl rfl ?_
  refine DL.op rfl (.free rfl) rfl rfl (Does.slice1 u44 i41 rfl rfl rfl rfl rfl) ?_
  rintro _ w7 ⟨b7, rfl, hn7⟩
  have hd7 := (Mod.drew No w6).trans hn7.grow
  refine ⟨hd7, ?_⟩
  have hP1 := hP0.mod hd7
  have hP2 : PlainIn w7 ⟨2, lsOf warnT, 0, .slice (some ⟨c2, 0, none⟩) 1 1⟩ [⟨9, 0, 5, 6, .slice (some ⟨b2, 0, none⟩) 1 1, [mTgt], ⟨true, 0, 0⟩⟩] (.slice (some ⟨b7, 0, none⟩) 1 1) _ _ _ _ := ⟨hP1.al _ (by simp), Sl.new hn7 8 1 rfl (by omega) (fun h => h), fun s hs => by
      simp only [List.mem_singleton] at hs
      subst hs
      exact (hru.mod hn6.grow).t.mod hd7, hP1.a, hP1.al, hP1.r, hP1.rl, by simp, hP1.n2, hP1.n3⟩
  refine DL.op rfl (.free rfl) rfl rfl (Does.call rfl e41 (plain_ok 5 _ _ _ _ _ _ _ _ hP2)) ?_
  rintro _ w8 ⟨v1, v2, rfl, hr1, hr2, hg8⟩
  have hd8 := hd7.trans hg8
  refine ⟨hd8, ?_⟩
  rw [runs_sil] at hr1
  rw [runs_mut2] at hr2
  have hQ0 := hP0.mod hd8
  iterate 5 refine DL.p rfl rfl rfl ?_
  refine DL.done ?_
  refine RK.seq ?_
  refine RK.region ?_
  refine RL.p rfl rfl ?_
  refine RL.q (.free rfl) rfl rfl (Yld.indexAddr u79 i82 rfl rfl (by omega) (by omega)) ?_
  refine RL.q (.free rfl) rfl rfl (Yld.loadN (cs := alC ⟨1, lsOf critT, 0, .slice (some ⟨c1, 0, none⟩) 1 1⟩) a82 rfl (atN (fun q z hq => by simpa using hd8.cell (hcb q z hq) (fun h => h)))) ?_
  iterate 2 refine RL.p rfl rfl ?_
  refine RL.op (.free rfl) rfl rfl (Does.call rfl e41 (plain_ok 5 _ _ _ _ _ _ _ _ hQ0)) ?_
  rintro _ w9 ⟨v3, v4, rfl, hr3, hr4, hg9⟩
  rw [runs_mut1] at hr4
  obtain ⟨ad4, c4, rfl⟩ := hr4.slice
  iterate 5 refine RL.p rfl rfl ?_
  refine RL.done ?_
  refine RK.seq ?_
  refine RK.region ?_
  refine RL.p rfl rfl ?_
  refine RL.op (.free rfl) rfl rfl (Does.slice1 u35 i3 rfl rfl rfl rfl rfl) ?_
  rintro _ w10 ⟨b10, rfl, hn10⟩
  have hg810 := hg9.trans hn10.grow
  refine RL.op (.free rfl) rfl rfl (Does.call rfl e27 (sameInts_ok No [9] [9] _ _ _ (Sl.own (hr1.mod hg810 (fun _ _ h => h)) (fun _ _ h => h)) (Sl.new hn10 1 1 rfl (by omega) (fun h => h)))) ?_
  rintro _ w11 ⟨rfl, hg11⟩
  refine RL.p rfl rfl ?_
  refine RL.knownT (d := 41) rfl rfl (by simp) ?_
  refine RL.q (.yes rfl rfl rfl) rfl rfl (Yld.pure rfl) ?_
  refine RL.op (.yes rfl rfl rfl) rfl rfl (Does.bslice (el := 3) ([.int .i64 1, .int .i64 3]) rfl (fun w => by kernel_rfl)) ?_
  rintro _ w12 ⟨b12, rfl, hn12⟩
  have hg812 := (hg810.trans hg11).trans hn12.grow
  refine RL.op (.yes rfl rfl rfl) rfl rfl (Does.call rfl e27 (sameInts_ok No [1, 3] [1, 3] _ _ _ (Sl.own (hr2.mod hg812 (fun _ _ h => h)) (fun _ _ h => h)) (Sl.new hn12 1 2 rfl (by omega) (fun h => h)))) ?_
  rintro _ w13 ⟨rfl, hg13⟩
  iterate 2 refine RL.p rfl rfl ?_
  refine RL.knownT (d := 46) rfl rfl (by simp) ?_
  refine RL.q (.yes rfl rfl rfl) rfl rfl (Yld.pure rfl) ?_
  refine RL.q (.yes rfl rfl rfl) rfl rfl (Yld.lenSl u35 rfl) ?_
  refine RL.q (.yes rfl rfl rfl) rfl rfl (Yld.pure rfl) ?_
  iterate 2 refine RL.p rfl rfl ?_
  refine RL.done ?_
  refine RK.ret_of Tryz.func42 (res1 rfl rfl) ?_ _
  exact ⟨_, rfl, rfl, (((((hg1.trans hg2).trans hg3).trans hn4.grow).trans hg46).trans hd8).trans (hg812.trans hg13)⟩
end Go.Proofs.YtbcbfjnlnmhpbaaGreat
set_option linter.unusedVariables false
set_option linter.unusedSimpArgs false
set_option maxHeartbeats 4000000
set_option maxRecDepth 100000
namespace Go.Proofs.YtbcbfjnlnmhpbaaGreat
open Go Go.X Go.Rex Ieee
structure One17 (c : CRows × CKeys) (id : Int) (k : Option ByteArray) : Prop where
  ci : CI c
  look : ∀ j, lookM c.2 j = if j = id then k else none
theorem One17.put {c : CRows × CKeys} {id : Int} {k0 : Option ByteArray} (h : One17 c id k0) (s : Bool) (k : ByteArray) : One17 (putC c id s k) id (if s = true then some k else none) :=
  ⟨h.ci.put _ _ _, fun j => by rw [putC_look h.ci, h.look]; by_cases e : j = id <;> simp [e]⟩
theorem One17.nil (id : Int) : One17 ([], []) id none := ⟨CI.nil, fun j => by simp [lookM, placeM]⟩
theorem One17.row {c : CRows × CKeys} {id : Int} {k : Option ByteArray} (h : One17 c id k) (k2 : ByteArray) : rowC c k2 = if k = some k2 then [id] else [] := by
  refine ext_ris (rowC_ris _ _) (by split <;> simp [Ris]) fun j => ?_
  rw [h.ci.mem_row, h.look]
  by_cases e : j = id
  · rw [if_pos e]; by_cases e2 : k = some k2 <;> simp [e, e2]
  · rw [if_neg e]; by_cases e2 : k = some k2 <;> simp [e, e2]
theorem CacheAt.lts {M : Nat → Prop} {w : World} {p mr mk : Nat} {r : Ru} {c : CRows × CKeys} (h : CacheAt M w p mr mk r c) : ∀ b, b = mr ∨ b = mk → b < w.heap.size := fun b e => by
  obtain ⟨l, _, hl, _⟩ := h.rl
  rcases e with rfl | rfl
  · exact hl.lt
  · exact h.kl.lt
end Go.Proofs.YtbcbfjnlnmhpbaaGreat
