/- What the claim stands on, part 9. Of own lemmas only those that it reaches. -/
import Derived.Test.YthbjfhhiajihfaaGreatKd8
set_option linter.unusedVariables false
set_option linter.unusedSimpArgs false
set_option maxHeartbeats 1000000
set_option maxRecDepth 100000
namespace Go.Proofs.YthbjfhhiajihfaaGreat
open Go Go.X Go.Rex
noncomputable def sourceS (r : Ru) (ls : List Lab) (val : Nat) : Bool := (worksRu r && r.src.all fun m => holdsM m ls) && inBd r.bd val
theorem isRu_le {r : Ru} (h : isRu r = true) : r.eq.length ≤ 4 := by
 unfold isRu at h
 simp only [Bool.and_eq_true, Bool.not_eq_true', decide_eq_false_iff_not] at h
 omega
structure AlOk (M : Nat → Prop) (w : World) (a : Al) : Prop where
 l : SlL M w a.v a.ls
 z : ∀ x ∈ a.ls, x.value.size ≤ 100000
theorem AlOk.mod {M : Nat → Prop} {w w' : World} {a : Al} (h : AlOk M w a) (hm : Mod M w w') : AlOk M w' a := ⟨h.l.mod hm, h.z⟩
theorem source_ok (M M' : Nat → Prop) (r : Ru) (a : Al) (w : World) (hr : r.Ok M w) (ha : AlOk M' w a) : Fx Tryz.prog 75 [.agg (ruC r).toArray, .agg (alC a).toArray] w (fun u w' => u = .bool (sourceS r a.ls a.val) ∧ Grow w w') := by
 refine enter Tryz.func75 rfl rfl rfl _ (Pick.sub (l := [0, 1]) (.cons rfl (.cons rfl .nil))) ?_
 refine GG ?_
 refine OP (Does.box rfl) ?_
 rintro _ w1 ⟨b1, rfl, hn1⟩
 refine OP (Does.box rfl) ?_
 rintro _ w2 ⟨b2, rfl, hn2⟩
 have hB1 : Blk w2 b1 30 (ruC r) := hn1.blk.mod hn2.grow (fun h => h)
 have hB2 : Blk w2 b2 35 (alC a) := hn2.blk
 have hg2 := hn1.grow.trans hn2.grow
 refine GG ?_
 refine QQ (Yld.loadN (cs := ruC r) a30 rfl (atN (blk0' hB1))) ?_
 refine OP (Does.call rfl e142 (works_ok M r _ (hr.mod (Mod.any' hg2)))) ?_
 rintro _ w3 ⟨rfl, hg3⟩
 have hg03 := hg2.trans hg3
 refine RL.p rfl rfl ?_
 refine SP 7 (fun h6 => ?_) (fun h6 => ?_)
 ·refine QQ (Yld.fieldAddr fo30_0 rfl) ?_
  refine QQ (Yld.load p24 rfl (at1 ((hB1.mod hg3 (fun h => h)).cell rfl))) ?_
  refine QQ (Yld.fieldAddr fo35_1 rfl) ?_
  refine QQ (Yld.load p33 rfl (at1 ((hB2.mod hg3 (fun h => h)).cell rfl))) ?_
  refine OP (Does.call rfl e104 (allM_ok holdsM r.src (fun m _ => matchHolds_ok m) M' M a.ls ha.z _ _ _ (hr.s.mod (Mod.any' hg03)) (ha.l.mod (Mod.any' hg03)))) ?_
  rintro _ w4 ⟨rfl, hg4⟩
  have hg34 := hg3.trans hg4
  refine GG ?_
  refine SP 14 (fun h12 => ?_) (fun h12 => ?_)
  ·refine QQ (Yld.fieldAddr fo30_2 rfl) ?_
   refine QQ (Yld.loadN (cs := bdC r.bd) a27 rfl (atN (fldN (hB1.mod hg34 (fun h => h)) 2 3))) ?_
   refine QQ (Yld.fieldAddr fo35_2 rfl) ?_
   refine QQ (Yld.load p25 rfl (at1 ((hB2.mod hg34 (fun h => h)).cell rfl))) ?_
   refine OP (Does.call rfl e105 (in_band_ok r.bd a.val _)) ?_
   rintro _ w5 ⟨rfl, hg5⟩
   refine GG ?_
   refine RK.ret_of Tryz.func75 (res1 rfl rfl) ?_ _
   exact ⟨_, rfl, by unfold sourceS; rw [h6, h12]; rfl, (hg03.trans hg4).trans hg5⟩
  ·iterate 5 refine RL.no (.no rfl rfl rfl rfl) rfl rfl ?_
   refine GG ?_
   refine RK.ret_of Tryz.func75 (res1 rfl rfl) ?_ _
   exact ⟨_, rfl, by unfold sourceS; rw [h6, show (r.src.all fun m => holdsM m a.ls) = false by simpa only [Bool.not_eq_true] using h12]; rfl, hg03.trans hg4⟩
 ·iterate 5 refine RL.no (.no rfl rfl rfl rfl) rfl rfl ?_
  refine GG ?_
  iterate 5 refine RL.no (.no rfl rfl rfl rfl) rfl rfl ?_
  refine GG ?_
  refine RK.ret_of Tryz.func75 (res1 rfl rfl) ?_ _
  exact ⟨_, rfl, by unfold sourceS; rw [show worksRu r = false by simpa using h6]; rfl, hg03⟩
theorem sourceR_ok (M M' : Nat → Prop) (r : Ru) (a : Al) (w : World) (hr : r.Ok M w) (hz : r.Sz) (ha : AlOk M' w a) : Fx Tryz.prog 33 [.agg (ruC r).toArray, .agg (alC a).toArray] w (fun u w' => u = .bool (sourceS r a.ls a.val) ∧ Grow w w') := by
 refine enter Tryz.func33 rfl rfl rfl _ (Pick.sub (l := [0, 1]) (.cons rfl (.cons rfl .nil))) ?_
 refine GG ?_
 refine OP (Does.box rfl) ?_
 rintro _ w1 ⟨b1, rfl, hn1⟩
 refine OP (Does.box rfl) ?_
 rintro _ w2 ⟨b2, rfl, hn2⟩
 have hB1 : Blk w2 b1 30 (ruC r) := hn1.blk.mod hn2.grow (fun h => h)
 have hB2 : Blk w2 b2 35 (alC a) := hn2.blk
 have hg2 := hn1.grow.trans hn2.grow
 refine GG ?_
 refine QQ (Yld.loadN (cs := ruC r) a30 rfl (atN (blk0' hB1))) ?_
 refine OP (Does.call rfl e29 (isRuleR_ok M r _ (hr.mod (Mod.any' hg2)) hz)) ?_
 rintro _ w3 ⟨rfl, hg3⟩
 have hg03 := hg2.trans hg3
 refine RL.p rfl rfl ?_
 refine SP 7 (fun h6 => ?_) (fun h6 => ?_)
 ·refine QQ (Yld.loadN (cs := ruC r) a30 rfl (atN (blk0' (hB1.mod hg3 (fun h => h))))) ?_
  refine OP (Does.call rfl e88 (largeRuR_ok M r _ (hr.mod (Mod.any' hg03)) hz)) ?_
  rintro _ w4 ⟨rfl, hg4⟩
  have hg34 := hg3.trans hg4
  have hg04 := hg03.trans hg4
  refine QQ (Yld.pure rfl) ?_
  refine GG ?_
  refine SP 12 (fun h10 => ?_) (fun h10 => ?_)
  ·have hwk : worksRu r = true := by unfold worksRu; rw [h6, h10]; rfl
   refine QQ (Yld.fieldAddr fo30_0 rfl) ?_
   refine QQ (Yld.load p24 rfl (at1 ((hB1.mod hg34 (fun h => h)).cell rfl))) ?_
   refine QQ (Yld.fieldAddr fo35_1 rfl) ?_
   refine QQ (Yld.load p33 rfl (at1 ((hB2.mod hg34 (fun h => h)).cell rfl))) ?_
   refine OP (Does.call rfl e89 (allR_ok r.src hz.s M' M a.ls ha.z _ _ _ (hr.s.mod (Mod.any' hg04)) (ha.l.mod (Mod.any' hg04)))) ?_
   rintro _ w5 ⟨rfl, hg5⟩
   have hg35 := hg34.trans hg5
   refine GG ?_
   refine SP 19 (fun h17 => ?_) (fun h17 => ?_)
   ·refine QQ (Yld.fieldAddr fo30_2 rfl) ?_
    refine QQ (Yld.loadN (cs := bdC r.bd) a27 rfl (atN (fldN (hB1.mod hg35 (fun h => h)) 2 3))) ?_
    refine QQ (Yld.fieldAddr fo35_2 rfl) ?_
    refine QQ (Yld.load p25 rfl (at1 ((hB2.mod hg35 (fun h => h)).cell rfl))) ?_
    refine OP (Does.call rfl e90 (inR_ok r.bd a.val _)) ?_
    rintro _ w6 ⟨rfl, hg6⟩
    refine GG ?_
    refine RK.ret_of Tryz.func33 (res1 rfl rfl) ?_ _
    exact ⟨_, rfl, by unfold sourceS; rw [hwk, h17]; rfl, (hg04.trans hg5).trans hg6⟩
   ·iterate 5 refine RL.no (.no rfl rfl rfl rfl) rfl rfl ?_
    refine GG ?_
    refine RK.ret_of Tryz.func33 (res1 rfl rfl) ?_ _
    exact ⟨_, rfl, by unfold sourceS; rw [hwk, show (r.src.all fun m => holdsM m a.ls) = false by simpa only [Bool.not_eq_true] using h17]; rfl, hg04.trans hg5⟩
  ·iterate 5 refine RL.no (.no rfl rfl rfl rfl) rfl rfl ?_
   refine GG ?_
   iterate 5 refine RL.no (.no rfl rfl rfl rfl) rfl rfl ?_
   refine GG ?_
   refine RK.ret_of Tryz.func33 (res1 rfl rfl) ?_ _
   exact ⟨_, rfl, by unfold sourceS worksRu; rw [h6, h10]; rfl, hg04⟩
 ·iterate 3 refine RL.no (.no rfl rfl rfl rfl) rfl rfl ?_
  refine GG ?_
  iterate 5 refine RL.no (.no rfl rfl rfl rfl) rfl rfl ?_
  refine GG ?_
  iterate 5 refine RL.no (.no rfl rfl rfl rfl) rfl rfl ?_
  refine GG ?_
  refine RK.ret_of Tryz.func33 (res1 rfl rfl) ?_ _
  exact ⟨_, rfl, by unfold sourceS worksRu; rw [show isRu r = false by simpa using h6]; rfl, hg03⟩
end Go.Proofs.YthbjfhhiajihfaaGreat
set_option linter.unusedVariables false
set_option linter.unusedSimpArgs false
set_option maxHeartbeats 2000000
set_option maxRecDepth 100000
namespace Go.Proofs.YthbjfhhiajihfaaGreat
open Go Go.X Go.Rex
theorem ruC_one {M : Nat → Prop} {w : World} {r : Ru} (h : r.Ok M w) : ((Value.agg (ruC r).toArray).cells.toList.all fun x => x.oneCell') = true := by
 obtain ⟨ad, c, e⟩ := h.s.shape
 obtain ⟨ad2, c2, e2⟩ := h.t.shape
 obtain ⟨ad3, c3, e3⟩ := h.e.shape
 show (ruC r).all _ = true
 unfold ruC
 rw [e, e2, e3]; rfl
theorem alC_one {M : Nat → Prop} {w : World} {a : Al} (h : AlOk M w a) : ((Value.agg (alC a).toArray).cells.toList.all fun x => x.oneCell') = true := by
 obtain ⟨ad, c, e⟩ := h.l.shape
 show (alC a).all _ = true
 unfold alC
 rw [e]; rfl
end Go.Proofs.YthbjfhhiajihfaaGreat
set_option linter.unusedVariables false
set_option linter.unusedSimpArgs false
set_option maxHeartbeats 1000000
set_option maxRecDepth 100000
namespace Go.Proofs.YthbjfhhiajihfaaGreat
open Go Go.X Go.Sort
abbrev strs (xs : List ByteArray) : List Value := xs.map Value.string
theorem allOne_strs (xs : List ByteArray) : ((strs xs).all fun x => x.oneCell') = true := by rw [List.all_eq_true]; intro u hu; obtain ⟨x, _, rfl⟩ := List.mem_map.1 hu; rfl
end Go.Proofs.YthbjfhhiajihfaaGreat
set_option linter.unusedVariables false
set_option linter.unusedSimpArgs false
set_option maxHeartbeats 1000000
set_option maxRecDepth 100000
namespace Go.Proofs.YthbjfhhiajihfaaGreat
open Go Go.X
end Go.Proofs.YthbjfhhiajihfaaGreat
set_option linter.unusedVariables false
set_option linter.unusedSimpArgs false
set_option maxHeartbeats 2000000
set_option maxRecDepth 100000
namespace Go.Proofs.YthbjfhhiajihfaaGreat
open Go Go.X
end Go.Proofs.YthbjfhhiajihfaaGreat
set_option linter.unusedVariables false
set_option linter.unusedSimpArgs false
set_option maxHeartbeats 400000
namespace Go.Proofs.YthbjfhhiajihfaaGreat
open Go Go.X
abbrev CRows := List (ByteArray × List Int)
abbrev CKeys := List (Int × ByteArray)
def addC (rows : CRows) (k : ByteArray) (id : Int) : CRows := putM rows k (mkRow ((lookM rows k).getD [] ++ [id]))
def cutC (rows : CRows) (k : ByteArray) (id : Int) : CRows := if cutRow ((lookM rows k).getD []) id = [] then cutM (putM rows k (cutRow ((lookM rows k).getD []) id)) k else putM rows k (cutRow ((lookM rows k).getD []) id)
def dropC (c : CRows × CKeys) (id : Int) : CRows × CKeys := match lookM c.2 id with
 | none => c
 | some k => (cutC c.1 k id, cutM c.2 id)
def putC (c : CRows × CKeys) (id : Int) (s : Bool) (k : ByteArray) : CRows × CKeys := if s = true then (addC (dropC c id).1 k id, putM (dropC c id).2 id k) else dropC c id
structure CI (c : CRows × CKeys) : Prop where
 nk : (c.2.map (·.1)).Nodup
 nr : (c.1.map (·.1)).Nodup
 row : ∀ t ∈ c.1, Ris t.2 ∧ t.2 ≠ []
 mem : ∀ k id, id ∈ (lookM c.1 k).getD [] ↔ lookM c.2 id = some k
theorem CI.nil : CI ([], []) := ⟨by simp, by simp, by simp, by simp [lookM, placeM]⟩
theorem lookC_add (rows : CRows) (k k' : ByteArray) (id j : Int) : j ∈ (lookM (addC rows k id) k').getD [] ↔ j ∈ (lookM rows k').getD [] ∨ j = id ∧ k' = k := by
 unfold addC
 rw [lookM_putM]
 by_cases hk : k' = k
 ·subst hk; simp [mem_mkRow]
 ·rw [if_neg hk]; simp [hk]
theorem lookC_cut {rows : CRows} (h : (rows.map (·.1)).Nodup) (k k' : ByteArray) (id j : Int) : j ∈ (lookM (cutC rows k id) k').getD [] ↔ j ∈ (lookM rows k').getD [] ∧ ¬ (j = id ∧ k' = k) := by
 have hp := putM_nodup (k := k) (v := cutRow ((lookM rows k).getD []) id) h
 have e : (lookM (cutC rows k id) k').getD [] = if k' = k then cutRow ((lookM rows k).getD []) id else (lookM rows k').getD [] := by
  unfold cutC
  split
  ·rename_i h0
   rw [lookM_cutM hp, lookM_putM]
   split
   ·simp [h0]
   ·rfl
  ·rw [lookM_putM]
   split <;> rfl
 rw [e]
 by_cases hk : k' = k
 ·subst hk; simp [mem_cutRow]
 ·rw [if_neg hk]; simp [hk]
theorem addC_rows {rows : CRows} (hr : ∀ t ∈ rows, Ris t.2 ∧ t.2 ≠ []) (k : ByteArray) (id : Int) : ∀ t ∈ addC rows k id, Ris t.2 ∧ t.2 ≠ [] := fun t ht => by
 rcases mem_putM ht with h1 | rfl
 ·exact hr t h1
 ·exact ⟨mkRow_ris _, mkRow_ne (x := id) (by simp)⟩
theorem cutC_rows {rows : CRows} (hn : (rows.map (·.1)).Nodup) (hr : ∀ t ∈ rows, Ris t.2 ∧ t.2 ≠ []) (k : ByteArray) (id : Int) : ((cutC rows k id).map (·.1)).Nodup ∧ ∀ t ∈ cutC rows k id, Ris t.2 ∧ t.2 ≠ [] := by
 have hp := putM_nodup (k := k) (v := cutRow ((lookM rows k).getD []) id) hn
 unfold cutC
 split
 ·refine ⟨cutM_nodup hp, fun t ht => ?_⟩
  obtain ⟨h1, h2⟩ := (mem_cutM hp).1 ht
  rcases mem_putM h1 with h3 | rfl
  ·exact hr t h3
  ·exact absurd rfl h2
 ·rename_i hne
  refine ⟨hp, fun t ht => ?_⟩
  rcases mem_putM ht with h3 | rfl
  ·exact hr t h3
  ·exact ⟨cutRow_ris _ _, hne⟩
theorem dropC_look {c : CRows × CKeys} (h : CI c) (id j : Int) : lookM (dropC c id).2 j = if j = id then none else lookM c.2 j := by
 unfold dropC
 cases hk : lookM c.2 id with
 | none =>
  simp only
  split
  ·rename_i e; rw [e]; exact hk
  ·rfl
 | some k => exact lookM_cutM h.nk
theorem CI.drop {c : CRows × CKeys} (h : CI c) (id : Int) : CI (dropC c id) := by
 have hl := dropC_look h id
 unfold dropC at hl ⊢
 cases hk : lookM c.2 id with
 | none => exact h
 | some k =>
  rw [hk] at hl
  obtain ⟨h1, h2⟩ := cutC_rows h.nr h.row k id
  refine ⟨cutM_nodup h.nk, h1, h2, fun k' j => ?_⟩
  have h3 := hl j
  simp only at h3 ⊢
  rw [lookC_cut h.nr, h.mem, h3]
  by_cases e : j = id
  ·subst e
   rw [hk]
   simp only [true_and, if_true, Option.some.injEq, reduceCtorEq, iff_false]
   intro hh
   exact hh.2 hh.1.symm
  ·simp [e]
theorem putC_look {c : CRows × CKeys} (h : CI c) (id : Int) (s : Bool) (k : ByteArray) (j : Int) : lookM (putC c id s k).2 j = if j = id then (if s = true then some k else none) else lookM c.2 j := by
 unfold putC
 cases s with
 | true =>
  simp only [if_true]
  rw [lookM_putM, dropC_look h]
  by_cases e : j = id <;> simp [e]
 | false =>
  simp only [Bool.false_eq_true, if_false]
  rw [dropC_look h]
theorem CI.put {c : CRows × CKeys} (h : CI c) (id : Int) (s : Bool) (k : ByteArray) : CI (putC c id s k) := by
 have hd := h.drop id
 have hl := putC_look h id s k
 unfold putC at hl ⊢
 cases s with
 | false => exact hd
 | true =>
  simp only [if_true] at hl ⊢
  refine ⟨putM_nodup hd.nk, putM_nodup hd.nr, addC_rows hd.row _ _, fun k' j => ?_⟩
  have h3 := hl j
  simp only at h3 ⊢
  rw [lookC_add, hd.mem, h3, dropC_look h]
  by_cases e : j = id
  ·subst e; simp [eq_comm]
  ·simp [e]
def CB (c : CRows × CKeys) (B : Nat) : Prop := (∀ t ∈ c.1, t.2.length ≤ B) ∧ c.2.length ≤ B
theorem CB.nil : CB ([], []) 0 := ⟨by simp, by simp⟩
theorem CB.mono {c : CRows × CKeys} {B B' : Nat} (h : CB c B) (hB : B ≤ B') : CB c B' := ⟨fun t ht => Nat.le_trans (h.1 t ht) hB, Nat.le_trans h.2 hB⟩
theorem CB.look {c : CRows × CKeys} {B : Nat} (h : CB c B) (k : ByteArray) : ((lookM c.1 k).getD []).length ≤ B := by
 cases hl : lookM c.1 k with
 | none => simp
 | some a => exact h.1 _ (lookM_mem hl)
theorem cutM_len {κ α : Type} [DecidableEq κ] (k : κ) (l : List (κ × α)) : (cutM l k).length ≤ l.length := (cutM_sub k l).length_le
theorem CB.drop {c : CRows × CKeys} {B : Nat} (h : CB c B) (id : Int) : CB (dropC c id) B := by
 unfold dropC
 cases hk : lookM c.2 id with
 | none => exact h
 | some k =>
  refine ⟨fun t ht => ?_, Nat.le_trans (cutM_len _ _) h.2⟩
  have hp : ∀ t ∈ putM c.1 k (cutRow ((lookM c.1 k).getD []) id), t.2.length ≤ B := fun t ht => by
   rcases mem_putM ht with h1 | rfl
   ·exact h.1 t h1
   ·exact Nat.le_trans (cutRow_le _ _) (h.look k)
  simp only [cutC] at ht
  split at ht
  ·exact hp t (mem_cutM' ht)
  ·exact hp t ht
theorem CB.put {c : CRows × CKeys} {B : Nat} (h : CB c B) (id : Int) (s : Bool) (k : ByteArray) : CB (putC c id s k) (B + 1) := by
 have hd := h.drop id
 unfold putC
 cases s with
 | false => exact ⟨fun t ht => Nat.le_succ_of_le (hd.1 t ht), Nat.le_succ_of_le hd.2⟩
 | true =>
  simp only [if_true]
  refine ⟨fun t ht => ?_, ?_⟩
  ·rcases mem_putM ht with h1 | rfl
   ·exact Nat.le_succ_of_le (hd.1 t h1)
   ·have h1 := mkRow_le ((lookM (dropC c id).1 k).getD [] ++ [id])
    have h2 := hd.look k
    simp at h1 ⊢
    omega
  ·have h2 := hd.2
   rw [putM_len]
   split <;> omega
end Go.Proofs.YthbjfhhiajihfaaGreat
set_option linter.unusedVariables false
set_option linter.unusedSimpArgs false
set_option maxHeartbeats 400000
namespace Go.Proofs.YthbjfhhiajihfaaGreat
open Go Go.X
section
variable {α : Type} (idf : α → Int) (src : α → Bool) (key : α → ByteArray)
def leftA (all : List α) (id : Int) : List α := all.filter fun a => decide (idf a ≠ id)
structure CR (c : CRows × CKeys) (all : List α) : Prop where
 ci : CI c
 nd : (all.map idf).Nodup
 look : ∀ id k, lookM c.2 id = some k ↔ ∃ a ∈ all, idf a = id ∧ src a = true ∧ key a = k
end
section
variable {α : Type} {idf : α → Int} {src : α → Bool} {key : α → ByteArray} {c : CRows × CKeys} {all : List α}
theorem CR.nil : CR idf src key ([], []) [] := ⟨CI.nil, by simp, by simp [lookM, placeM]⟩
theorem mem_leftA {id : Int} {a : α} : a ∈ leftA idf all id ↔ a ∈ all ∧ idf a ≠ id := by simp [leftA]
theorem leftA_nd (h : (all.map idf).Nodup) (id : Int) : ((leftA idf all id).map idf).Nodup := h.sublist (List.filter_sublist.map _)
theorem leftA_le (all : List α) (id : Int) : (leftA idf all id).length ≤ all.length := List.length_filter_le _ _
theorem leftA_snoc {k : Nat} {a : α} (h : all[k]? = some a) (id : Int) : leftA idf (all.take (k + 1)) id = leftA idf (all.take k) id ++ (if idf a ≠ id then [a] else []) := by
 have hk := (List.getElem?_eq_some_iff.1 h).1
 unfold leftA
 rw [List.take_succ_eq_append_getElem hk, (List.getElem?_eq_some_iff.1 h).2, List.filter_append]
 by_cases e : idf a = id <;> simp [e]
theorem CR.drop (h : CR idf src key c all) (id : Int) : CR idf src key (dropC c id) (leftA idf all id) := by
 refine ⟨h.ci.drop id, leftA_nd h.nd id, fun j k => ?_⟩
 rw [dropC_look h.ci]
 by_cases e : j = id
 ·rw [if_pos e]
  simp only [reduceCtorEq, false_iff]
  rintro ⟨a, ha, e1, _⟩
  exact (mem_leftA.1 ha).2 (e1.trans e)
 ·rw [if_neg e, h.look]
  constructor
  ·rintro ⟨a, ha, e1, e2⟩
   exact ⟨a, mem_leftA.2 ⟨ha, fun e3 => e (e1 ▸ e3)⟩, e1, e2⟩
  ·rintro ⟨a, ha, e1, e2⟩
   exact ⟨a, (mem_leftA.1 ha).1, e1, e2⟩
theorem CR.put (h : CR idf src key c all) (a : α) : CR idf src key (putC c (idf a) (src a) (key a)) (leftA idf all (idf a) ++ [a]) := by
 refine ⟨h.ci.put _ _ _, ?_, fun j k => ?_⟩
 ·rw [List.map_append, List.nodup_append]
  refine ⟨leftA_nd h.nd _, by simp, fun x hx y hy e => ?_⟩
  simp only [List.map_cons, List.map_nil, List.mem_singleton] at hy
  obtain ⟨b, hb, e2⟩ := List.mem_map.1 hx
  exact (mem_leftA.1 hb).2 (e2.trans (e.trans hy))
 ·rw [putC_look h.ci]
  by_cases e : j = idf a
  ·subst e
   simp only [if_true]
   constructor
   ·intro h1
    cases hs : src a with
    | false => rw [hs] at h1; simp at h1
    | true =>
     rw [hs] at h1
     simp only [if_true, Option.some.injEq] at h1
     exact ⟨a, by simp, rfl, hs, h1⟩
   ·rintro ⟨b, hb, e1, e2, e3⟩
    rcases List.mem_append.1 hb with hb | hb
    ·exact absurd e1 (mem_leftA.1 hb).2
    ·rw [List.mem_singleton] at hb
     subst hb
     rw [if_pos e2, e3]
  ·rw [if_neg e, h.look]
   constructor
   ·rintro ⟨b, hb, e1, e2⟩
    exact ⟨b, List.mem_append_left _ (mem_leftA.2 ⟨hb, fun e3 => e (e1 ▸ e3)⟩), e1, e2⟩
   ·rintro ⟨b, hb, e1, e2⟩
    rcases List.mem_append.1 hb with hb | hb
    ·exact ⟨b, (mem_leftA.1 hb).1, e1, e2⟩
    ·rw [List.mem_singleton] at hb
     exact absurd (hb ▸ e1).symm e
def rowC (c : CRows × CKeys) (k : ByteArray) : List Int := mkRow ((lookM c.1 k).getD [])
theorem rowC_ris (c : CRows × CKeys) (k : ByteArray) : Ris (rowC c k) := mkRow_ris _
theorem CI.mem_row (h : CI c) (k : ByteArray) (j : Int) : j ∈ rowC c k ↔ lookM c.2 j = some k := by unfold rowC; rw [mem_mkRow, h.mem]
theorem CR.mem_row (h : CR idf src key c all) (k : ByteArray) (j : Int) : j ∈ rowC c k ↔ ∃ a ∈ all, idf a = j ∧ src a = true ∧ key a = k := by rw [h.ci.mem_row, h.look]
theorem keys_nil {l : CKeys} (h : ∀ j k, lookM l j ≠ some k) : l = [] := by
 cases l with
 | nil => rfl
 | cons t l => exact absurd (by rw [lookM_cons, if_pos rfl]) (h t.1 t.2)
theorem CI.empty (h : CI c) (h2 : c.2 = []) : c.1 = [] := by
 cases hc : c.1 with
 | nil => rfl
 | cons t l =>
  have ht : t ∈ c.1 := by rw [hc]; simp
  obtain ⟨_, hne⟩ := h.row t ht
  obtain ⟨j, hj⟩ := List.exists_mem_of_ne_nil _ hne
  have hl : lookM c.1 t.1 = some t.2 := (lookM_iff h.nr).2 ht
  have := (h.mem t.1 j).1 (by rw [hl]; exact hj)
  rw [h2] at this
  simp [lookM, placeM] at this
end
end Go.Proofs.YthbjfhhiajihfaaGreat
set_option linter.unusedVariables false
set_option linter.unusedSimpArgs false
set_option maxHeartbeats 1000000
set_option maxRecDepth 100000
namespace Go.Proofs.YthbjfhhiajihfaaGreat
open Go Go.X Go.Rex
theorem cloneM_ok (M : Nat → Prop) (xs : List Mt) (v : Value) (w : World) (hv : SlM M w v xs) (hb : xs.length ≤ 1000000) :
  Fx Tryz.prog 101 [v] w (fun u w' => Row w' 135 3 u xs.length (xs.flatMap mtC) ∧ Fresh w.heap.size u ∧ Grow w w') := by
 obtain ⟨ad, c, b, o, rfl, hf⟩ := hv.open
 refine enter Tryz.func101 rfl rfl rfl _ (Pick.sub (l := [0]) (.cons rfl .nil)) ?_
 refine GG ?_
 refine QQ (Yld.eqNil u24 rfl rfl) ?_
 refine RL.done ?_
 refine CD (fun h4 => ?_) (fun h4 => ?_)
 ·refine GG ?_
  refine RK.ret_of Tryz.func101 (res1 rfl rfl) ?_ _
  exact ⟨_, rfl, by cases ad with | none => (have h0 : xs.length = 0 := by (rcases Nat.eq_zero_or_pos xs.length with h | h; exact h; exact absurd (hf h).1 (by simp))); have : xs = [] := List.eq_nil_of_length_eq_zero h0; subst this; exact ⟨Row.nil _ _ _, fun b hb => by simp [Value.ownBlock] at hb, Mod.refl _ _⟩ | some a => simp at h4⟩
 ·refine GG ?_
  refine OP (Does.slice0 u24 i135) ?_
  rintro _ w1 ⟨b1, rfl, hn1⟩
  refine RL.p rfl rfl ?_
  refine OP (Does.append u24 i135 rfl rfl rfl rfl rfl (Row.new hn1 3 0 rfl (by omega)) ((hv.mod (Mod.any' hn1.grow)).noM) (allOne_mts xs) (by omega)) ?_
  rintro u w2 ⟨hr, hm, hu⟩
  refine GG ?_
  refine RK.ret_of Tryz.func101 (res1 rfl rfl) ?_ _
  exact ⟨_, rfl, by simpa using hr, fun b hb => by rcases hu with hu | hu <;> rw [hu] at hb <;> simp [Value.ownBlock] at hb <;> (have := hn1.at_; have := hn1.size; omega), hn1.grow.then hm (fun x hx e => by simp [Value.ownBlock] at e; have := hn1.at_; omega)⟩
theorem cloneS_ok (M : Nat → Prop) (xs : List ByteArray) (v : Value) (w : World) (hv : Sl M w v 1 xs.length (strsV xs)) (hb : xs.length ≤ 1000000) :
  Fx Tryz.prog 141 [v] w (fun u w' => Row w' 9 1 u xs.length (strsV xs) ∧ Fresh w.heap.size u ∧ Grow w w') := by
 obtain ⟨ad, c, b, o, rfl, hf⟩ := hv.open
 refine enter Tryz.func141 rfl rfl rfl _ (Pick.sub (l := [0]) (.cons rfl .nil)) ?_
 refine GG ?_
 refine QQ (Yld.eqNil u28 rfl rfl) ?_
 refine RL.done ?_
 refine CD (fun h4 => ?_) (fun h4 => ?_)
 ·refine GG ?_
  refine RK.ret_of Tryz.func141 (res1 rfl rfl) ?_ _
  exact ⟨_, rfl, by cases ad with | none => (have h0 : xs.length = 0 := by (rcases Nat.eq_zero_or_pos xs.length with h | h; exact h; exact absurd (hf h).1 (by simp))); have : xs = [] := List.eq_nil_of_length_eq_zero h0; subst this; exact ⟨Row.nil _ _ _, fun b hb => by simp [Value.ownBlock] at hb, Mod.refl _ _⟩ | some a => simp at h4⟩
 ·refine GG ?_
  refine OP (Does.slice0 u28 i9) ?_
  rintro _ w1 ⟨b1, rfl, hn1⟩
  refine RL.p rfl rfl ?_
  refine OP (Does.append u28 i9 rfl rfl rfl rfl rfl (Row.new hn1 1 0 rfl (by omega)) ((hv.mod (Mod.any' hn1.grow)).noM) (allOne_strs xs) (by omega)) ?_
  rintro u w2 ⟨hr, hm, hu⟩
  refine GG ?_
  refine RK.ret_of Tryz.func141 (res1 rfl rfl) ?_ _
  exact ⟨_, rfl, by simpa using hr, fun b hb => by rcases hu with hu | hu <;> rw [hu] at hb <;> simp [Value.ownBlock] at hb <;> (have := hn1.at_; have := hn1.size; omega), hn1.grow.then hm (fun x hx e => by simp [Value.ownBlock] at e; have := hn1.at_; omega)⟩
def ruAt (r : Ru) (v1 v2 v3 : Value) : Ru := ⟨v1, v2, v3, r.src, r.tgt, r.bd, r.eq⟩
theorem Ru.Ok.noM' {M : Nat → Prop} {w : World} {r : Ru} (h : r.Ok M w) : r.Ok No w := ⟨h.s.noM, h.t.noM, h.e.noM⟩
theorem Ru.Ok.pass' {M M' : Nat → Prop} {w w' : World} {r : Ru} (h : r.Ok M w) (hm : Mod M w w') (hM : ∀ b, M' b → M b ∨ w.heap.size ≤ b) : r.Ok M' w' := ⟨h.s.pass (by omega) hm hM, h.t.pass (by omega) hm hM, h.e.pass (by omega) hm hM⟩
structure Ru.Few (r : Ru) : Prop where
 s : r.src.length ≤ 1000000
 t : r.tgt.length ≤ 1000000
 e : r.eq.length ≤ 1000000
theorem blkL {w : World} {b t : Nat} {cs ds : List Value} (h : Blk w b t (cs ++ ds)) : ∀ (j : Nat) (u : Value), cs[j]? = some u → w.cell? ⟨b, 0 + j, none⟩ = some u := fun j u hj => by
 rw [Nat.zero_add]
 refine h.cell' ?_
 rw [List.getElem?_append_left (List.getElem?_eq_some_iff.1 hj).1]
 exact hj
theorem copyRu_ok (M : Nat → Prop) (r : Ru) (w : World) (hr : r.Ok M w) (hf : r.Few) : Fx Tryz.prog 74 [.agg (ruC r).toArray] w (fun u w' => ∃ v1 v2 v3, u = .agg (ruC (ruAt r v1 v2 v3)).toArray ∧ (∀ M', (∀ b, b < w'.heap.size → M' b → b < w.heap.size) → (ruAt r v1 v2 v3).Ok M' w') ∧ Grow w w') := by
 obtain ⟨a1, c1, hv1⟩ := hr.s.shape
 obtain ⟨a2, c2, hv2⟩ := hr.t.shape
 obtain ⟨a3, c3, hv3⟩ := hr.e.shape
 refine enter Tryz.func74 rfl rfl rfl _ (Pick.sub (l := [0]) (.cons rfl .nil)) ?_
 refine GG ?_
 refine OP (Does.box rfl) ?_
 rintro _ w1 ⟨b1, rfl, hn1⟩
 refine OP (Does.alloc i30) ?_
 rintro _ w2 ⟨b2, rfl, hn2⟩
 have hB1 := hn1.blk.mod hn2.grow (fun h => h)
 have hg02 := hn1.grow.trans hn2.grow
 have hs1 := hn1.at_
 have hs2 := hn2.at_
 have hz1 := hn1.size
 have hz2 := hn2.size
 refine GG ?_
 refine RK.drawM No [(0, false), (1, false), (3, false), (4, false), (6, false), (7, false), (8, false), (9, false), (2, true), (5, true), (10, true), (11, false), (12, true)] [12] mixed (by kernel_rfl) ?_
 refine DF (Yld.fieldAddr fo30_0 rfl) ?_
 refine DQ (Yld.load p24 rfl (atM (hB1.cell rfl) (fun h => h))) (Mod.drew _ _) ?_
 refine DF (Yld.fieldAddr fo30_1 rfl) ?_
 refine DQ (Yld.load p24 rfl (atM (hB1.cell rfl) (fun h => h))) (Mod.drew _ _) ?_
 refine DF (Yld.fieldAddr fo30_2 rfl) ?_
 refine DQ (Yld.loadN (cs := bdC r.bd) a27 rfl (atNM (fldN hB1 2 3) (fun h => h))) (Mod.drew _ _) ?_
 refine DF (Yld.fieldAddr fo30_3 rfl) ?_
 refine DQ (Yld.load p28 rfl (atM (hB1.cell rfl) (fun h => h))) (Mod.drew _ _) ?_
 refine OD (Does.call rfl e101 (cloneM_ok M r.src _ _ ((hr.s.mod (Mod.any' hg02)).mod (Mod.drew _ _)) hf.s)) ?_
 rintro u3 w3 ⟨hr3, hf3, hg3⟩
 have hd3 := (Mod.drew No w2).trans hg3
 refine ⟨hd3, ?_⟩
 refine OD (Does.call rfl e101 (cloneM_ok M r.tgt _ _ ((hr.t.mod (Mod.any' hg02)).mod (Mod.any' hd3)) hf.t)) ?_
 rintro u4 w4 ⟨hr4, hf4, hg4⟩
 have hd4 := hd3.trans hg4
 refine ⟨hd4, ?_⟩
 refine OD (Does.call rfl e141 (cloneS_ok M r.eq _ _ ((hr.e.mod (Mod.any' hg02)).mod (Mod.any' hd4)) hf.e)) ?_
 rintro u5 w5 ⟨hr5, hf5, hg5⟩
 have hd5 := hd4.trans hg5
 refine ⟨hd5, ?_⟩
 obtain ⟨ad3, e3, rfl⟩ := hr3.slice
 obtain ⟨ad4, e4, rfl⟩ := hr4.slice
 obtain ⟨ad5, e5, rfl⟩ := hr5.slice
 refine DF (Yld.build (v := .agg (ruC (ruAt r (.slice ad3 r.src.length e3) (.slice ad4 r.tgt.length e4) (.slice ad5 r.eq.length e5))).toArray) rfl (fun w => by kernel_rfl)) ?_
 refine DL.opT rfl (.free rfl) rfl rfl (Does.storeN i30 rfl rfl rfl rfl (hn2.blk.mod hd5 (fun h => h)) (Nat.le_refl 6)) ?_
 rintro _ w6 ⟨hb6, hm6, _⟩
 have hz3 := hd3.size
 have hz4 := hg4.size
 have hz5 := hg5.size
 have hz6 := hm6.size
 have hlt3 := fun b e => hr3.lt (b := b) e
 have hlt4 := fun b e => hr4.lt (b := b) e
 have hlt5 := fun b e => hr5.lt (b := b) e
 have hbb : w.heap.size ≤ b2 := by omega
 have hno : ∀ (M' : Nat → Prop), (∀ b, b < w6.heap.size → M' b → b < w.heap.size) → ∀ b, w2.heap.size ≤ b → b < w6.heap.size → ¬ (M' b ∨ b = b2) := fun M' hM b h1 h2 h => by
   rcases h with h | h
   ·have := hM b h2 h; omega
   ·omega
 refine DL.done ?_
 refine RK.ret_of Tryz.func74 (resC (cs := ruC (ruAt r (.slice ad3 r.src.length e3) (.slice ad4 r.tgt.length e4) (.slice ad5 r.eq.length e5))) rfl rfl a30 hb6) ?_ _
 exact ⟨_, rfl, _, _, _, rfl, fun M' hM => ⟨((Sl.own (hr3.mod (hg4.trans hg5) (fun _ _ h => h)) (M := fun b => M' b ∨ b = b2) (fun b e h => hno M' hM b (by have h1 := hf3 b e; simp only [World.drew] at h1; omega) (by have := hlt3 b e; omega) h)).mod (hm6.mono (fun b _ e => .inr e))).off (by omega) (fun b _ e => .inl e), ((Sl.own (hr4.mod hg5 (fun _ _ h => h)) (M := fun b => M' b ∨ b = b2) (fun b e h => hno M' hM b (by have h1 := hf4 b e; omega) (by have := hlt4 b e; omega) h)).mod (hm6.mono (fun b _ e => .inr e))).off (by omega) (fun b _ e => .inl e), ((Sl.own hr5 (M := fun b => M' b ∨ b = b2) (fun b e h => hno M' hM b (by have h1 := hf5 b e; omega) (by have := hlt5 b e; omega) h)).mod (hm6.mono (fun b _ e => .inr e))).off (by omega) (fun b _ e => .inl e)⟩, (hg02.trans hd5).then hm6 (fun y hy e => by have e' : y = b2 := e; omega)⟩
structure CacheAt (M : Nat → Prop) (w : World) (p mr mk : Nat) (r : Ru) (c : CRows × CKeys) : Prop where
 blk : Blk w p 133 (ruC r ++ [.map (some mr), .map (some mk)])
 ne : mr ≠ mk
 ok : r.Ok M w
 rl : ∃ l : List (ByteArray × (List Int × Value)), l.map (fun t => (t.1, t.2.1)) = c.1 ∧ MapAt Value.string w mr (l.map fun t => (t.1, t.2.2)) ∧ ∀ t ∈ l, Sl M w t.2.2 1 t.2.1.length (ints t.2.1)
 kl : MapAt (Value.int .i64) w mk (c.2.map fun t => (t.1, Value.string t.2))
theorem CacheAt.mod {M M0 : Nat → Prop} {w w' : World} {p mr mk : Nat} {r : Ru} {c : CRows × CKeys} (h : CacheAt M w p mr mk r c) (hm : Mod M0 w w') (h0 : ∀ b, b < w.heap.size → M0 b → M b) (n1 : ¬ M0 p) (n2 : ¬ M0 mr) (n3 : ¬ M0 mk) : CacheAt M w' p mr mk r c := by
 obtain ⟨l, hl1, hl2, hl3⟩ := h.rl
 exact ⟨h.blk.mod hm n1, h.ne, h.ok.mod (hm.mono h0), ⟨l, hl1, hl2.mod hm n2, fun t ht => (hl3 t ht).mod (hm.mono h0)⟩, h.kl.mod hm n3⟩
theorem CacheAt.grow {M : Nat → Prop} {w w' : World} {p mr mk : Nat} {r : Ru} {c : CRows × CKeys} (h : CacheAt M w p mr mk r c) (hm : Grow w w') : CacheAt M w' p mr mk r c := h.mod hm (fun b _ e => e.elim) (fun h => h) (fun h => h) (fun h => h)
theorem CacheAt.off {M M' : Nat → Prop} {w : World} {p mr mk : Nat} {r : Ru} {c : CRows × CKeys} (h : CacheAt M w p mr mk r c) (hM : ∀ b, b < w.heap.size → M' b → M b) : CacheAt M' w p mr mk r c := by
 obtain ⟨l, hl1, hl2, hl3⟩ := h.rl
 exact ⟨h.blk, h.ne, ⟨h.ok.s.off (by omega) hM, h.ok.t.off (by omega) hM, h.ok.e.off (by omega) hM⟩, ⟨l, hl1, hl2, fun t ht => (hl3 t ht).off (by omega) hM⟩, h.kl⟩
theorem CacheAt.pass {M M' : Nat → Prop} {w w' : World} {p mr mk : Nat} {r : Ru} {c : CRows × CKeys} (h : CacheAt M w p mr mk r c) (hm : Grow w w') (hM : ∀ b, M' b → M b ∨ w.heap.size ≤ b) : CacheAt M' w' p mr mk r c := by
 obtain ⟨l, hl1, hl2, hl3⟩ := h.rl
 exact ⟨h.blk.mod hm (fun h => h), h.ne, h.ok.pass' (Mod.any' hm) hM, ⟨l, hl1, hl2.mod hm (fun h => h), fun t ht => (hl3 t ht).pass (by omega) (Mod.any' hm) hM⟩, h.kl.mod hm (fun h => h)⟩
theorem cacheNew_ok (M0 : Nat → Prop) (r : Ru) (w : World) (hr : r.Ok M0 w) (hf : r.Few) : Fx Tryz.prog 18 [.agg (ruC r).toArray] w (fun u w' => ∃ p mr mk v1 v2 v3, u = pp p ∧ (w.heap.size ≤ p ∧ w.heap.size ≤ mr ∧ w.heap.size ≤ mk ∧ p < w'.heap.size) ∧ (∀ M, (∀ b, b < w'.heap.size → M b → b < w.heap.size ∨ b = mr ∨ b = mk) → CacheAt M w' p mr mk (ruAt r v1 v2 v3) ([], [])) ∧ Grow w w') := by
 obtain ⟨a1, c1, hv1⟩ := hr.s.shape
 refine enter Tryz.func18 rfl rfl rfl _ (Pick.sub (l := [0]) (.cons rfl .nil)) ?_
 refine GG ?_
 refine OP (Does.box rfl) ?_
 rintro _ w1 ⟨b1, rfl, hn1⟩
 refine GG ?_
 refine QQ (Yld.loadN (cs := ruC r) a30 rfl (atN (blk0' hn1.blk))) ?_
 refine OP (Does.call rfl e74 (copyRu_ok M0 r _ (hr.mod (Mod.any' hn1.grow)) hf)) ?_
 rintro _ w2 ⟨v1, v2, v3, rfl, hok, hg2⟩
 refine OP (Does.makeMap Value.string) ?_
 rintro _ w3 ⟨mr, rfl, hmr, hm3, hg3, hs3⟩
 refine OP (Does.makeMap (Value.int .i64)) ?_
 rintro _ w4 ⟨mk, rfl, hmk, hm4, hg4, hs4⟩
 refine QQ (Yld.build (v := .agg (ruC (ruAt r v1 v2 v3) ++ [Value.map (some mr), Value.map (some mk)]).toArray) rfl (fun w => by kernel_rfl)) ?_
 refine OP (Does.box rfl) ?_
 rintro _ w8 ⟨b8, rfl, hn8⟩
 have hg24 := hg3.trans hg4
 have hg28 := hg24.trans hn8.grow
 have hz1 := hn1.grow.size
 have hz2 := hg2.size
 have hz3 := hg3.size
 have hz4 := hg4.size
 have hz8 := hn8.size
 have ha8 := hn8.at_
 refine GG ?_
 refine RK.ret_of Tryz.func18 (res1 rfl rfl) ?_ _
 exact ⟨_, rfl, b8, mr, mk, v1, v2, v3, rfl, ⟨by omega, by omega, by omega, by omega⟩, fun M hM => ⟨hn8.blk, by omega, (hok (fun b => M b ∧ b < w2.heap.size) (fun b _ e => by have e2 := e.2; rcases hM b (by omega) e.1 with h | h | h <;> omega)).pass' (Mod.any' hg28) (fun b e => by by_cases hb : b < w2.heap.size; exact .inl ⟨e, hb⟩; exact .inr (by omega)), ⟨[], rfl, (hm3.mod hg4 (fun h => h)).mod hn8.grow (fun h => h), by simp⟩, hm4.mod hn8.grow (fun h => h)⟩, (hn1.grow.trans hg2).trans hg28⟩
theorem cacheLen_ok (M : Nat → Prop) (w : World) (p mr mk : Nat) (r : Ru) (c : CRows × CKeys) (h : CacheAt M w p mr mk r c) : Fx Tryz.prog 24 [pp p] w (fun u w' => u = .int .i64 c.2.length ∧ Grow w w') := by
 refine enter Tryz.func24 rfl rfl rfl _ (Pick.sub (l := [0]) (.cons rfl .nil)) ?_
 refine GG ?_
 refine QQ (Yld.fieldAddr fo133_2 rfl) ?_
 refine QQ (Yld.load p131 rfl (at1 (h.blk.cell rfl))) ?_
 refine QQ (Yld.lenMap Tryz.underlying131 rfl (fun w' e => e ▸ h.kl)) ?_
 refine GG ?_
 refine RK.ret_of Tryz.func24 (res1 rfl rfl) ?_ _
 exact ⟨_, rfl, by simp, Mod.refl _ _⟩
theorem cacheKeys_ok (M : Nat → Prop) (w : World) (p mr mk : Nat) (r : Ru) (c : CRows × CKeys) (h : CacheAt M w p mr mk r c) : Fx Tryz.prog 25 [pp p] w (fun u w' => u = .int .i64 c.1.length ∧ Grow w w') := by
 obtain ⟨l, hl1, hl2, hl3⟩ := h.rl
 refine enter Tryz.func25 rfl rfl rfl _ (Pick.sub (l := [0]) (.cons rfl .nil)) ?_
 refine GG ?_
 refine QQ (Yld.fieldAddr fo133_1 rfl) ?_
 refine QQ (Yld.load p130 rfl (at1 (h.blk.cell rfl))) ?_
 refine QQ (Yld.lenMap Tryz.underlying130 rfl (fun w' e => e ▸ hl2)) ?_
 refine GG ?_
 refine RK.ret_of Tryz.func25 (res1 rfl rfl) ?_ _
 exact ⟨_, rfl, by rw [← hl1]; simp, Mod.refl _ _⟩
theorem cacheRule_ok (M : Nat → Prop) (w : World) (p mr mk : Nat) (r : Ru) (c : CRows × CKeys) (h : CacheAt M w p mr mk r c) (hf : r.Few) : Fx Tryz.prog 37 [pp p] w (fun u w' => ∃ v1 v2 v3, u = .agg (ruC (ruAt r v1 v2 v3)).toArray ∧ (ruAt r v1 v2 v3).Ok No w' ∧ Grow w w') := by
 refine enter Tryz.func37 rfl rfl rfl _ (Pick.sub (l := [0]) (.cons rfl .nil)) ?_
 refine GG ?_
 refine OP (Does.alloc i30) ?_
 rintro _ w2 ⟨b2, rfl, hn2⟩
 refine GG ?_
 refine QQ (Yld.fieldAddr fo133_0 rfl) ?_
 refine QQ (Yld.loadN (cs := ruC r) a30 rfl (atN (blkL (h.blk.mod hn2.grow (fun h => h))))) ?_
 refine OP (Does.call rfl e74 (copyRu_ok M r _ (h.ok.mod (Mod.any' hn2.grow)) hf)) ?_
 rintro _ w3 ⟨v1, v2, v3, rfl, hok, hg3⟩
 have hok3 := hok (fun b => b = b2) (fun b _ e => by have := hn2.blk.lt; omega)
 refine OQ (Does.storeN i30 rfl rfl rfl (ruC_one hok3) (hn2.blk.mod hg3 (fun h => h)) (Nat.le_refl 6)) ?_
 rintro _ w4 ⟨hb4, hm4, _⟩
 refine RL.done ?_
 refine RK.ret_of Tryz.func37 (resC (cs := ruC (ruAt r v1 v2 v3)) rfl rfl a30 hb4) ?_ _
 exact ⟨_, rfl, v1, v2, v3, rfl, (hok3.mod hm4).noM', (hn2.grow.trans hg3).then hm4 (fun y hy e => by have e' : y = b2 := e; have := hn2.at_; omega)⟩
end Go.Proofs.YthbjfhhiajihfaaGreat
set_option linter.unusedVariables false
set_option linter.unusedSimpArgs false
set_option maxHeartbeats 1000000
set_option maxRecDepth 100000
namespace Go.Proofs.YthbjfhhiajihfaaGreat
open Go Go.X Go.Rex
theorem source_le {r : Ru} {ls : List Lab} {v : Nat} (h : sourceS r ls v = true) : r.eq.length ≤ 4 := by
 unfold sourceS worksRu at h
 simp only [Bool.and_eq_true] at h
 exact isRu_le h.1.1.1
theorem row_at {M : Nat → Prop} {w : World} {l : List (ByteArray × (List Int × Value))} {rows : CRows} (h1 : l.map (fun t => (t.1, t.2.1)) = rows) (h3 : ∀ t ∈ l, Sl M w t.2.2 1 t.2.1.length (ints t.2.1)) (k : ByteArray) :
  ∃ vv, (lookM (l.map fun t => (t.1, t.2.2)) k).getD (.slice none 0 0) = vv ∧ Sl M w vv 1 ((lookM rows k).getD []).length (ints ((lookM rows k).getD [])) := by
 have e1 := lookM_map (fun a : List Int × Value => a.1) k l
 have e2 := lookM_map (fun a : List Int × Value => a.2) k l
 rw [h1] at e1
 rw [e1, e2]
 cases hh : lookM l k with
 | none => exact ⟨_, rfl, Sl.nil _ _ _ _ _⟩
 | some a => exact ⟨_, rfl, h3 _ (lookM_mem hh)⟩
theorem cacheDrop_ok (M : Nat → Prop) (w : World) (p mr mk : Nat) (r : Ru) (c : CRows × CKeys) (h : CacheAt M w p mr mk r c) (hMr : M mr) (hMk : M mk) (hM : ∀ b, M b → b < w.heap.size) (id : Int) (hB : CB c 1000000) :
  Fx Tryz.prog 30 [pp p, .int .i64 id] w (fun u w' => u = .tuple #[] ∧ CacheAt M w' p mr mk r (dropC c id) ∧ Mod (fun b => b = mr ∨ b = mk) w w') := by
 obtain ⟨l, hl1, hl2, hl3⟩ := h.rl
 have n1 : p ≠ mr := h.blk.ty.nem hl2.mp
 have n2 : p ≠ mk := h.blk.ty.nem h.kl.mp
 have hlk : lookM (c.2.map fun t => (t.1, Value.string t.2)) id = (lookM c.2 id).map Value.string := lookM_map _ id c.2
 obtain ⟨ok, hok⟩ : ∃ ok, lookM c.2 id = ok := ⟨_, rfl⟩
 rw [hok] at hlk
 refine enter Tryz.func30 rfl rfl rfl _ (Pick.sub (l := [0, 1]) (.cons rfl (.cons rfl .nil))) ?_
 refine GG ?_
 refine QQ (Yld.fieldAddr fo133_2 rfl) ?_
 refine QQ (Yld.load p131 rfl (at1 (h.blk.cell rfl))) ?_
 refine RL.p rfl rfl ?_
 refine QQ (Yld.lookup Tryz.underlying131 key3 i9 rfl rfl (fun w' e => e ▸ h.kl)) ?_
 refine RL.re (d := 12) rfl rfl (show _ = Value.tuple #[.string (ok.getD ByteArray.empty), .bool ok.isSome] by rw [hlk]; cases ok <;> rfl) ?_
 refine GG ?_
 refine CD (fun h16 => ?_) (fun h16 => ?_)
 ·obtain rfl : ok = none := by cases ok with
    | none => rfl
    | some a => simp at h16
  refine RK.ret_of Tryz.func30 (res0 rfl) ?_ _
  exact ⟨_, rfl, rfl, by unfold dropC; rw [hok]; exact h, Mod.refl _ _⟩
 ·obtain ⟨key, rfl⟩ : ∃ key, ok = some key := by cases ok with
    | none => simp at h16
    | some a => exact ⟨a, rfl⟩
  refine GG ?_
  refine QQ (Yld.fieldAddr fo133_2 rfl) ?_
  refine QQ (Yld.load p131 rfl (at1 (h.blk.cell rfl))) ?_
  refine RL.p rfl rfl ?_
  refine OQ (Does.delete Tryz.underlying131 key3 (k := id) rfl rfl h.kl) ?_
  rintro _ w2 ⟨hm2, hmod2, hs2⟩
  have hk2 : MapAt (Value.int .i64) w2 mk ((cutM c.2 id).map fun t => (t.1, Value.string t.2)) := by rw [← cutM_map]; exact hm2
  have hmodM : Mod M w w2 := hmod2.mono fun b _ e => e ▸ hMk
  have hB2 := h.blk.mod hmod2 n2
  obtain ⟨vv, hval, hsl⟩ := row_at hl1 (fun t ht => (hl3 t ht).mod hmodM) key
  have hbnd := hB.look key
  obtain ⟨row0, hrow0⟩ : ∃ row0, (lookM c.1 key).getD [] = row0 := ⟨_, rfl⟩
  rw [hrow0] at hbnd hsl
  refine GG ?_
  refine RK.drawM No [(0, false), (1, false), (2, false), (3, false), (4, false), (5, false), (6, false), (7, false), (8, false), (9, false), (10, false), (11, false), (12, true), (13, true)] [13] mixed (by kernel_rfl) ?_
  refine GG ?_
  refine DF (Yld.fieldAddr fo133_1 rfl) ?_
  refine DQ (Yld.load p130 rfl (atM (hB2.cell rfl) (fun h => h))) (Mod.drew _ _) ?_
  refine GG ?_
  refine DF (Yld.fieldAddr fo133_1 rfl) ?_
  refine DQ (Yld.load p130 rfl (atM (hB2.cell rfl) (fun h => h))) (Mod.drew _ _) ?_
  refine DL.p rfl rfl rfl ?_
  refine DQ (Yld.lookup Tryz.underlying130 key9 i37 (k := key) rfl rfl (fun w' hm => (hl2.mod hmod2 h.ne).mod hm (fun h => h))) (Mod.drew _ _) ?_
  refine DL.re (d := 32) rfl rfl (hval) ?_
  refine DL.p rfl rfl rfl ?_
  refine OD (Does.call rfl e82 (cut_ok M row0 id vv _ (hsl.mod (Mod.drew M _)) (by omega))) ?_
  rintro u7 w7 ⟨hr7, hf7, hg7⟩
  have hd7 := (Mod.drew No w2).trans hg7
  refine ⟨hd7, ?_⟩
  refine DL.opT rfl (.free rfl) rfl rfl (Does.mapUpdate Tryz.underlying130 key9 (k := key) rfl rfl rfl ((hl2.mod hmod2 h.ne).mod hd7 (fun h => h))) ?_
  rintro _ w8 ⟨hm8, hmod8, hs8⟩
  obtain ⟨ad7, c7, rfl⟩ := hr7.slice
  have hmod08 : Mod (fun b => b = mr ∨ b = mk) w w8 := ((hmod2.mono fun b _ e => .inr e).trans (Mod.any' hd7)).trans (hmod8.mono fun b _ e => .inl e)
  have hmodM8 : Mod M w w8 := hmod08.mono fun b _ e => by rcases e with rfl | rfl <;> assumption
  have hB8 := h.blk.mod hmod08 (fun e => e.elim n1 n2)
  have hu7 : Sl M w8 (.slice ad7 (cutRow row0 id).length c7) 1 (cutRow row0 id).length (ints (cutRow row0 id)) := (Sl.own hr7 (fun b e hb => by have h1 := hf7 b e; have h2 := hM b hb; simp only [World.drew] at h1; omega)).mod (hmod8.mono fun b _ e => e ▸ hMr)
  have hput : (putM l key (cutRow row0 id, Value.slice ad7 (cutRow row0 id).length c7)).map (fun t => (t.1, t.2.1)) = putM c.1 key (cutRow row0 id) := by
    rw [← hl1]; exact (putM_map (fun a : List Int × Value => a.1) key (_, Value.slice ad7 (cutRow row0 id).length c7) l).symm
  have hput2 : MapAt Value.string w8 mr ((putM l key (cutRow row0 id, Value.slice ad7 (cutRow row0 id).length c7)).map fun t => (t.1, t.2.2)) := by
    rw [← putM_map (fun a : List Int × Value => a.2) key (_, Value.slice ad7 (cutRow row0 id).length c7) l]; exact hm8
  have hlk8 : (lookM ((putM l key (cutRow row0 id, Value.slice ad7 (cutRow row0 id).length c7)).map fun t => (t.1, t.2.2)) key).getD (.slice none 0 0) = .slice ad7 (cutRow row0 id).length c7 := by
    rw [lookM_map (fun a : List Int × Value => a.2), lookM_putM]; simp
  have hk8 : MapAt (Value.int .i64) w8 mk ((cutM c.2 id).map fun t => (t.1, Value.string t.2)) := (hk2.mod hd7 (fun h => h)).mod hmod8 (fun e => h.ne e.symm)
  have hC8 : ∀ w9, Mod (· = mr) w8 w9 → ∀ (rows9 : CRows) (r9 : List (ByteArray × (List Int × Value))), (∀ t ∈ r9, t ∈ putM l key (cutRow row0 id, .slice ad7 (cutRow row0 id).length c7)) → MapAt Value.string w9 mr (r9.map fun t => (t.1, t.2.2)) → r9.map (fun t => (t.1, t.2.1)) = rows9 → CacheAt M w9 p mr mk r (rows9, cutM c.2 id) := by
    intro w9 h9 rows9 r9 hsub hmap hrows
    have h9M : Mod M w8 w9 := h9.mono fun b _ e => e ▸ hMr
    refine ⟨hB8.mod h9 n1, h.ne, (h.ok.mod hmodM8).mod h9M, ⟨r9, hrows, hmap, fun t ht => ?_⟩, hk8.mod h9 (fun e => h.ne e.symm)⟩
    rcases mem_putM (hsub t ht) with h1 | rfl
    ·exact ((hl3 t h1).mod hmodM8).mod h9M
    ·exact hu7.mod h9M
  refine GG ?_
  refine QQ (Yld.fieldAddr fo133_1 rfl) ?_
  refine QQ (Yld.load p130 rfl (at1 (hB8.cell rfl))) ?_
  refine RL.p rfl rfl ?_
  refine QQ (Yld.lookup Tryz.underlying130 key9 i37 (k := key) rfl rfl (fun w' e => e ▸ hput2)) ?_
  refine RL.re (d := 40) rfl rfl (hlk8) ?_
  refine QQ (Yld.lenSl u37 rfl) ?_
  refine GG ?_
  refine CD (fun h42 => ?_) (fun h42 => ?_)
  ·have hemp : cutRow row0 id = [] := List.eq_nil_of_length_eq_zero (by omega)
   refine GG ?_
   refine QQ (Yld.fieldAddr fo133_1 rfl) ?_
   refine QQ (Yld.load p130 rfl (at1 (hB8.cell rfl))) ?_
   refine RL.p rfl rfl ?_
   refine OQ (Does.delete Tryz.underlying130 key9 (k := key) rfl rfl hput2) ?_
   rintro _ w9 ⟨hm9, hmod9, hs9⟩
   refine RL.done ?_
   refine RK.end_of Tryz.func30 (res0 rfl) ?_
   exact ⟨_, rfl, rfl, by
     have h1 := hC8 w9 hmod9 (cutM (putM c.1 key (cutRow row0 id)) key) (cutM (putM l key (cutRow row0 id, Value.slice ad7 (cutRow row0 id).length c7)) key) (fun t ht => mem_cutM' ht) (by rw [← cutM_map (fun a : List Int × Value => a.2) key]; exact hm9) (by rw [← hput]; exact (cutM_map (fun a : List Int × Value => a.1) key _).symm)
     unfold dropC cutC
     rw [hok]
     simp only [hrow0, if_pos hemp]
     exact h1, hmod08.trans (hmod9.mono fun b _ e => .inl e)⟩
  ·have hemp : ¬ cutRow row0 id = [] := fun e => h42 (by rw [e]; rfl)
   refine RK.skip ?_
   refine RK.end_of Tryz.func30 (res0 rfl) ?_
   exact ⟨_, rfl, rfl, by
     have h1 := hC8 w8 (Mod.refl _ _) (putM c.1 key (cutRow row0 id)) _ (fun t ht => ht) hput2 hput
     unfold dropC cutC
     rw [hok]
     simp only [hrow0, if_neg hemp]
     exact h1, hmod08⟩
theorem cachePut_ok (M : Nat → Prop) (w : World) (p mr mk : Nat) (r : Ru) (c : CRows × CKeys) (h : CacheAt M w p mr mk r c) (hMr : M mr) (hMk : M mk) (hM : ∀ b, M b → b < w.heap.size) (a : Al) (ha : AlOk M w a) (hB : CB c 1000000) :
  Fx Tryz.prog 20 [pp p, .agg (alC a).toArray] w (fun u w' => u = .tuple #[] ∧ CacheAt M w' p mr mk r (putC c a.id (sourceS r a.ls a.val) (keyT r.eq a.ls)) ∧ Mod (fun b => b = mr ∨ b = mk) w w') := by
 refine enter Tryz.func20 rfl rfl rfl _ (Pick.sub (l := [0, 1]) (.cons rfl (.cons rfl .nil))) ?_
 refine GG ?_
 refine OP (Does.box rfl) ?_
 rintro _ w1 ⟨b3, rfl, hn3⟩
 have h1 := h.grow hn3.grow
 have hz1 := hn3.grow.size
 refine GG ?_
 refine QQ (Yld.fieldAddr fo35_0 rfl) ?_
 refine QQ (Yld.load p3 rfl (at1 (hn3.blk.cell rfl))) ?_
 refine OP (Does.call rfl e30 (cacheDrop_ok M _ p mr mk r c h1 hMr hMk (fun b hb => by have := hM b hb; omega) a.id hB)) ?_
 rintro _ w2 ⟨rfl, hc2, hm2⟩
 have hz2 := hm2.size
 have hm2M : Mod M w1 w2 := hm2.mono fun b _ e => by rcases e with rfl | rfl <;> assumption
 have ha2 : AlOk M w2 a := (ha.mod (Mod.any' hn3.grow)).mod hm2M
 have hne3 : ¬ (b3 = mr ∨ b3 = mk) := fun e => by have := hn3.at_; have h8 := hM _ hMr; have h9 := hM _ hMk; rcases e with e | e <;> omega
 have hB3 := hn3.blk.mod hm2 hne3
 have hd2 := hB.drop a.id
 refine GG ?_
 refine RK.drawM No [(0, false), (1, false), (2, false), (3, false), (4, false), (5, true)] [] mixed (by kernel_rfl) ?_
 refine GG ?_
 refine DF (Yld.fieldAddr fo133_0 rfl) ?_
 refine DQ (Yld.loadN (cs := ruC r) a30 rfl (atNM (blkL hc2.blk) (fun h => h))) (Mod.drew _ _) ?_
 refine DQ (Yld.loadN (cs := alC a) a35 rfl (atNM (blk0' hB3) (fun h => h))) (Mod.drew _ _) ?_
 refine OD (Does.call rfl e75 (source_ok M M r a _ (hc2.ok.mod (Mod.drew _ _)) (ha2.mod (Mod.drew _ _)))) ?_
 rintro _ w3 ⟨rfl, hg3⟩
 have hd3 := (Mod.drew No w2).trans hg3
 refine ⟨hd3, ?_⟩
 have hc3 := hc2.grow hd3
 have hB33 := hB3.mod hd3 (fun h => h)
 have hz3 := hd3.size
 refine DL.done ?_
 refine CD (fun h14 => ?_) (fun h14 => ?_)
 ·have h4 : r.eq.length ≤ 4 := source_le h14
  refine RK.seq ?_
  refine RK.drawM No [(0, false), (1, false), (2, false), (3, false), (4, false), (5, true), (6, false)] [] mixed (by kernel_rfl) ?_
  refine GG ?_
  refine DF (Yld.fieldAddr fo133_0 rfl) ?_
  refine DQ (Yld.loadN (cs := ruC r) a30 rfl (atNM (blkL hc3.blk) (fun h => h))) (Mod.drew _ _) ?_
  refine DQ (Yld.loadN (cs := alC a) a35 rfl (atNM (blk0' hB33) (fun h => h))) (Mod.drew _ _) ?_
  refine OD (Does.call rfl e76 (ruleKey_ok M M r h4 a ha.z _ (hc3.ok.mod (Mod.drew _ _)) ((ha2.l.mod (Mod.any' hd3)).mod (Mod.drew _ _)))) ?_
  rintro _ w4 ⟨rfl, hg4⟩
  have hd4 := (Mod.drew No w3).trans hg4
  refine ⟨hd4, ?_⟩
  have hc4 := hc3.grow hd4
  have hB34 := hB33.mod hd4 (fun h => h)
  have hz4 := hd4.size
  generalize hkey : keyT r.eq a.ls = key at *
  refine GG ?_
  refine RK.drawM No [(0, false), (1, false), (2, false), (3, false), (4, false), (5, false), (6, false), (7, true)] [7] mixed (by kernel_rfl) ?_
  refine GG ?_
  refine DF (Yld.fieldAddr fo133_2 rfl) ?_
  refine DQ (Yld.load p131 rfl (atM (hc4.blk.cell rfl) (fun h => h))) (Mod.drew _ _) ?_
  refine DF (Yld.fieldAddr fo35_0 rfl) ?_
  refine DQ (Yld.load p3 rfl (atM (hB34.cell rfl) (fun h => h))) (Mod.drew _ _) ?_
  refine DL.p rfl rfl rfl ?_
  refine DL.opT rfl (.free rfl) rfl rfl (Does.mapUpdate Tryz.underlying131 key3 (k := a.id) (v := .string key) rfl rfl rfl (hc4.kl.mod (Mod.drew No _) (fun h => h))) ?_
  rintro _ w5 ⟨hm5, hmod5', hs5⟩
  have hmod5 : Mod (· = mk) w4 w5 := (Mod.drew _ _).trans hmod5'
  have hk5 : MapAt (Value.int .i64) w5 mk ((putM (dropC c a.id).2 a.id key).map fun t => (t.1, Value.string t.2)) := by rw [← putM_map]; exact hm5
  obtain ⟨l, hl1, hl2, hl3⟩ := hc4.rl
  have n1 : p ≠ mr := hc4.blk.ty.nem hl2.mp
  have n2 : p ≠ mk := hc4.blk.ty.nem hc4.kl.mp
  have hB5 := hc4.blk.mod hmod5 n2
  have hmod5M : Mod M w4 w5 := hmod5.mono fun b _ e => e ▸ hMk
  have hl25 := hl2.mod hmod5 hc4.ne
  obtain ⟨vv, hval, hsl⟩ := row_at hl1 (fun t ht => (hl3 t ht).mod hmod5M) key
  have hbnd := hd2.look key
  have hB35 := hB34.mod hmod5 (fun e => hne3 (.inr e))
  have hz5 := hmod5.size
  refine DL.done ?_
  refine RK.drawM No [(0, false), (1, false), (2, false), (3, false), (4, false), (5, false), (6, false), (7, false), (8, false), (9, false), (10, false), (11, false), (12, false), (13, true), (14, true)] [14] mixed (by kernel_rfl) ?_
  refine GG ?_
  refine DF (Yld.fieldAddr fo133_1 rfl) ?_
  refine DQ (Yld.load p130 rfl (atM (hB5.cell rfl) (fun h => h))) (Mod.drew _ _) ?_
  refine GG ?_
  refine DF (Yld.fieldAddr fo133_1 rfl) ?_
  refine DQ (Yld.load p130 rfl (atM (hB5.cell rfl) (fun h => h))) (Mod.drew _ _) ?_
  refine DL.p rfl rfl rfl ?_
  refine DQ (Yld.lookup Tryz.underlying130 key9 i37 (k := key) rfl rfl (fun w' hm => hl25.mod hm (fun h => h))) (Mod.drew _ _) ?_
  refine DL.re (d := 38) rfl rfl (hval) ?_
  refine DF (Yld.fieldAddr fo35_0 rfl) ?_
  refine DQ (Yld.load p3 rfl (atM (hB35.cell rfl) (fun h => h))) (Mod.drew _ _) ?_
  refine OD (Does.call rfl e77 (put_ok M _ a.id vv _ (hsl.mod (Mod.drew M _)) (by omega))) ?_
  rintro u7 w7 ⟨hr7, hf7, hg7⟩
  have hd7 := (Mod.drew No w5).trans hg7
  refine ⟨hd7, ?_⟩
  refine DL.opT rfl (.free rfl) rfl rfl (Does.mapUpdate Tryz.underlying130 key9 (k := key) rfl rfl rfl (hl25.mod hd7 (fun h => h))) ?_
  rintro _ w8 ⟨hm8, hmod8, hs8⟩
  have hm48 : Mod (fun b => b = mr ∨ b = mk) w4 w8 := ((hmod5.mono fun b _ e => .inr e).trans (Mod.any' hd7)).trans (hmod8.mono fun b _ e => .inl e)
  have hm48M : Mod M w4 w8 := hm48.mono fun b _ e => by rcases e with rfl | rfl <;> assumption
  have hu7 := (Sl.own (M := M) hr7 (fun b e hb => by have h1 := hf7 b e; have h2 := hM b hb; simp only [World.drew] at h1; omega)).mod (hmod8.mono fun b _ e => e ▸ hMr)
  refine DL.done ?_
  refine RK.end_of Tryz.func20 (res0 rfl) ?_
  exact ⟨_, rfl, rfl, by
    unfold putC
    rw [h14, if_pos rfl]
    refine ⟨hc4.blk.mod hm48 (fun e => e.elim n1 n2), hc4.ne, hc4.ok.mod hm48M, ⟨putM l key (mkRow ((lookM (dropC c a.id).1 key).getD [] ++ [a.id]), u7), ?_, ?_, fun t ht => ?_⟩, (hk5.mod hd7 (fun h => h)).mod hmod8 (fun e => hc4.ne e.symm)⟩
    ·show _ = putM (dropC c a.id).1 key (mkRow ((lookM (dropC c a.id).1 key).getD [] ++ [a.id]))
     rw [← hl1]; exact (putM_map (fun a : List Int × Value => a.1) key (_, u7) l).symm
    ·rw [← putM_map (fun a : List Int × Value => a.2) key (_, u7) l]; exact hm8
    ·rcases mem_putM ht with h1 | rfl
     ·exact (hl3 t h1).mod hm48M
     ·exact hu7, ((((Mod.any' hn3.grow).trans hm2).trans (Mod.any' hd3)).trans (Mod.any' hd4)).trans hm48⟩
 ·refine RK.skip ?_
  refine RK.end_of Tryz.func20 (res0 rfl) ?_
  exact ⟨_, rfl, rfl, by
    unfold putC
    rw [show sourceS r a.ls a.val = false by simpa using h14, if_neg (by decide)]
    exact hc3, ((Mod.any' hn3.grow).trans hm2).trans (Mod.any' hd3)⟩
theorem cacheSources_ok (M M' : Nat → Prop) (w : World) (p mr mk : Nat) (r : Ru) (c : CRows × CKeys) (h : CacheAt M w p mr mk r c) (h4 : r.eq.length ≤ 4) (a : Al) (ha : AlOk M' w a) (hB : CB c 1000000) :
  Fx Tryz.prog 22 [pp p, .agg (alC a).toArray] w (fun u w' => Row w' 3 1 u (rowC c (keyT r.eq a.ls)).length (ints (rowC c (keyT r.eq a.ls))) ∧ Fresh w.heap.size u ∧ Grow w w') := by
 obtain ⟨l, hl1, hl2, hl3⟩ := h.rl
 obtain ⟨vv, hval, hsl⟩ := row_at hl1 hl3 (keyT r.eq a.ls)
 have hbnd := hB.look (keyT r.eq a.ls)
 refine enter Tryz.func22 rfl rfl rfl _ (Pick.sub (l := [0, 1]) (.cons rfl (.cons rfl .nil))) ?_
 refine GG ?_
 refine OP (Does.box rfl) ?_
 rintro _ w1 ⟨b3, rfl, hn3⟩
 have hB1 := h.blk.mod hn3.grow (fun h => h)
 refine GG ?_
 refine RK.drawM No [(0, false), (1, false), (2, false), (3, false), (4, false), (5, false), (6, false), (7, false), (8, false), (9, true), (10, false), (11, true), (12, false)] [] mixed (by kernel_rfl) ?_
 refine GG ?_
 refine DF (Yld.fieldAddr fo133_1 rfl) ?_
 refine DQ (Yld.load p130 rfl (atM (hB1.cell rfl) (fun h => h))) (Mod.drew _ _) ?_
 refine GG ?_
 refine DF (Yld.fieldAddr fo133_0 rfl) ?_
 refine DQ (Yld.loadN (cs := ruC r) a30 rfl (atNM (blkL hB1) (fun h => h))) (Mod.drew _ _) ?_
 refine DQ (Yld.loadN (cs := alC a) a35 rfl (atNM (blk0' hn3.blk) (fun h => h))) (Mod.drew _ _) ?_
 refine OD (Does.call rfl e76 (ruleKey_ok M M' r h4 a ha.z _ ((h.ok.mod (Mod.any' hn3.grow)).mod (Mod.drew _ _)) ((ha.l.mod (Mod.any' hn3.grow)).mod (Mod.drew _ _)))) ?_
 rintro _ w3 ⟨rfl, hg3⟩
 have hd3 := (Mod.drew No w1).trans hg3
 refine ⟨hd3, ?_⟩
 have hg03 := hn3.grow.trans hd3
 refine DQ (Yld.lookup Tryz.underlying130 key9 i37 (k := keyT r.eq a.ls) rfl rfl (fun w' hm => (hl2.mod hn3.grow (fun h => h)).mod hm (fun h => h))) (hd3) ?_
 refine DL.re (d := 15) rfl rfl (hval) ?_
 refine OD (Does.call rfl e78 (make_ok M _ vv _ (hsl.mod (Mod.any' hg03)) (by omega))) ?_
 rintro u4 w4 ⟨hr4, hf4, hg4⟩
 refine ⟨hd3.trans hg4, ?_⟩
 refine GG ?_
 refine RK.ret_of Tryz.func22 (res1 rfl rfl) ?_ _
 exact ⟨_, rfl, hr4, fun b e => by have h1 := hf4 b e; have h2 := hg03.size; omega, hg03.trans hg4⟩
end Go.Proofs.YthbjfhhiajihfaaGreat
set_option linter.unusedVariables false
set_option linter.unusedSimpArgs false
set_option maxHeartbeats 2000000
set_option maxRecDepth 100000
namespace Go.Proofs.YthbjfhhiajihfaaGreat
open Go Go.X Go.Rex
def sevT : ByteArray := ⟨#[115, 101, 118]⟩
def critT : ByteArray := ⟨#[99, 114, 105, 116]⟩
def warnT : ByteArray := ⟨#[119, 97, 114, 110]⟩
def mSrc : Mt := ⟨1, sevT, critT⟩
theorem mSrc_is : isM mSrc = true := by kernel_rfl
theorem mSrc_large : largeM mSrc = false := by kernel_rfl
theorem list1 {m : Mt} (h : isM m = true) : listM [m] = true := listM_yes (by simp) fun i hi => by
 obtain rfl : i = 0 := by simpa using hi
 rw [okM_0 rfl]; exact h
end Go.Proofs.YthbjfhhiajihfaaGreat
set_option linter.unusedVariables false
set_option linter.unusedSimpArgs false
set_option maxHeartbeats 4000000
set_option maxRecDepth 100000
namespace Go.Proofs.YthbjfhhiajihfaaGreat
open Go Go.X Go.Rex Ieee
def cT : ByteArray := ⟨#[99]⟩
def ls17 (s c : ByteArray) : List Lab := [⟨cT, c⟩, ⟨sevT, s⟩]
def mTgt17 : Mt := ⟨1, sevT, warnT⟩
def bd17 : Bd := ⟨false, 4607182418800017408, 4621256167635550208⟩
def crV (v1 v2 v3 : Value) : Ru := ⟨v1, v2, v3, [mSrc], [mTgt17], bd17, [cT]⟩
def al17 (id : Int) (s c : ByteArray) (v : Nat) (b : Nat) : Al := ⟨id, ls17 s c, v, .slice (some ⟨b, 0, none⟩) 2 2⟩
theorem ls17_z {s c : ByteArray} (hs : s.size ≤ 100000) (hc : c.size ≤ 100000) : ∀ x ∈ ls17 s c, x.value.size ≤ 100000 := fun x hx => by
 simp only [ls17, List.mem_cons, List.not_mem_nil, or_false] at hx
 rcases hx with rfl | rfl
 ·exact hc
 ·exact hs
theorem of17_ok (id : Int) (s c : ByteArray) (v : Nat) (hs : s.size ≤ 100000) (hc : c.size ≤ 100000) (w : World) : Fx Tryz.prog 21 [.int .i64 id, .string s, .string c, .float .f64 v] w (fun u w' => ∃ b, u = .agg (alC (al17 id s c v b)).toArray ∧ (∀ M : Nat → Prop, (∀ b, M b → b < w.heap.size) → AlOk M w' (al17 id s c v b)) ∧ Grow w w') := by
 refine enter Tryz.func21 rfl rfl rfl _ (Pick.sub (l := [0, 1, 2, 3]) (.cons rfl (.cons rfl (.cons rfl (.cons rfl .nil))))) ?_
 refine GG ?_
 refine OP (Does.alloc i35) ?_
 rintro _ w1 ⟨b8, rfl, hn8⟩
 refine GG ?_
 refine QQ (Yld.build (v := .agg #[.string cT, .string c]) rfl (fun w => by kernel_rfl)) ?_
 refine RL.p rfl rfl ?_
 refine QQ (Yld.build (v := .agg #[.string sevT, .string s]) rfl (fun w => by kernel_rfl)) ?_
 refine OP (Does.bslice (el := 79) ([.string cT, .string c, .string sevT, .string s]) rfl (fun w => by kernel_rfl)) ?_
 rintro _ w2 ⟨b14, rfl, hn14⟩
 refine RL.p rfl rfl ?_
 refine QQ (Yld.build (v := .agg (alC (al17 id s c v b14)).toArray) rfl (fun w => by kernel_rfl)) ?_
 refine OQ (Does.storeN i35 rfl rfl rfl rfl (hn8.blk.mod hn14.grow (fun h => h)) (Nat.le_refl 3)) ?_
 rintro _ w3 ⟨hb3, hm3, _⟩
 have ha8 := hn8.at_
 have ha14 := hn14.at_
 have hz8 := hn8.size
 refine RL.done ?_
 refine RK.ret_of Tryz.func21 (resC (cs := alC (al17 id s c v b14)) rfl rfl a35 hb3) ?_ _
 exact ⟨_, rfl, b14, rfl, fun M hM => ⟨((Sl.new (M := fun b => M b ∨ b = b8) hn14 2 2 rfl (by omega) (fun h => by exact h.elim (fun h => by have := hM _ h; omega) (fun h => by omega))).mod (hm3.mono (fun b _ e => .inr e))).off (by omega) (fun b _ e => .inl e), ls17_z hs hc⟩, (hn8.grow.trans hn14.grow).then hm3 (fun y hy e => by have e' : y = b8 := e; omega)⟩
theorem crit17_ok (w : World) : Fx Tryz.prog 19 [] w (fun u w' => ∃ v1 v2 v3, u = .agg (ruC (crV v1 v2 v3)).toArray ∧ (crV v1 v2 v3).Ok No w' ∧ Grow w w') := by
 refine enter Tryz.func19 rfl rfl rfl _ (Pick.sub (l := []) .nil) ?_
 refine GG ?_
 refine OP (Does.alloc i30) ?_
 rintro _ w1 ⟨b0, rfl, hn0⟩
 refine GG ?_
 refine QQ (Yld.build (v := .agg (mtC mSrc).toArray) rfl (fun w => by kernel_rfl)) ?_
 refine OP (Does.slice1 u24 i135 rfl rfl rfl rfl rfl) ?_
 rintro _ w2 ⟨b1, rfl, hn1⟩
 refine QQ (Yld.build (v := .agg (mtC mTgt17).toArray) rfl (fun w => by kernel_rfl)) ?_
 refine OP (Does.slice1 u24 i135 rfl rfl rfl rfl rfl) ?_
 rintro _ w3 ⟨b2, rfl, hn2⟩
 refine QQ (Yld.build (v := .agg (bdC bd17).toArray) rfl (fun w => by kernel_rfl)) ?_
 refine OP (Does.slice1 u28 i9 rfl rfl rfl rfl rfl) ?_
 rintro _ w4 ⟨b3, rfl, hn3⟩
 have hB0 := ((hn0.blk.mod hn1.grow (fun h => h)).mod hn2.grow (fun h => h)).mod hn3.grow (fun h => h)
 refine QQ (Yld.build (v := .agg (ruC (crV (.slice (some ⟨b1, 0, none⟩) 1 1) (.slice (some ⟨b2, 0, none⟩) 1 1) (.slice (some ⟨b3, 0, none⟩) 1 1))).toArray) rfl (fun w => by kernel_rfl)) ?_
 refine OQ (Does.storeN i30 rfl rfl rfl rfl hB0 (Nat.le_refl 6)) ?_
 rintro _ w5 ⟨hb5, hm5, _⟩
 have hs0 := hn0.at_
 have hs1 := hn1.at_
 have hs2 := hn2.at_
 have hs3 := hn3.at_
 have hz0 := hn0.size
 have hz1 := hn1.size
 have hz2 := hn2.size
 refine RL.done ?_
 refine RK.ret_of Tryz.func19 (resC (cs := ruC (crV (.slice (some ⟨b1, 0, none⟩) 1 1) (.slice (some ⟨b2, 0, none⟩) 1 1) (.slice (some ⟨b3, 0, none⟩) 1 1))) rfl rfl a30 hb5) ?_ _
 exact ⟨_, rfl, _, _, _, rfl, ⟨((Sl.new (M := (· = b0)) hn1 3 1 rfl (by omega) (by omega)).mod (Mod.any' (hn2.grow.trans hn3.grow))).mod hm5 |>.noM, ((Sl.new (M := (· = b0)) hn2 3 1 rfl (by omega) (by omega)).mod (Mod.any' hn3.grow)).mod hm5 |>.noM, (Sl.new (M := (· = b0)) hn3 1 1 rfl (by omega) (by omega)).mod hm5 |>.noM⟩, (((hn0.grow.trans hn1.grow).trans hn2.grow).trans hn3.grow).then hm5 (fun y hy e => by have e' : y = b0 := e; omega)⟩
theorem mTgt17_is : isM mTgt17 = true := by kernel_rfl
theorem mTgt17_large : largeM mTgt17 = false := by kernel_rfl
theorem getL17 (s c : ByteArray) : getL (ls17 s c) sevT = s := by
 unfold getL ls17
 simp [show ¬ cT = sevT by decide]
theorem getL17c (s c : ByteArray) : getL (ls17 s c) cT = c := by unfold getL ls17; simp
theorem src17 (s c : ByteArray) : holdsM mSrc (ls17 s c) = decide (s = critT) := by
 unfold holdsM
 rw [mSrc_is, mSrc_large]
 simp [mSrc, getL17]
theorem may17 : mayB bd17 = true := by kernel_rfl
theorem okE17 : ∀ i, i < 1 → okE [cT] i = true := fun i hi => by
 obtain rfl : i = 0 := by omega
 unfold okE; kernel_rfl
theorem works17 (v1 v2 v3 : Value) : worksRu (crV v1 v2 v3) = true := by
 have h1 : isRu (crV v1 v2 v3) = true := isRu_yes (by simp [crV]) (by simp [crV]) (list1 mSrc_is) (list1 mTgt17_is) may17 (by simp [crV]) fun i hi => okE17 i (by simpa [crV] using hi)
 have h2 : largeRu (crV v1 v2 v3) = false := by
  unfold largeRu anyL
  simp [crV, mSrc_large, mTgt17_large]
 unfold worksRu
 rw [h1, h2]; rfl
theorem source17 (v1 v2 v3 : Value) (s c : ByteArray) (v : Nat) : sourceS (crV v1 v2 v3) (ls17 s c) v = (decide (s = critT) && inBd bd17 v) := by
 unfold sourceS
 rw [works17]
 simp [crV, src17]
def key17 (c : ByteArray) : ByteArray := keyT [cT] (ls17 critT c)
theorem key17_eq (s c : ByteArray) : keyT [cT] (ls17 s c) = key17 c := (keyT_iff _ _ _).2 fun x hx => by
 simp only [List.mem_singleton] at hx
 subst hx
 rw [getL17c, getL17c]
theorem key17_inj {c d : ByteArray} (h : key17 c = key17 d) : c = d := by
 have := (keyT_iff _ _ _).1 h cT (by simp)
 rwa [getL17c, getL17c] at this
theorem nodup_of_map {α β : Type} {f : α → β} {l : List α} (h : (l.map f).Nodup) : l.Nodup := (List.pairwise_map.1 h).imp fun hne e => hne (congrArg f e)
structure One17 (c : CRows × CKeys) (id : Int) (k : Option ByteArray) : Prop where
 ci : CI c
 look : ∀ j, lookM c.2 j = if j = id then k else none
theorem One17.put {c : CRows × CKeys} {id : Int} {k0 : Option ByteArray} (h : One17 c id k0) (s : Bool) (k : ByteArray) : One17 (putC c id s k) id (if s = true then some k else none) :=
 ⟨h.ci.put _ _ _, fun j => by rw [putC_look h.ci, h.look]; by_cases e : j = id <;> simp [e]⟩
theorem One17.nil (id : Int) : One17 ([], []) id none := ⟨CI.nil, fun j => by simp [lookM, placeM]⟩
theorem One17.row {c : CRows × CKeys} {id : Int} {k : Option ByteArray} (h : One17 c id k) (k2 : ByteArray) : rowC c k2 = if k = some k2 then [id] else [] := by
 refine ext_ris (rowC_ris _ _) (by split <;> simp [Ris]) fun j => ?_
 rw [h.ci.mem_row, h.look]
 by_cases e : j = id
 ·rw [if_pos e]; by_cases e2 : k = some k2 <;> simp [e, e2]
 ·rw [if_neg e]; by_cases e2 : k = some k2 <;> simp [e, e2]
theorem One17.lens {c : CRows × CKeys} {id : Int} {k : Option ByteArray} (h : One17 c id k) : c.2.length = (if k.isSome then 1 else 0) ∧ c.1.length = (if k.isSome then 1 else 0) := by
 cases k with
 | none =>
  have h2 : c.2 = [] := keys_nil fun j k e => by rw [h.look] at e; split at e <;> cases e
  rw [h2, h.ci.empty h2]; exact ⟨rfl, rfl⟩
 | some k =>
  have hk : ∀ t, t ∈ c.2 ↔ t = (id, k) := fun t => by
   obtain ⟨j, k'⟩ := t
   rw [← lookM_iff h.ci.nk, h.look]
   by_cases e : j = id
   ·rw [if_pos e]; simp [e, eq_comm]
   ·rw [if_neg e]; simp [e]
  have hr : ∀ x, x ∈ c.1.map (·.1) ↔ x = k := fun x => by
   constructor
   ·intro hx
    obtain ⟨t, ht, rfl⟩ := List.mem_map.1 hx
    obtain ⟨_, hne⟩ := h.ci.row t ht
    obtain ⟨j, hj⟩ := List.exists_mem_of_ne_nil _ hne
    have h3 := (h.ci.mem t.1 j).1 (by rw [(lookM_iff h.ci.nr).2 ht]; exact hj)
    rw [h.look] at h3
    split at h3
    ·exact (Option.some.inj h3).symm
    ·cases h3
   ·rintro rfl
    refine Classical.byContradiction fun hn => ?_
    have h3 := (h.ci.mem x id).2 (by rw [h.look, if_pos rfl])
    rw [lookM_none.2 hn] at h3
    cases h3
  have p1 : c.2.Perm [(id, k)] := (List.perm_ext_iff_of_nodup (nodup_of_map h.ci.nk) (by simp)).2 fun t => by rw [hk]; simp
  have p2 : (c.1.map (·.1)).Perm [k] := (List.perm_ext_iff_of_nodup h.ci.nr (by simp)).2 fun t => by rw [hr]; simp
  exact ⟨by simpa using p1.length_eq, by simpa using p2.length_eq⟩
theorem put17 {M : Nat → Prop} {w : World} {p mr mk : Nat} {v1 v2 v3 : Value} {c : CRows × CKeys} {id : Int} {x : ByteArray} {v b : Nat} (h : CacheAt M w p mr mk (crV v1 v2 v3) (putC c (al17 id critT x v b).id (sourceS (crV v1 v2 v3) (al17 id critT x v b).ls (al17 id critT x v b).val) (keyT (crV v1 v2 v3).eq (al17 id critT x v b).ls))) : CacheAt M w p mr mk (crV v1 v2 v3) (putC c id (inBd bd17 v) (key17 x)) := by
 have e : sourceS (crV v1 v2 v3) (ls17 critT x) v = inBd bd17 v := by rw [source17]; simp
 have e2 : sourceS (crV v1 v2 v3) (al17 id critT x v b).ls (al17 id critT x v b).val = inBd bd17 v := e
 rw [e2] at h
 exact h
theorem row17 {w : World} {z : Value} {v1 v2 v3 : Value} {c : CRows × CKeys} {id j : Int} {k : Option ByteArray} {s x : ByteArray} {v b : Nat} (h : One17 c id k) (hr : Row w 3 1 z (rowC c (keyT (crV v1 v2 v3).eq (al17 j s x v b).ls)).length (ints (rowC c (keyT (crV v1 v2 v3).eq (al17 j s x v b).ls)))) :
  Row w 3 1 z (if k = some (key17 x) then [id] else []).length (ints (if k = some (key17 x) then [id] else [])) := by
 have e : keyT (crV v1 v2 v3).eq (al17 j s x v b).ls = key17 x := key17_eq s x
 rw [e, h.row] at hr
 exact hr
theorem CacheAt.lts {M : Nat → Prop} {w : World} {p mr mk : Nat} {r : Ru} {c : CRows × CKeys} (h : CacheAt M w p mr mk r c) : ∀ b, b = mr ∨ b = mk → b < w.heap.size := fun b e => by
 obtain ⟨l, _, hl, _⟩ := h.rl
 rcases e with rfl | rfl
 ·exact hl.lt
 ·exact h.kl.lt
def xT : ByteArray := ⟨#[120]⟩
def yT : ByteArray := ⟨#[121]⟩
theorem cruns_ok (w : World) : Fx Tryz.prog 3 [] w (fun u w' => u = .bool true ∧ Grow w w') := by
 refine enter Tryz.func3 rfl rfl rfl _ (Pick.sub (l := []) .nil) ?_
 refine GG ?_
 refine OP (Does.call rfl e19 (crit17_ok _)) ?_
 rintro _ w1 ⟨a1, a2, a3, rfl, hru, hg1⟩
 refine OP (Does.call rfl e18 (cacheNew_ok No _ _ hru ⟨by simp [crV], by simp [crV], by simp [crV]⟩)) ?_
 rintro _ w2 ⟨p, mr, mk, v1, v2, v3, rfl, ⟨hp, hmr, hmk, hpl⟩, hc0, hg2⟩
 have hc2 : CacheAt (fun b => b = mr ∨ b = mk) w2 p mr mk (crV v1 v2 v3) ([], []) := hc0 _ (fun b _ e => .inr e)
 have hM2 := hc2.lts
 refine GG ?_
 refine QQ (Yld.eqPtr Tryz.underlying22 rfl rfl) ?_
 refine RL.done ?_
 refine RK.condF (hcF rfl (rfl)) ?_
 refine GG ?_
 refine OP (Does.call rfl e21 (of17_ok 1 critT xT 4617315517961601024 (by decide) (by decide) _)) ?_
 rintro _ w3 ⟨b3, rfl, ha3, hg3⟩
 refine OP (Does.call rfl e20 (cachePut_ok (fun b => b = mr ∨ b = mk) _ p mr mk _ _ (hc2.grow hg3) (.inl rfl) (.inr rfl) (hc2.grow hg3).lts _ (ha3 _ hM2) (CB.nil.mono (by omega)))) ?_
 rintro _ w4 ⟨rfl, hc4', hm4⟩
 have hc4 := put17 hc4'
 have hin : inBd bd17 4617315517961601024 = true := by kernel_rfl
 have ho4 := (One17.nil 1).put (inBd bd17 4617315517961601024) (key17 xT)
 rw [if_pos hin] at ho4
 have hb4 : CB (putC ([], []) 1 (inBd bd17 4617315517961601024) (key17 xT)) 1000000 := (CB.nil.put _ _ _).mono (by omega)
 have hz1 := (hg1.trans hg2).size
 have hg04 : Grow w w4 := ((hg1.trans hg2).trans hg3).then hm4 (fun b hb e => by have := hg1.size; rcases e with rfl | rfl <;> omega)
 refine GG ?_
 refine OP (Does.call rfl e21 (of17_ok 2 warnT xT 0 (by decide) (by decide) _)) ?_
 rintro _ w5 ⟨b5, rfl, ha5, hg5⟩
 refine OP (Does.call rfl e22 (cacheSources_ok (fun b => b = mr ∨ b = mk) No _ p mr mk _ _ (hc4.grow hg5) (by simp [crV]) _ (ha5 No (fun b h => h.elim)) hb4)) ?_
 rintro z6 w6 ⟨hr6', hf6, hg6⟩
 have hr6 := row17 ho4 hr6'
 rw [if_pos rfl] at hr6
 refine RL.p rfl rfl ?_
 refine OP (Does.call rfl e21 (of17_ok 2 warnT yT 0 (by decide) (by decide) _)) ?_
 rintro _ w7 ⟨b7, rfl, ha7, hg7⟩
 have hg47 := (hg5.trans hg6).trans hg7
 refine OP (Does.call rfl e22 (cacheSources_ok (fun b => b = mr ∨ b = mk) No _ p mr mk _ _ (hc4.grow hg47) (by simp [crV]) _ (ha7 No (fun b h => h.elim)) hb4)) ?_
 rintro z8 w8 ⟨hr8', hf8, hg8⟩
 have hr8 := row17 ho4 hr8'
 rw [if_neg (fun e => absurd (key17_inj (Option.some.inj e)) (by decide))] at hr8
 obtain ⟨ad8, c8, rfl⟩ := hr8.slice
 refine GG ?_
 refine OP (Does.slice1 u37 i3 rfl rfl rfl rfl rfl) ?_
 rintro _ w18 ⟨b18, rfl, hn18⟩
 have hg68 := (hg7.trans hg8).trans hn18.grow
 refine OP (Does.call rfl e23 (sameInts_ok No [1] [1] z6 _ _ (Sl.own (hr6.mod hg68 (fun _ _ h => h)) (fun _ _ h => h)) (Sl.new hn18 1 1 rfl (by omega) (fun h => h)))) ?_
 rintro _ w9 ⟨rfl, hg9⟩
 have hg49 := ((hg5.trans hg6).trans hg68).trans hg9
 refine RL.p rfl rfl ?_
 refine RL.knownT (d := 20) rfl rfl (by simp) ?_
 refine QQ (Yld.pure rfl) ?_
 refine QQ (Yld.lenSl u37 rfl) ?_
 refine QQ (Yld.pure rfl) ?_
 refine GG ?_
 refine RL.knownT (d := 25) rfl rfl (rfl) ?_
 refine QQ (Yld.pure rfl) ?_
 refine OP (Does.call rfl e24 (cacheLen_ok _ _ p mr mk _ _ (hc4.grow hg49))) ?_
 rintro _ w10 ⟨rfl, hg10⟩
 refine QQ (Yld.pure rfl) ?_
 refine GG ?_
 refine RL.knownT (d := 30) rfl rfl (decide_eq_true (by rw [ho4.lens.1]; rfl)) ?_
 refine QQ (Yld.pure rfl) ?_
 refine OP (Does.call rfl e25 (cacheKeys_ok _ _ p mr mk _ _ (hc4.grow (hg49.trans hg10)))) ?_
 rintro _ w11 ⟨rfl, hg11⟩
 refine QQ (Yld.pure rfl) ?_
 refine GG ?_
 refine RK.ret_of Tryz.func3 (res1 rfl rfl) ?_ _
 exact ⟨_, rfl, congrArg _ (decide_eq_true (by rw [ho4.lens.2]; rfl)), (hg04.trans hg49).trans (hg10.trans hg11)⟩
end Go.Proofs.YthbjfhhiajihfaaGreat
set_option linter.unusedVariables false
set_option linter.unusedSimpArgs false
set_option maxHeartbeats 2000000
set_option maxRecDepth 100000
namespace Go.Proofs.YthbjfhhiajihfaaGreat
open Go Go.X Go.Rex
theorem labelsS_z (l : List Int) : ∀ x ∈ labelsS l, x.value.size ≤ 100000 := fun x hx => by
 have h := (raw_ok l).1.vl x (mem_isort.1 hx)
 simp only [vlL, List.mem_cons, List.not_mem_nil, or_false] at h
 rcases h with h | h | h | h | h | h | h <;> rw [h] <;> decide
theorem AlOk.noM {M : Nat → Prop} {w : World} {a : Al} (h : AlOk M w a) : AlOk No w a := ⟨h.l.noM, h.z⟩
end Go.Proofs.YthbjfhhiajihfaaGreat
set_option linter.unusedVariables false
set_option linter.unusedSimpArgs false
set_option maxHeartbeats 4000000
set_option maxRecDepth 100000
namespace Go.Proofs.YthbjfhhiajihfaaGreat
open Go Go.X Go.Rex
structure S7 where
 kind : Int
 id : Int
 labs : List Int
 v : Value
 val : Nat
def s7C (s : S7) : List Value := [.int .u8 s.kind, .int .i64 s.id, s.v, .float .f64 s.val]
theorem s7C_len (s : S7) : (s7C s).length = 4 := rfl
structure S7.Ok (M : Nat → Prop) (w : World) (q : S7) : Prop where
 s : Sl M w q.v 1 q.labs.length (ints q.labs)
 r : ∀ x ∈ q.labs, -9223372036854775808 ≤ x ∧ x ≤ 9223372036854775807
 k : 0 ≤ q.kind ∧ q.kind < 256
abbrev AlT := Int × List Lab × Nat
noncomputable def srcA (r : Ru) (a : AlT) : Bool := sourceS r a.2.1 a.2.2
def keyA (r : Ru) (a : AlT) : ByteArray := keyT r.eq a.2.1
noncomputable def play1 (r : Ru) (x : (CRows × CKeys) × List AlT) (s : S7) : (CRows × CKeys) × List AlT :=
 if s.kind % 4 = 3 then (dropC x.1 s.id, leftA (·.1) x.2 s.id) else
  (putC x.1 s.id (srcA r (s.id, labelsS s.labs, s.val)) (keyA r (s.id, labelsS s.labs, s.val)), leftA (·.1) x.2 s.id ++ [(s.id, labelsS s.labs, s.val)])
noncomputable def playS (r : Ru) (l : List S7) : (CRows × CKeys) × List AlT := l.foldl (play1 r) (([], []), [])
theorem playS_snoc (r : Ru) (l : List S7) (s : S7) : playS r (l ++ [s]) = play1 r (playS r l) s := by simp [playS]
theorem play1_CR {r : Ru} {x : (CRows × CKeys) × List AlT} (h : CR (·.1) (srcA r) (keyA r) x.1 x.2) (s : S7) : CR (·.1) (srcA r) (keyA r) (play1 r x s).1 (play1 r x s).2 := by
 unfold play1
 split
 ·exact h.drop s.id
 ·exact h.put (s.id, labelsS s.labs, s.val)
theorem playS_CR (r : Ru) (l : List S7) : CR (·.1) (srcA r) (keyA r) (playS r l).1 (playS r l).2 := by
 have key : ∀ (l : List S7) (x : (CRows × CKeys) × List AlT), CR (·.1) (srcA r) (keyA r) x.1 x.2 → CR (·.1) (srcA r) (keyA r) (l.foldl (play1 r) x).1 (l.foldl (play1 r) x).2 := by
  intro l
  induction l with
  | nil => exact fun x h => h
  | cons s l ih => exact fun x h => ih _ (play1_CR h s)
 exact key l _ CR.nil
theorem play1_B {r : Ru} {x : (CRows × CKeys) × List AlT} {B : Nat} (h : CB x.1 B) (h2 : x.2.length ≤ B) (s : S7) : CB (play1 r x s).1 (B + 1) ∧ (play1 r x s).2.length ≤ B + 1 := by
 have hl := leftA_le (idf := fun a : AlT => a.1) x.2 s.id
 unfold play1
 split
 ·exact ⟨(h.drop s.id).mono (by omega), by simp only; omega⟩
 ·exact ⟨h.put _ _ _, by simp only [List.length_append, List.length_singleton]; omega⟩
theorem playS_B (r : Ru) (l : List S7) : ∀ k, CB (playS r (l.take k)).1 k ∧ (playS r (l.take k)).2.length ≤ k
 | 0 => ⟨CB.nil, by simp [playS]⟩
 | k + 1 => by
  obtain ⟨h1, h2⟩ := playS_B r l k
  cases hx : l[k]? with
  | none =>
   have hl := List.getElem?_eq_none_iff.1 hx
   have e : l.take (k + 1) = l.take k := by rw [List.take_of_length_le (by omega), List.take_of_length_le (by omega)]
   rw [e]
   exact ⟨h1.mono (by omega), by omega⟩
  | some s =>
   have hk := (List.getElem?_eq_some_iff.1 hx).1
   rw [List.take_succ_eq_append_getElem hk, (List.getElem?_eq_some_iff.1 hx).2, playS_snoc]
   exact play1_B h1 h2 s
def leftL (al : List Al) (id : Int) : List Al := leftA (fun a : Al => a.id) al id
theorem leftL_pub (al : List Al) (id : Int) : (leftL al id).map pub = leftA (fun a : AlT => a.1) (al.map pub) id := by
 unfold leftL leftA
 rw [List.filter_map]
 rfl
theorem mem_leftL {al : List Al} {id : Int} {a : Al} (h : a ∈ leftL al id) : a ∈ al := (mem_leftA.1 h).1
theorem AlOk.pass {M M' : Nat → Prop} {w w' : World} {a : Al} (h : AlOk M w a) (hm : Mod M w w') (hM : ∀ b, M' b → M b ∨ w.heap.size ≤ b) : AlOk M' w' a := ⟨h.l.pass (by omega) hm hM, h.z⟩
theorem AlOk.off {M M' : Nat → Prop} {w : World} {a : Al} (h : AlOk M w a) (hM : ∀ b, b < w.heap.size → M' b → M b) : AlOk M' w a := ⟨h.l.off (by omega) hM, h.z⟩
def mkA (s : S7) (v : Value) : Al := ⟨s.id, labelsS s.labs, s.val, v⟩
theorem played_ok (M : Nat → Prop) (w : World) (p mr mk : Nat) (r : Ru) (hc : CacheAt M w p mr mk r ([], [])) (hMr : M mr) (hMk : M mk) (hM : ∀ b, M b → b < w.heap.size) (l : List S7) (vl : Value) (hl : Sl M w vl 4 l.length (l.flatMap s7C)) (hls : ∀ s ∈ l, s.Ok M w) :
    Fx Tryz.prog 28 [pp p, vl] w (fun u w' => ∃ al : List Al, al.map pub = (playS r (l.take 60)).2 ∧ Row w' 35 3 u al.length (al.flatMap alC) ∧ (∀ a ∈ al, AlOk M w' a) ∧ Fresh w.heap.size u ∧ CacheAt M w' p mr mk r (playS r (l.take 60)).1 ∧ Mod (fun b => b = mr ∨ b = mk) w w') := by
  obtain ⟨adl, cl, rfl⟩ := hl.shape
  have hbig := hl.big
  have hMm : ∀ {w1 w2 : World}, Mod (fun b => b = mr ∨ b = mk) w1 w2 → Mod M w1 w2 := fun h => h.mono fun b _ e => by rcases e with rfl | rfl <;> assumption
  refine enter Tryz.func28 rfl rfl rfl _ (Pick.sub (l := [0, 1]) (.cons rfl (.cons rfl .nil))) ?_
  refine RK.seq ?_
  refine RK.region ?_
  refine RL.p rfl rfl ?_
  refine RL.done ?_
  refine RK.seq ?_
  refine RK.region ?_
  refine RL.p rfl rfl ?_
  refine RL.done ?_
  iterate 2 refine RK.seq ?_
  refine RK.region ?_
  refine RL.p rfl rfl ?_
  refine RL.done ?_
  refine RK.block ?_
  refine RK.loop (fun s : Nat × Value => [(0, pp p), (1, .slice adl l.length cl), (5, s.2), (6, .int .i64 (s.1 : Int))]) (fun s w' => (∃ al : List Al, al.map pub = (playS r (l.take s.1)).2 ∧ Row w' 35 3 s.2 al.length (al.flatMap alC) ∧ ∀ a ∈ al, AlOk M w' a) ∧ Fresh w.heap.size s.2 ∧ CacheAt M w' p mr mk r (playS r (l.take s.1)).1 ∧ Mod (fun b => b = mr ∨ b = mk) w w' ∧ s.1 ≤ l.length ∧ s.1 ≤ 60) (fun s => l.length - s.1) (0, .slice none 0 0) ⟨rfl, rfl, rfl, rfl, trivial⟩ ⟨⟨[], by simp [playS], Row.nil _ _ _, by simp⟩, fun b e => by simp [Value.ownBlock] at e, hc, Mod.refl _ _, by simp, by simp⟩ (fun s w1 hI ih => ?_)
  obtain ⟨k, u⟩ := s
  obtain ⟨⟨al, hal, hr, hok⟩, hf, hck, hm, hk, hk60⟩ := hI
  simp only at hal hr hok hf hck hk hk60
  obtain ⟨hB, hBl⟩ := playS_B r l k
  have hlen : al.length ≤ 60 := by have := congrArg List.length hal; rw [List.length_map] at this; omega
  obtain ⟨adu, cu, rfl⟩ := hr.slice
  iterate 2 refine RK.seq ?_
  refine RK.region ?_
  iterate 2 refine RL.p rfl rfl ?_
  refine RL.q (.free rfl) rfl rfl (Yld.lenSl u47 rfl) ?_
  iterate 2 refine RL.p rfl rfl ?_
  first | refine RL.splitD (d := 14) rfl rfl (fun h14 => ?_) (fun h14 => ?_) | refine RL.splitN (d := 14) rfl rfl (fun h14 => ?_) (fun h14 => ?_) | refine RL.split (d := 14) rfl rfl (fun h14 => ?_) (fun h14 => ?_)
  · iterate 2 refine RL.q (.yes rfl rfl rfl) rfl rfl (Yld.pure rfl) ?_
    refine RL.p rfl rfl ?_
    refine RL.done ?_
    first | refine RK.condD rfl (fun h17 => ?_) (fun h17 => ?_) | refine RK.condN rfl (fun h17 => ?_) (fun h17 => ?_) | refine RK.cond rfl (fun h17 => ?_) (fun h17 => ?_)
    · obtain ⟨s, hsk⟩ : ∃ s, l[k]? = some s := ⟨l[k]'(by omega), List.getElem?_eq_getElem (by omega)⟩
      have htk : l.take (k + 1) = l.take k ++ [s] := by rw [List.take_succ_eq_append_getElem (by omega), (List.getElem?_eq_some_iff.1 hsk).2]
      have hso := hls s (List.mem_of_getElem? hsk)
      obtain ⟨b1, o1, c1', he1, hb1M, _, hc1⟩ := hl.elem s7C_len hsk
      cases he1
      have hc11 := fun q z hq => (hMm hm).cell (hc1 q z hq) hb1M
      have hsz1 := hm.size
      have hsl : Sl No w1 (.slice adu al.length cu) 3 al.length (al.flatMap alC) := Sl.own hr (fun _ _ h => h)
      refine RK.skip ?_
      refine RK.seq ?_
      refine RK.block ?_
      refine RK.seq ?_
      refine RK.region ?_
      refine RL.p rfl rfl ?_
      refine RL.done ?_
      iterate 2 refine RK.seq ?_
      refine RK.region ?_
      refine RL.p rfl rfl ?_
      refine RL.done ?_
      refine RK.block ?_
      refine RK.loop (fun s : Nat × Value => [(0, pp p), (1, .slice (some ⟨b1, o1, none⟩) l.length cl), (5, .slice adu al.length cu), (6, .int .i64 (k : Int)), (7, s.2), (8, .int .i64 (s.1 : Int))]) (fun s2 w' => Row w' 35 3 s2.2 (leftL (al.take s2.1) s.id).length ((leftL (al.take s2.1) s.id).flatMap alC) ∧ Fresh w1.heap.size s2.2 ∧ (∀ a ∈ al, AlOk (fun b => M b ∨ s2.2.ownBlock = some b) w' a) ∧ Grow w1 w' ∧ s2.1 ≤ al.length) (fun s => al.length - s.1) (0, .slice none 0 0) ⟨rfl, rfl, rfl, rfl, rfl, rfl, trivial⟩ ⟨by rw [List.take_zero]; exact Row.nil _ _ _, fun b e => by simp [Value.ownBlock] at e, fun a ha => (hok a ha).off (fun b _ e => by rcases e with e | e; exact e; simp [Value.ownBlock] at e), Mod.refl _ _, by simp⟩ (fun s2 w2 hI2 ih2 => ?_)
      obtain ⟨j, z⟩ := s2
      obtain ⟨hrz, hfz, hokz, hg, hj⟩ := hI2
      simp only at hrz hfz hokz hj
      have hlz : (leftL (al.take j) s.id).length ≤ 60 := Nat.le_trans (leftA_le _ _) (by rw [List.length_take]; omega)
      iterate 2 refine RK.seq ?_
      refine RK.region ?_
      iterate 2 refine RL.p rfl rfl ?_
      refine RL.q (.free rfl) rfl rfl (Yld.lenSl u49 rfl) ?_
      refine RL.p rfl rfl ?_
      refine RL.done ?_
      first | refine RK.condD rfl (fun h23 => ?_) (fun h23 => ?_) | refine RK.condN rfl (fun h23 => ?_) (fun h23 => ?_) | refine RK.cond rfl (fun h23 => ?_) (fun h23 => ?_)
      · obtain ⟨a, haj⟩ : ∃ a, al[j]? = some a := ⟨al[j]'(by omega), List.getElem?_eq_getElem (by omega)⟩
        obtain ⟨b2, o2, c2', he2, _, _, hc2⟩ := hsl.elem alC_len haj
        cases he2
        have hsn := leftA_snoc (idf := fun a : Al => a.id) haj s.id
        refine RK.skip ?_
        refine RK.seq ?_
        refine RK.block ?_
        refine RK.seq ?_
        refine RK.drawM No [(0, false), (1, false), (2, false), (3, false), (4, false), (5, false), (6, false), (7, false), (8, false), (9, false), (10, false)] [] mixed (by kernel_rfl) ?_
        iterate 2 refine DL.p rfl rfl rfl ?_
        refine DL.qf rfl (.free rfl) rfl rfl (Yld.indexAddrN u49 i35 rfl rfl (by omega)) ?_
        refine DL.qf rfl (.free rfl) rfl rfl (Yld.fieldAddr fo35_0 rfl) ?_
        refine DL.q rfl (.free rfl) rfl rfl rfl (Yld.load p3 rfl (atM (hg.cell (hc2 0 _ rfl) (fun h => h)) (fun h => h))) (Mod.drew _ _) ?_
        iterate 2 refine DL.p rfl rfl rfl ?_
        refine DL.qf rfl (.free rfl) rfl rfl (Yld.indexAddrN u47 i141 rfl rfl (by omega)) ?_
        refine DL.qf rfl (.free rfl) rfl rfl (Yld.fieldAddr fo141_1 rfl) ?_
        refine DL.q rfl (.free rfl) rfl rfl rfl (Yld.load p3 rfl (atM (hg.cell (hc11 1 _ rfl) (fun h => h)) (fun h => h))) (Mod.drew _ _) ?_
        refine DL.p rfl rfl rfl ?_
        refine DL.done ?_
        first | refine RK.condD rfl (fun h36 => ?_) (fun h36 => ?_) | refine RK.condN rfl (fun h36 => ?_) (fun h36 => ?_) | refine RK.cond rfl (fun h36 => ?_) (fun h36 => ?_)
        · refine RK.region ?_
          iterate 3 refine RL.p rfl rfl ?_
          refine RL.q (.free rfl) rfl rfl (Yld.indexAddrN u49 i35 rfl rfl (by omega)) ?_
          refine RL.q (.free rfl) rfl rfl (Yld.loadN (cs := alC a) a35 rfl (atN (fun q y hq => (hg.trans (Mod.drew No _)).cell (hc2 q y hq) (fun h => h)))) ?_
          refine RL.op (.free rfl) rfl rfl (Does.slice1 u49 i35 rfl rfl rfl rfl rfl) ?_
          rintro _ w4 ⟨b4, rfl, hn4⟩
          have hg4 := (Mod.drew No w2).trans hn4.grow
          have hz4 := hg4.size
          have haok := hokz a (List.mem_of_getElem? haj)
          refine RL.op (.free rfl) rfl rfl (Does.append u49 i35 rfl rfl rfl rfl rfl ((hrz.mod hg4 (fun _ _ h => h))) (Sl.new hn4 3 1 rfl (by omega) (fun h => h)) (alC_one haok) (by omega)) ?_
          rintro z5 w5 ⟨hr5, hm5, hu5⟩
          have hg15 : Grow w1 w5 := (hg.trans hg4).then hm5 (fun b hb e => by have := hfz b e; omega)
          have hzg := hg.size
          refine RL.p rfl rfl ?_
          refine RL.done ?_
          refine RK.inBlock ?_
          refine RK.region ?_
          iterate 2 refine RL.p rfl rfl ?_
          refine RL.re (d := 25) rfl rfl (succ_i64 (by omega)) ?_
          refine RL.p rfl rfl ?_
          refine RL.done ?_
          exact RK.back (ih2 (j + 1, z5) _ ⟨by
              simp only
              unfold leftL at hr5 ⊢
              rw [hsn, if_pos (by simpa using h36), List.flatMap_append, List.length_append]
              exact hr5, fun b e => by
              rcases hu5 with h1 | h1
              · exact hfz b (h1 ▸ e)
              · rw [h1] at e; cases e; omega, fun a ha => (hokz a ha).pass ((Mod.any' hg4).trans (hm5.mono fun b _ e => .inr e)) (fun b e => by
              rcases e with e | e
              · exact .inl (.inl e)
              · rcases hu5 with h1 | h1
                · exact .inl (.inr (h1 ▸ e))
                · rw [h1] at e; cases e; exact .inr (by omega)), hg15, by simp only; omega⟩ (by simp only; omega)) ⟨rfl, rfl, rfl, rfl, rfl, rfl, trivial⟩
        · refine RK.skip ?_
          refine RK.inBlock ?_
          refine RK.region ?_
          iterate 2 refine RL.p rfl rfl ?_
          refine RL.re (d := 25) rfl rfl (succ_i64 (by omega)) ?_
          refine RL.p rfl rfl ?_
          refine RL.done ?_
          exact RK.back (ih2 (j + 1, z) _ ⟨by
              simp only
              unfold leftL at hrz ⊢
              rw [hsn, if_neg (by simpa using h36), List.append_nil]
              exact hrz.mod (Mod.drew No _) (fun _ _ h => h), hfz, fun a ha => (hokz a ha).mod (Mod.drew _ _), hg.trans (Mod.drew _ _), by simp only; omega⟩ (by simp only; omega)) ⟨rfl, rfl, rfl, rfl, rfl, rfl, trivial⟩
      · have ej : al.take j = al := List.take_of_length_le (by omega)
        rw [ej] at hrz hlz
        have hL : (leftL al s.id).map pub = leftA (fun a : AlT => a.1) (playS r (l.take k)).2 s.id := by rw [leftL_pub, hal]
        have hokL : ∀ a ∈ leftL al s.id, AlOk (fun b => M b ∨ z.ownBlock = some b) w2 a := fun a ha => hokz a (mem_leftL ha)
        generalize leftL al s.id = L at *
        have hck2 := hck.grow hg
        have hzg := hg.size
        have hc12 := fun q y hq => hg.cell (hc11 q y hq) (fun h => h)
        have hM2 : ∀ b, M b → b < w2.heap.size := fun b hb => by have := hM b hb; omega
        refine RK.exit rfl ?_
        refine RK.seq ?_
        refine RK.region ?_
        iterate 2 refine RL.p rfl rfl ?_
        refine RL.done ?_
        iterate 2 refine RK.seq ?_
        refine RK.region ?_
        iterate 2 refine RL.p rfl rfl ?_
        refine RL.q (.free rfl) rfl rfl (Yld.indexAddrN u47 i141 rfl rfl (by omega)) ?_
        refine RL.q (.free rfl) rfl rfl (Yld.fieldAddr fo141_0 rfl) ?_
        refine RL.q (.free rfl) rfl rfl (Yld.load p5 rfl (at1 (hc12 0 _ rfl))) ?_
        refine RL.q (.free rfl) rfl rfl (Yld.rem rfl rfl (by omega)) ?_
        refine RL.re (d := 50) rfl rfl (congrArg (Value.int .u8) (Int.tmod_eq_emod_of_nonneg hso.k.1)) ?_
        refine RL.p rfl rfl ?_
        refine RL.done ?_
        first | refine RK.condD rfl (fun h51 => ?_) (fun h51 => ?_) | refine RK.condN rfl (fun h51 => ?_) (fun h51 => ?_) | refine RK.cond rfl (fun h51 => ?_) (fun h51 => ?_)
        · have hkm : s.kind % 4 = 3 := h51
          refine RK.seq ?_
          refine RK.region ?_
          iterate 3 refine RL.p rfl rfl ?_
          refine RL.q (.free rfl) rfl rfl (Yld.indexAddrN u47 i141 rfl rfl (by omega)) ?_
          refine RL.q (.free rfl) rfl rfl (Yld.fieldAddr fo141_1 rfl) ?_
          refine RL.q (.free rfl) rfl rfl (Yld.load p3 rfl (at1 (hc12 1 _ rfl))) ?_
          refine RL.op (.free rfl) rfl rfl (Does.call rfl e30 (cacheDrop_ok M _ p mr mk r _ hck2 hMr hMk hM2 s.id (hB.mono (by omega)))) ?_
          rintro _ w3 ⟨rfl, hc3, hm3⟩
          refine RL.done ?_
          refine RK.exit rfl ?_
          refine RK.region ?_
          iterate 2 refine RL.p rfl rfl ?_
          refine RL.re (d := 19) rfl rfl (succ_i64 (by omega)) ?_
          refine RL.p rfl rfl ?_
          refine RL.done ?_
          exact RK.back (ih (k + 1, z) _ ⟨⟨L, by
              simp only
              rw [htk, playS_snoc, play1, if_pos hkm]; exact hL, hrz.mod hm3 (fun b e e2 => by have h1 := hfz b e; have h8 := hM _ hMr; have h9 := hM _ hMk; rcases e2 with rfl | rfl <;> omega), fun a ha => ((hokL a ha).off (M' := M) (fun b _ e => .inl e)).mod (hMm hm3)⟩, fun b e => by have := hfz b e; omega, by
              simp only
              rw [htk, playS_snoc, play1, if_pos hkm]; exact hc3, (hm.trans (Mod.any' hg)).trans hm3, by simp only; omega, by simp only; omega⟩ (by simp only; omega)) ⟨rfl, rfl, rfl, rfl, trivial⟩
        · have hkm : ¬ s.kind % 4 = 3 := h51
          have hM2' : ∀ b, (M b ∨ z.ownBlock = some b) → b < w2.heap.size := fun b e => e.elim (fun e => hM2 b e) (fun e => hrz.lt e)
          have hzM : ∀ b, z.ownBlock = some b → ¬ (b = mr ∨ b = mk) := fun b e e2 => by have h1 := hfz b e; have h8 := hM _ hMr; have h9 := hM _ hMk; rcases e2 with rfl | rfl <;> omega
          have hls2 : Sl M w2 s.v 1 s.labs.length (ints s.labs) := (hso.s.mod (hMm hm)).mod (Mod.any' hg)
          have hckp : CacheAt (fun b => M b ∨ z.ownBlock = some b) w2 p mr mk r (playS r (l.take k)).1 := hck.pass hg (fun b e => e.imp (fun e => e) (fun e => hfz b e))
          have hpl := hck.blk.lt
          refine RK.skip ?_
          refine RK.seq ?_
          refine RK.cutS (fun s2 : Nat × Value => [(0, pp p), (1, .slice (some ⟨b1, o1, none⟩) l.length cl), (5, z), (6, .int .i64 (k : Int)), (9, pp s2.1)]) (fun s2 w' => Grow w2 w' ∧ w2.heap.size ≤ s2.1 ∧ Blk w' s2.1 35 (alC (mkA s s2.2)) ∧ AlOk (fun b => M b ∨ z.ownBlock = some b) w' (mkA s s2.2)) (fun s2 w3 hQ => ?_) (fun hj => ?_)
          · obtain ⟨b9, v9⟩ := s2
            obtain ⟨hg23, hb9, hB9, hA9⟩ := hQ
            simp only at hb9 hB9 hA9
            have hz3 := hg23.size
            refine RK.seq ?_
            refine RK.region ?_
            refine RL.p rfl rfl ?_
            refine RL.q (.free rfl) rfl rfl (Yld.loadN (cs := alC (mkA s v9)) a35 rfl (atN (blk0' hB9))) ?_
            refine RL.op (.free rfl) rfl rfl (Does.call rfl e20 (cachePut_ok (fun b => M b ∨ z.ownBlock = some b) _ p mr mk r _ (hckp.grow hg23) (.inl hMr) (.inl hMk) (fun b hb => by have := hM2' b hb; omega) (mkA s v9) hA9 (hB.mono (by omega)))) ?_
            rintro _ w4 ⟨rfl, hc4, hm4⟩
            have hA4 : AlOk (fun b => M b ∨ z.ownBlock = some b) w4 (mkA s v9) := hA9.mod ((hMm hm4).mono fun b _ e => .inl e)
            refine RL.done ?_
            refine RK.region ?_
            refine RL.p rfl rfl ?_
            refine RL.q (.free rfl) rfl rfl (Yld.loadN (cs := alC (mkA s v9)) a35 rfl (atN (blk0' (hB9.mod hm4 (fun e => by have h8 := hM2 _ hMr; have h9 := hM2 _ hMk; rcases e with rfl | rfl <;> omega))))) ?_
            refine RL.op (.free rfl) rfl rfl (Does.slice1 u49 i35 rfl rfl rfl rfl rfl) ?_
            rintro _ w5 ⟨b81, rfl, hn81⟩
            have hz4 := hm4.size
            have hz5 := hn81.grow.size
            refine RL.op (.free rfl) rfl rfl (Does.append u49 i35 rfl rfl rfl rfl rfl (((hrz.mod hg23 (fun _ _ h => h)).mod hm4 hzM).mod hn81.grow (fun _ _ h => h)) (Sl.new hn81 3 1 rfl (by omega) (fun h => h)) (alC_one hA4) (by omega)) ?_
            rintro z6 w6 ⟨hr6, hm6, hu6⟩
            have hm26 : Mod (fun b => M b ∨ z.ownBlock = some b) w2 w6 := (((Mod.any' hg23).trans ((hMm hm4).mono fun b _ e => .inl e)).trans (Mod.any' hn81.grow)).trans (hm6.mono fun b _ e => .inr e)
            have hm06 : Mod (fun b => b = mr ∨ b = mk) w w6 := ((((hm.trans (Mod.any' hg)).trans (Mod.any' hg23)).trans hm4).trans (Mod.any' hn81.grow)).then hm6 (fun b hb e => by have := hfz b e; omega)
            refine RL.p rfl rfl ?_
            refine RL.done ?_
            refine RK.inBlock ?_
            refine RK.region ?_
            iterate 2 refine RL.p rfl rfl ?_
            refine RL.re (d := 19) rfl rfl (succ_i64 (by omega)) ?_
            refine RL.p rfl rfl ?_
            refine RL.done ?_
            exact RK.back (ih (k + 1, z6) _ ⟨⟨L ++ [mkA s v9], by
                simp only
                rw [htk, playS_snoc, play1, if_neg hkm, List.map_append, hL]; rfl, by
                simp only
                rw [List.flatMap_append, List.length_append]
                exact hr6, fun a ha => by
                rcases List.mem_append.1 ha with h1 | h1
                · exact ((hokL a h1).mod hm26).off (fun b _ e => .inl e)
                · rw [List.mem_singleton] at h1; subst h1
                  exact ((hA4.mod (Mod.any' hn81.grow)).mod (hm6.mono fun b _ e => .inr e)).off (fun b _ e => .inl e)⟩, fun b e => by
                rcases hu6 with h1 | h1
                · have := hfz b (h1 ▸ e); omega
                · rw [h1] at e; cases e; omega, by
                simp only
                rw [htk, playS_snoc, play1, if_neg hkm]
                exact ((hc4.grow hn81.grow).mod hm6 (fun b _ e => .inr e) (fun e => by have h1 := hfz p e; omega) (fun e => hzM _ e (.inl rfl)) (fun e => hzM _ e (.inr rfl))).off (fun b _ e => .inl e), hm06, by simp only; omega, by simp only; omega⟩ (by simp only; omega)) ⟨rfl, rfl, rfl, rfl, trivial⟩
          · refine RK.drawF No [(0, false), (1, false), (2, false), (3, false), (4, false), (5, false), (6, false), (7, false), (8, false), (9, false), (11, false), (12, false), (13, false), (14, false), (15, false)] 10 17 [(16, false), (17, true), (18, true)] [(10, true), (16, false), (18, true)] [] mixed (by kernel_rfl) ?_
            iterate 2 refine DL.p rfl rfl rfl ?_
            refine DL.qf rfl (.free rfl) rfl rfl (Yld.indexAddrN u47 i141 rfl rfl (by omega)) ?_
            refine DL.qf rfl (.free rfl) rfl rfl (Yld.fieldAddr fo141_1 rfl) ?_
            refine DL.q rfl (.free rfl) rfl rfl rfl (Yld.load p3 rfl (atM (hc12 1 _ rfl) (fun h => h))) (Mod.drew _ _) ?_
            iterate 2 refine DL.p rfl rfl rfl ?_
            refine DL.qf rfl (.free rfl) rfl rfl (Yld.indexAddrN u47 i141 rfl rfl (by omega)) ?_
            refine DL.qf rfl (.free rfl) rfl rfl (Yld.fieldAddr fo141_2 rfl) ?_
            refine DL.q rfl (.free rfl) rfl rfl rfl (Yld.load p37 rfl (atM (hc12 2 _ rfl) (fun h => h))) (Mod.drew _ _) ?_
            iterate 2 refine DL.p rfl rfl rfl ?_
            refine DL.qf rfl (.free rfl) rfl rfl (Yld.indexAddrN u47 i141 rfl rfl (by omega)) ?_
            refine DL.qf rfl (.free rfl) rfl rfl (Yld.fieldAddr fo141_3 rfl) ?_
            refine DL.q rfl (.free rfl) rfl rfl rfl (Yld.load p25 rfl (atM (hc12 3 _ rfl) (fun h => h))) (Mod.drew _ _) ?_
            refine DL.fork ?_ ?_
            · refine DL.op rfl (.free rfl) rfl rfl (Does.call rfl e31 (labels_ok M s.labs s.v _ (hls2.mod (Mod.drew _ _)) hso.r)) ?_
              rintro _ w3 ⟨ad3, c3, rfl, hr3, hf3, hg3⟩
              have hd3 := (Mod.drew No w2).trans hg3
              refine ⟨hd3, ?_⟩
              refine DL.qf rfl (.free rfl) rfl rfl (Yld.build (v := .agg (alC (mkA s (.slice ad3 (labelsS s.labs).length c3))).toArray) rfl (fun w => by kernel_rfl)) ?_
              refine DL.op rfl (.free rfl) rfl rfl (Does.alloc i35) ?_
              rintro _ w4 ⟨b9, rfl, hn9⟩
              have hd4 := hd3.trans hn9.grow
              refine ⟨hd4, ?_⟩
              have hz3 := hd3.size
              have ha9 := hn9.at_
              refine DL.op' rfl (.free rfl) rfl (Does.storeN i35 rfl rfl rfl rfl hn9.blk (Nat.le_refl 3)) ?_
              rintro _ w5 ⟨hb5, hm5, _⟩
              have hd5 : Grow w2 w5 := hd4.then hm5 (fun y hy e => by have e' : y = b9 := e; omega)
              refine ⟨hd5, ?_⟩
              have hA5 : AlOk (fun b => M b ∨ z.ownBlock = some b) w5 (mkA s (.slice ad3 (labelsS s.labs).length c3)) := ⟨(((Sl.own (M := fun b => (M b ∨ z.ownBlock = some b) ∨ b = b9) hr3 (fun b e h => by have h1 := hf3 b e; have h2 := hr3.lt e; simp only [World.drew] at h1; exact h.elim (fun h => by have := hM2' b h; omega) (fun h => by omega))).mod (Mod.any' hn9.grow)).mod (hm5.mono fun b _ e => .inr e)).off (by omega) (fun b _ e => .inl e), labelsS_z s.labs⟩
              refine DL.done ?_
              exact RK.back (hj (b9, _) _ ⟨hd5, by simp only; omega, hb5, hA5⟩) ⟨rfl, rfl, rfl, rfl, rfl, trivial⟩
            · refine DL.op rfl (.free rfl) rfl rfl (Does.alloc i35) ?_
              rintro _ w3 ⟨b9, rfl, hn9⟩
              have hd3 := (Mod.drew No w2).trans hn9.grow
              refine ⟨hd3, ?_⟩
              have ha9 := hn9.at_
              have hz9 := hn9.size
              refine DL.op rfl (.free rfl) rfl rfl (Does.call rfl e31 (labels_ok M s.labs s.v _ (hls2.mod (Mod.any' hd3)) hso.r)) ?_
              rintro _ w4 ⟨ad3, c3, rfl, hr3, hf3, hg3⟩
              have hd4 := hd3.trans hg3
              refine ⟨hd4, ?_⟩
              refine DL.qf rfl (.free rfl) rfl rfl (Yld.build (v := .agg (alC (mkA s (.slice ad3 (labelsS s.labs).length c3))).toArray) rfl (fun w => by kernel_rfl)) ?_
              refine DL.op' rfl (.free rfl) rfl (Does.storeN i35 rfl rfl rfl rfl (hn9.blk.mod hg3 (fun h => h)) (Nat.le_refl 3)) ?_
              rintro _ w5 ⟨hb5, hm5, _⟩
              simp only [World.drew] at ha9 hz9
              have hd5 : Grow w2 w5 := hd4.then hm5 (fun y hy e => by have e' : y = b9 := e; omega)
              refine ⟨hd5, ?_⟩
              have hA5 : AlOk (fun b => M b ∨ z.ownBlock = some b) w5 (mkA s (.slice ad3 (labelsS s.labs).length c3)) := ⟨((Sl.own (M := fun b => (M b ∨ z.ownBlock = some b) ∨ b = b9) hr3 (fun b e h => by have h1 := hf3 b e; exact h.elim (fun h => by have := hM2' b h; omega) (fun h => by omega))).mod (hm5.mono fun b _ e => .inr e)).off (by omega) (fun b _ e => .inl e), labelsS_z s.labs⟩
              refine DL.done ?_
              exact RK.back (hj (b9, _) _ ⟨hd5, by simp only; omega, hb5, hA5⟩) ⟨rfl, rfl, rfl, rfl, rfl, trivial⟩
    · refine RK.exit rfl ?_
      refine RK.seq ?_
      refine RK.region ?_
      iterate 2 refine RL.p rfl rfl ?_
      refine RL.done ?_
      refine RK.ret_of Tryz.func28 (res1 rfl rfl) ?_ _
      exact ⟨_, rfl, al, by rw [show l.take 60 = l.take k by rw [show k = 60 by omega]]; exact hal, hr, hok, hf, by rw [show l.take 60 = l.take k by rw [show k = 60 by omega]]; exact hck, hm⟩
  · have ek : l.take 60 = l.take k := by rw [List.take_of_length_le (by omega), List.take_of_length_le (by omega)]
    iterate 2 refine RL.no (.no rfl rfl rfl rfl) rfl rfl ?_
    refine RL.p rfl rfl ?_
    refine RL.done ?_
    refine RK.condF rfl ?_
    refine RK.exit rfl ?_
    refine RK.seq ?_
    refine RK.region ?_
    iterate 2 refine RL.p rfl rfl ?_
    refine RL.done ?_
    refine RK.ret_of Tryz.func28 (res1 rfl rfl) ?_ _
    exact ⟨_, rfl, al, by rw [ek]; exact hal, hr, hok, hf, by rw [ek]; exact hck, hm⟩
end Go.Proofs.YthbjfhhiajihfaaGreat
set_option linter.unusedVariables false
set_option linter.unusedSimpArgs false
set_option maxHeartbeats 2000000
set_option maxRecDepth 100000
namespace Go.Proofs.YthbjfhhiajihfaaGreat
open Go Go.X Go.Rex
def noB (b : Nat) : Bool := FloatKind.f64.format.order b b != some .eq
def ltF (a b : Nat) : Bool := FloatKind.f64.format.order a b == some .lt
structure Bn where
 k : Int
 lo : Nat
 hi : Nat
def bnC (b : Bn) : List Value := [.int .i64 b.k, .float .f64 b.lo, .float .f64 b.hi]
def bandOf (b : Bn) : Bd := if b.k.tmod 3 = 0 then ⟨true, 0, 0⟩ else if noB b.lo = true then ⟨true, 0, 0⟩ else if noB b.hi = true then ⟨true, 0, 0⟩ else if ltF b.hi b.lo = true then ⟨false, b.hi, b.lo⟩ else ⟨false, b.lo, b.hi⟩
theorem band_ok (b : Bn) (w : World) : Fx Tryz.prog 79 [.agg (bnC b).toArray] w (fun u w' => u = .agg (bdC (bandOf b)).toArray ∧ Grow w w') := by
 refine enter Tryz.func79 rfl rfl rfl _ (Pick.sub (l := [0]) (.cons rfl .nil)) ?_
 refine GG ?_
 refine OP (Does.box rfl) ?_
 rintro _ w1 ⟨b1, rfl, hn1⟩
 refine OP (Does.alloc i27) ?_
 rintro _ w2 ⟨b2, rfl, hn2⟩
 have hB1 : Blk w2 b1 44 [.int .i64 b.k, .float .f64 b.lo, .float .f64 b.hi] := hn1.blk.mod hn2.grow (fun h => h)
 refine GG ?_
 refine QQ (Yld.fieldAddr fo44_1 rfl) ?_
 refine QQ (Yld.load p25 rfl (at1 (hB1.cell rfl))) ?_
 refine QQ (Yld.fieldAddr fo44_2 rfl) ?_
 refine QQ (Yld.load p25 rfl (at1 (hB1.cell rfl))) ?_
 refine QQ (Yld.build (v := .agg #[.bool false, .float .f64 b.lo, .float .f64 b.hi]) rfl (fun w => by kernel_rfl)) ?_
 refine OP (Does.alloc i27) ?_
 rintro _ w3 ⟨b3, rfl, hn3⟩
 refine OQ (Does.storeN i27 rfl rfl rfl rfl hn3.blk (Nat.le_refl 3)) ?_
 rintro _ w4 ⟨hb4, hm4, _⟩
 have hs1 := hn1.at_
 have hs2 := hn2.at_
 have hs3 := hn3.at_
 have hz1 := hn1.size
 have hz2 := hn2.size
 have hne23 : ¬ b2 = b3 := by omega
 have hne13 : ¬ b1 = b3 := by omega
 have hg4 : Grow w w4 := ((hn1.grow.trans hn2.grow).trans hn3.grow).then hm4 (fun y hy e => by have e' : y = b3 := e; omega)
 have hB2 := (hn2.blk.mod hn3.grow (fun h => h)).mod hm4 hne23
 have hB3 : Blk w4 b3 27 [.bool false, .float .f64 b.lo, .float .f64 b.hi] := hb4
 refine GG ?_
 refine QQ (Yld.fieldAddr fo44_0 rfl) ?_
 refine QQ (Yld.load p3 rfl (at1 (((hB1.mod hn3.grow (fun h => h)).mod hm4 hne13).cell rfl))) ?_
 refine QQ (Yld.rem rfl rfl (by omega)) ?_
 refine GG ?_
 refine SP 13 (fun h12 => ?_) (fun h12 => ?_)
 ·iterate 5 refine RL.no (.no rfl rfl rfl rfl) rfl rfl ?_
  refine GG ?_
  iterate 5 refine RL.no (.no rfl rfl rfl rfl) rfl rfl ?_
  refine GG ?_
  refine RK.condT rfl ?_
  refine GG ?_
  refine QQ (Yld.build (v := .agg (bdC ⟨true, 0, 0⟩).toArray) rfl (fun w => by kernel_rfl)) ?_
  refine OQ (Does.storeN i27 rfl rfl rfl rfl hB2 (Nat.le_refl 3)) ?_
  rintro _ w9 ⟨hb9, hm9, _⟩
  refine RL.done ?_
  refine RK.ret_of Tryz.func79 (resC (cs := bdC (bandOf b)) rfl rfl a27 (by rw [show bandOf b = ⟨true, 0, 0⟩ by unfold bandOf; rw [if_pos h12]]; exact hb9)) ?_ _
  exact ⟨_, rfl, rfl, hg4.then hm9 (fun y hy e => by have e' : y = b2 := e; omega)⟩
 ·refine QQ (Yld.fieldAddr fo27_1 rfl) ?_
  refine QQ (Yld.load p25 rfl (at1 (hB3.cell rfl))) ?_
  refine QQ (Yld.fieldAddr fo27_1 rfl) ?_
  refine QQ (Yld.load p25 rfl (at1 (hB3.cell rfl))) ?_
  refine QQ (Yld.pure rfl) ?_
  refine GG ?_
  refine SP 20 (fun h18 => ?_) (fun h18 => ?_)
  ·have e18 : noB b.lo = true := by unfold noB; simpa using h18
   iterate 5 refine RL.no (.no rfl rfl rfl rfl) rfl rfl ?_
   refine GG ?_
   refine RK.condT rfl ?_
   refine GG ?_
   refine QQ (Yld.build (v := .agg (bdC ⟨true, 0, 0⟩).toArray) rfl (fun w => by kernel_rfl)) ?_
   refine OQ (Does.storeN i27 rfl rfl rfl rfl hB2 (Nat.le_refl 3)) ?_
   rintro _ w9 ⟨hb9, hm9, _⟩
   refine RL.done ?_
   refine RK.ret_of Tryz.func79 (resC (cs := bdC (bandOf b)) rfl rfl a27 (by rw [show bandOf b = ⟨true, 0, 0⟩ by unfold bandOf; rw [if_neg h12, if_pos e18]]; exact hb9)) ?_ _
   exact ⟨_, rfl, rfl, hg4.then hm9 (fun y hy e => by have e' : y = b2 := e; omega)⟩
  ·have e18 : ¬ noB b.lo = true := by unfold noB; simpa using h18
   refine QQ (Yld.fieldAddr fo27_2 rfl) ?_
   refine QQ (Yld.load p25 rfl (at1 (hB3.cell rfl))) ?_
   refine QQ (Yld.fieldAddr fo27_2 rfl) ?_
   refine QQ (Yld.load p25 rfl (at1 (hB3.cell rfl))) ?_
   refine QQ (Yld.pure rfl) ?_
   refine GG ?_
   refine CD (fun h25 => ?_) (fun h25 => ?_)
   ·have e25 : noB b.hi = true := by unfold noB; simpa using h25
    refine GG ?_
    refine QQ (Yld.build (v := .agg (bdC ⟨true, 0, 0⟩).toArray) rfl (fun w => by kernel_rfl)) ?_
    refine OQ (Does.storeN i27 rfl rfl rfl rfl hB2 (Nat.le_refl 3)) ?_
    rintro _ w9 ⟨hb9, hm9, _⟩
    refine RL.done ?_
    refine RK.ret_of Tryz.func79 (resC (cs := bdC (bandOf b)) rfl rfl a27 (by rw [show bandOf b = ⟨true, 0, 0⟩ by unfold bandOf; rw [if_neg h12, if_neg e18, if_pos e25]]; exact hb9)) ?_ _
    exact ⟨_, rfl, rfl, hg4.then hm9 (fun y hy e => by have e' : y = b2 := e; omega)⟩
   ·have e25 : ¬ noB b.hi = true := by unfold noB; simpa using h25
    refine GG ?_
    refine QQ (Yld.fieldAddr fo27_2 rfl) ?_
    refine QQ (Yld.load p25 rfl (at1 (hB3.cell rfl))) ?_
    refine QQ (Yld.fieldAddr fo27_1 rfl) ?_
    refine QQ (Yld.load p25 rfl (at1 (hB3.cell rfl))) ?_
    refine GG ?_
    refine CD (fun h32 => ?_) (fun h32 => ?_)
    ·have e32 : ltF b.hi b.lo = true := by unfold ltF; simpa using h32
     refine RK.region ?_
     refine QQ (Yld.fieldAddr fo27_2 rfl) ?_
     refine QQ (Yld.load p25 rfl (at1 (hB3.cell rfl))) ?_
     refine QQ (Yld.fieldAddr fo27_1 rfl) ?_
     refine QQ (Yld.load p25 rfl (at1 (hB3.cell rfl))) ?_
     refine QQ (Yld.fieldAddr fo27_1 rfl) ?_
     refine OQ (Does.store i25 rfl rfl rfl hB3 (.s .z)) ?_
     rintro _ w5 ⟨hb5, hm5, _⟩
     refine QQ (Yld.fieldAddr fo27_2 rfl) ?_
     refine OQ (Does.store i25 rfl rfl rfl hb5 (.s (.s .z))) ?_
     rintro _ w6 ⟨hb6, hm6, _⟩
     refine GG ?_
     refine QQ (Yld.loadN (cs := bdC ⟨false, b.hi, b.lo⟩) a27 rfl (atN (blk0' hb6))) ?_
     refine OQ (Does.storeN i27 rfl rfl rfl rfl ((hB2.mod hm5 hne23).mod hm6 hne23) (Nat.le_refl 3)) ?_
     rintro _ w9 ⟨hb9, hm9, _⟩
     refine RL.done ?_
     refine RK.ret_of Tryz.func79 (resC (cs := bdC (bandOf b)) rfl rfl a27 (by rw [show bandOf b = ⟨false, b.hi, b.lo⟩ by unfold bandOf; rw [if_neg h12, if_neg e18, if_neg e25, if_pos e32]]; exact hb9)) ?_ _
     exact ⟨_, rfl, rfl, ((hg4.then hm5 (fun y hy e => by have e' : y = b3 := e; omega)).then hm6 (fun y hy e => by have e' : y = b3 := e; omega)).then hm9 (fun y hy e => by have e' : y = b2 := e; omega)⟩
    ·have e32 : ¬ ltF b.hi b.lo = true := by unfold ltF; simpa using h32
     refine GG ?_
     refine QQ (Yld.loadN (cs := bdC ⟨false, b.lo, b.hi⟩) a27 rfl (atN (blk0' hB3))) ?_
     refine OQ (Does.storeN i27 rfl rfl rfl rfl hB2 (Nat.le_refl 3)) ?_
     rintro _ w9 ⟨hb9, hm9, _⟩
     refine RL.done ?_
     refine RK.ret_of Tryz.func79 (resC (cs := bdC (bandOf b)) rfl rfl a27 (by rw [show bandOf b = ⟨false, b.lo, b.hi⟩ by unfold bandOf; rw [if_neg h12, if_neg e18, if_neg e25, if_neg e32]]; exact hb9)) ?_ _
     exact ⟨_, rfl, rfl, hg4.then hm9 (fun y hy e => by have e' : y = b2 := e; omega)⟩
structure Rd where
 sv : Value
 tv : Value
 ev : Value
 src : List Dm
 tgt : List Dm
 bn : Bn
 eq : List Int
def rdC (r : Rd) : List Value := [r.sv, r.tv, .int .i64 r.bn.k, .float .f64 r.bn.lo, .float .f64 r.bn.hi, r.ev]
structure Rd.Ok (w : World) (r : Rd) : Prop where
 s : Sl No w r.sv 3 r.src.length (r.src.flatMap dmC)
 t : Sl No w r.tv 3 r.tgt.length (r.tgt.flatMap dmC)
 e : Sl No w r.ev 1 r.eq.length (ints r.eq)
theorem Rd.Ok.mod {w w' : World} {r : Rd} (h : r.Ok w) (hg : Grow w w') : r.Ok w' := ⟨h.s.mod hg, h.t.mod hg, h.e.mod hg⟩
def enL : List ByteArray := [⟨#[90, 111, 110, 101, 57]⟩, ⟨#[95, 120]⟩, ⟨#[104, 111, 115, 116]⟩, ⟨#[106, 111, 98]⟩, ⟨#[115, 101, 118]⟩]
def hasN (l : List Int) (nm : ByteArray) : Bool := (l.take 9).any fun n => decide (nmS n = nm)
def eqF (l : List Int) : List ByteArray → List ByteArray → List ByteArray
 | [], out => out
 | nm :: ns, out => if out.length < 4 then eqF l ns (if hasN l nm = true then out ++ [nm] else out) else out
def eqOf (l : List Int) : List ByteArray := eqF l enL []
theorem eqF_len (l : List Int) : ∀ (ns out : List ByteArray), out.length ≤ 4 → (eqF l ns out).length ≤ 4
 | [], out, h => h
 | nm :: ns, out, h => by
  unfold eqF
  split
  ·refine eqF_len l ns _ ?_
   split
   ·simp; omega
   ·exact h
  ·exact h
def ruOf (r : Rd) (v1 v2 v3 : Value) : Ru := ⟨v1, v2, v3, matsS r.src true, matsS r.tgt true, bandOf r.bn, eqOf r.eq⟩
theorem en_get : ∀ q, q < 5 → (enL.map Value.string).toArray[q]? = some (.string (enL.getD q ByteArray.empty)) := by
 intro q hq
 rcases q with _ | _ | _ | _ | _ | q <;> first | rfl | omega
theorem en_drop {i : Nat} (h : i < 5) : enL.drop i = enL.getD i ByteArray.empty :: enL.drop (i + 1) := by
 rcases i with _ | _ | _ | _ | _ | i <;> first | rfl | omega
theorem hasN_no {l : List Int} {nm : ByteArray} (h : ∀ (q : Nat) (z : Int), q < 9 → l[q]? = some z → nmS z ≠ nm) : hasN l nm = false := by
 unfold hasN
 rw [List.any_eq_false]
 intro z hz
 obtain ⟨q, hq⟩ := List.getElem?_of_mem hz
 have hq9 : q < 9 := by have := (List.getElem?_eq_some_iff.1 hq).1; simp at this; omega
 rw [List.getElem?_take_of_lt hq9] at hq
 simpa using h q z hq9 hq
theorem hasN_yes {l : List Int} {nm : ByteArray} {q : Nat} {z : Int} (hq : q < 9) (hz : l[q]? = some z) (h : nmS z = nm) : hasN l nm = true := by
 unfold hasN
 rw [List.any_eq_true]
 exact ⟨z, List.mem_of_getElem? (by rw [List.getElem?_take_of_lt hq]; exact hz), by simpa using h⟩
theorem rule62_ok (r : Rd) (w : World) (hr : r.Ok w) : Fx Tryz.prog 27 [.agg (rdC r).toArray] w (fun u w' => ∃ v1 v2 v3, u = .agg (ruC (ruOf r v1 v2 v3)).toArray ∧ (ruOf r v1 v2 v3).Ok (fun b => b < w.heap.size) w' ∧ Grow w w') := by
 obtain ⟨ade, ce, hve⟩ := hr.e.shape
 have hbig := hr.e.big
 refine enter Tryz.func27 rfl rfl rfl _ (Pick.sub (l := [0]) (.cons rfl .nil)) ?_
 refine GG ?_
 refine OP (Does.box rfl) ?_
 rintro _ w1 ⟨b1, rfl, hn1⟩
 refine OP (Does.alloc i30) ?_
 rintro _ w2 ⟨b2, rfl, hn2⟩
 have hB1 : Blk w2 b1 46 [r.sv, r.tv, .int .i64 r.bn.k, .float .f64 r.bn.lo, .float .f64 r.bn.hi, .slice ade r.eq.length ce] := by have := hn1.blk.mod hn2.grow (fun h => h); rw [← hve]; exact this
 have hg02 := hn1.grow.trans hn2.grow
 have hro := hr.mod hg02
 refine RL.done ?_
 refine RK.seq ?_
 refine RK.cutS (fun b3 : Nat => [(1, pp b1), (2, pp b2), (3, pp b3)]) (fun b3 w3 => ∃ v1 v2, w2.heap.size ≤ b3 ∧ Blk w3 b3 30 [v1, v2, .bool (bandOf r.bn).all, .float .f64 (bandOf r.bn).lo, .float .f64 (bandOf r.bn).hi, .slice none 0 0] ∧ SlM (fun b => b = b3 ∨ b < w2.heap.size) w3 v1 (matsS r.src true) ∧ SlM (fun b => b = b3 ∨ b < w2.heap.size) w3 v2 (matsS r.tgt true) ∧ Grow w2 w3) (fun b3 w3 hQ => ?_) (fun hj => ?_)
 ·obtain ⟨v1, v2, hb3, hB3, hs1, hs2, hg3⟩ := hQ
  have hg03 := hg02.trans hg3
  have hlt3 := hB3.lt
  have hlt2 := hn2.blk.lt
  have hat2 := hn2.at_
  have hat1 := hn1.at_
  have hz1 := hn1.size
  have hz2 := hn2.size
  have hne2 : ¬ b2 = b3 := by omega
  have hne1 : ¬ b1 = b3 := by omega
  obtain ⟨ad8, c8, rfl⟩ := hs1.shape
  obtain ⟨ad9, c9, rfl⟩ := hs2.shape
  refine GG ?_
  refine RK.loop (fun s : Nat × List ByteArray × Value => [(1, pp b1), (2, pp b2), (3, pp b3), (4, .int .i64 (s.1 : Int))]) (fun s w' => Blk w' b3 30 [.slice ad8 (matsS r.src true).length c8, .slice ad9 (matsS r.tgt true).length c9, .bool (bandOf r.bn).all, .float .f64 (bandOf r.bn).lo, .float .f64 (bandOf r.bn).hi, s.2.2] ∧ Row w' 9 1 s.2.2 s.2.1.length (strsV s.2.1) ∧ Fresh w3.heap.size s.2.2 ∧ Mod (· = b3) w3 w' ∧ s.1 ≤ 5 ∧ s.2.1.length ≤ 4 ∧ eqF r.eq (enL.drop s.1) s.2.1 = eqOf r.eq) (fun s => 5 - s.1) (0, [], .slice none 0 0) ⟨rfl, rfl, rfl, rfl, trivial⟩ ⟨hB3, by simpa [strsV] using Row.nil _ _ _, fun b e => by simp [Value.ownBlock] at e, Mod.refl _ _, by simp, by simp, rfl⟩ (fun s w4 hI ih => ?_)
  obtain ⟨i, out, u⟩ := s
  obtain ⟨hB4, hr4, hf4, hm4, hi, hl4, hst⟩ := hI
  simp only at hB4 hr4 hf4 hi hl4 hst
  obtain ⟨adu, cu, rfl, hcu⟩ := hr4.cap
  refine GG ?_
  refine SP 19 (fun h18 => ?_) (fun h18 => ?_)
  ·refine QQ (Yld.fieldAddr fo30_3 rfl) ?_
   refine QQ (Yld.load p28 rfl (at1 (hB4.cell rfl))) ?_
   refine QQ (Yld.lenSl u28 rfl) ?_
   refine QQ (Yld.pure rfl) ?_
   refine GG ?_
   refine CD (fun h23 => ?_) (fun h23 => ?_)
   ·rw [en_drop (by omega)] at hst
    unfold eqF at hst
    rw [if_pos (by omega)] at hst
    have hC1 := (hB1.mod hg3 (fun h => h)).mod hm4 hne1
    have hs4 := hm4.size
    refine GG ?_
    refine QQ (Yld.build (v := .agg (enL.map Value.string).toArray) rfl (fun w => by kernel_rfl)) ?_
    refine RL.p rfl rfl ?_
    refine QQ (Yld.idxArr Tryz.underlying139 i9 p9 rfl rfl (by omega) (en_get i (by omega))) ?_
    refine GG ?_
    refine RK.loop (fun j : Nat => [(1, pp b1), (2, pp b2), (3, pp b3), (4, .int .i64 (i : Int)), (5, .string (enL.getD i ByteArray.empty)), (6, .int .i64 (j : Int))]) (fun j w' => w4 = w' ∧ j ≤ r.eq.length ∧ j ≤ 9 ∧ ∀ (q : Nat) (z : Int), q < j → r.eq[q]? = some z → nmS z ≠ (enL.getD i ByteArray.empty)) (fun j => r.eq.length - j) 0 ⟨rfl, rfl, rfl, rfl, rfl, rfl, trivial⟩ ⟨rfl, by omega, by omega, fun q z h => by omega⟩ (fun j w' hI2 ih2 => ?_)
    obtain ⟨rfl, hj, hj9, hall⟩ := hI2
    refine GG ?_
    refine QQ (Yld.fieldAddr fo46_3 rfl) ?_
    refine QQ (Yld.load p37 rfl (at1 (hC1.cell rfl))) ?_
    refine QQ (Yld.lenSl u37 rfl) ?_
    refine GG ?_
    refine SP 35 (fun h34 => ?_) (fun h34 => ?_)
    ·iterate 2 refine QQ (Yld.pure rfl) ?_
     refine GG ?_
     refine CD (fun h37 => ?_) (fun h37 => ?_)
     ·obtain ⟨z, hz⟩ : ∃ z, r.eq[j]? = some z := ⟨r.eq[j]'(by omega), List.getElem?_eq_getElem (by omega)⟩
      have hre : Sl (· = b3) w4 (.slice ade r.eq.length ce) 1 r.eq.length (ints r.eq) := ((hve ▸ hr.e).off (M' := (· = b3)) (by omega) (fun b hb e => by have e' : b = b3 := e; omega)).mod (Mod.any' hg03) |>.mod hm4
      obtain ⟨b9, o9, c9', he9, _, _, hc9⟩ := hre.elem1 (k := j) (u := .int .i64 z) (by simp [hz])
      cases he9
      refine GG ?_
      refine QQ (Yld.fieldAddr fo46_3 rfl) ?_
      refine QQ (Yld.load p37 rfl (at1 (hC1.cell rfl))) ?_
      refine RL.p rfl rfl ?_
      refine QQ (Yld.indexAddrN u37 i3 rfl rfl (by omega)) ?_
      refine QQ (Yld.load p3 rfl (at1 (hc9 j (.int .i64 z) (by simp [hz])))) ?_
      refine OP (Does.call rfl e80 (nmK_ok _ _)) ?_
      rintro _ _ ⟨rfl, rfl⟩
      refine GG ?_
      refine CD (fun h48 => ?_) (fun h48 => ?_)
      ·have hyes := hasN_yes (l := r.eq) (by omega) hz h48
       rw [if_pos hyes] at hst
       refine GG ?_
       refine QQ (Yld.fieldAddr fo30_3 rfl) ?_
       refine QQ (Yld.load p28 rfl (at1 (hB4.cell rfl))) ?_
       refine RL.p rfl rfl ?_
       refine OP (Does.slice1 u28 i9 rfl rfl rfl rfl rfl) ?_
       rintro _ w5 ⟨b10, rfl, hn10⟩
       refine OP (Does.append u28 i9 rfl rfl rfl rfl rfl (hr4.mod hn10.grow (fun _ _ h => h)) (Sl.new hn10 1 1 rfl (by omega) (fun h => h)) (rfl) (by omega)) ?_
       rintro z6 w6 ⟨hr6, hm6, hu6⟩
       have hs10 := hn10.grow.size
       have hun : ¬ (Value.slice adu out.length cu).ownBlock = some b3 := fun e => by have := hf4 b3 e; omega
       have hB6 := (hB4.mod hn10.grow (fun h => h)).mod hm6 hun
       have hf6 : Fresh w3.heap.size z6 := fun b e => by
         rcases hu6 with h1 | h1
         ·exact hf4 b (h1 ▸ e)
         ·rw [h1] at e; cases e; omega
       obtain ⟨ad10, c10, rfl⟩ := hr6.slice
       refine QQ (Yld.fieldAddr fo30_3 rfl) ?_
       refine OQ (Does.store i28 rfl rfl rfl hB6 (.s (.s (.s (.s (.s .z)))))) ?_
       rintro _ w7 ⟨hb7, hm7, _⟩
       refine RL.done ?_
       refine RK.exit rfl ?_
       refine RK.inBlock ?_
       refine RK.region ?_
       iterate 2 refine RL.p rfl rfl ?_
       refine RL.re (d := 26) rfl rfl (succ_i64 (by omega)) ?_
       refine GG ?_
       exact RK.back (ih (i + 1, out ++ [(enL.getD i ByteArray.empty)], _) _ ⟨hb7, by
         simp only
         have e1 : strsV (out ++ [(enL.getD i ByteArray.empty)]) = strsV out ++ (Value.string (enL.getD i ByteArray.empty)).cells.toList := by simp [strsV, Value.cells]
         rw [e1, List.length_append]
         exact hr6.mod hm7 (fun b e e2 => by have e' : b = b3 := e2; have := hf6 b e; omega), hf6, ((hm4.then hn10.grow (fun _ _ h => h.elim)).then hm6 (fun b hb e => by have := hf4 b e; omega)).trans hm7, by simp only; omega, by simp only; rw [List.length_append]; simp; omega, hst⟩ (by simp only; omega)) ⟨rfl, rfl, rfl, rfl, trivial⟩
      ·refine RK.skip ?_
       refine RK.inBlock ?_
       refine RK.region ?_
       iterate 2 refine RL.p rfl rfl ?_
       refine RL.re (d := 40) rfl rfl (succ_i64 (by omega)) ?_
       refine GG ?_
       exact RK.back (ih2 (j + 1) _ ⟨rfl, by omega, by omega, fun q y hq hy => by by_cases e : q = j; (subst e; rw [hz] at hy; cases hy; exact h48); exact hall q y (by omega) hy⟩ (by omega)) ⟨rfl, rfl, rfl, rfl, rfl, rfl, trivial⟩
     ·have hno : hasN r.eq (enL.getD i ByteArray.empty) = false := hasN_no (fun q z hq hz => hall q z (by omega) hz)
      rw [if_neg (by rw [hno]; simp)] at hst
      refine RK.exit rfl ?_
      refine RK.inBlock ?_
      refine RK.region ?_
      iterate 2 refine RL.p rfl rfl ?_
      refine RL.re (d := 26) rfl rfl (succ_i64 (by omega)) ?_
      refine GG ?_
      exact RK.back (ih (i + 1, out, _) _ ⟨hB4, hr4, hf4, hm4, by simp only; omega, hl4, hst⟩ (by simp only; omega)) ⟨rfl, rfl, rfl, rfl, trivial⟩
    ·have hall9 := hall
     have hno : hasN r.eq (enL.getD i ByteArray.empty) = false := hasN_no (fun q z hq hz => hall q z (by have := (List.getElem?_eq_some_iff.1 hz).1; omega) hz)
     rw [if_neg (by rw [hno]; simp)] at hst
     iterate 2 refine RL.no (.no rfl rfl rfl rfl) rfl rfl ?_
     refine GG ?_
     refine RK.condF rfl ?_
     refine RK.exit rfl ?_
     refine RK.inBlock ?_
     refine RK.region ?_
     iterate 2 refine RL.p rfl rfl ?_
     refine RL.re (d := 26) rfl rfl (succ_i64 (by omega)) ?_
     refine GG ?_
     exact RK.back (ih (i + 1, out, _) _ ⟨hB4, hr4, hf4, hm4, by simp only; omega, hl4, hst⟩ (by simp only; omega)) ⟨rfl, rfl, rfl, rfl, trivial⟩
   ·have hfin : out = eqOf r.eq := by rw [← hst, en_drop (by omega)]; unfold eqF; rw [if_neg (by omega)]
    have hC2 : Blk w4 b2 30 _ := (hn2.blk.mod hg3 (fun h => h)).mod hm4 hne2
    subst hfin
    refine RK.exit rfl ?_
    refine GG ?_
    refine QQ (Yld.loadN (cs := ruC (ruOf r (.slice ad8 (matsS r.src true).length c8) (.slice ad9 (matsS r.tgt true).length c9) (.slice adu (eqOf r.eq).length cu))) a30 rfl (atN (blk0' hB4))) ?_
    refine OQ (Does.storeN i30 rfl rfl rfl rfl hC2 (Nat.le_refl 6)) ?_
    rintro _ w9 ⟨hb9, hm9, _⟩
    have hm9' : Mod (fun b => b = b3 ∨ b < w2.heap.size) w4 w9 := hm9.mono fun b _ e => .inr (by have e' : b = b2 := e; omega)
    refine RL.done ?_
    refine RK.ret_of Tryz.func27 (resC (cs := ruC (ruOf r (.slice ad8 (matsS r.src true).length c8) (.slice ad9 (matsS r.tgt true).length c9) (.slice adu (eqOf r.eq).length cu))) rfl rfl a30 hb9) ?_ _
    exact ⟨_, rfl, _, _, _, rfl, ⟨((hs1.mod (hm4.mono fun b _ e => .inl e)).mod hm9').off (by omega) (fun b _ e => .inr (by have e' : b < w.heap.size := e; omega)), ((hs2.mod (hm4.mono fun b _ e => .inl e)).mod hm9').off (by omega) (fun b _ e => .inr (by have e' : b < w.heap.size := e; omega)), ((Sl.own (M := fun b => b = b2 ∨ b < w.heap.size) hr4 (fun b e e2 => by have := hf4 b e; have := hg3.size; omega)).mod (hm9.mono fun b _ e => .inl e)).off (by omega) (fun b _ e => .inr e)⟩, (hg03.then hm4 (fun y hy e => by have e' : y = b3 := e; omega)).then hm9 (fun y hy e => by have e' : y = b2 := e; omega)⟩
  ·have hfin : out = eqOf r.eq := by rw [← hst, show i = 5 by omega]; rfl
   have hC2 : Blk w4 b2 30 _ := (hn2.blk.mod hg3 (fun h => h)).mod hm4 hne2
   subst hfin
   iterate 4 refine RL.no (.no rfl rfl rfl rfl) rfl rfl ?_
   refine GG ?_
   refine RK.condF rfl ?_
   refine RK.exit rfl ?_
   refine GG ?_
   refine QQ (Yld.loadN (cs := ruC (ruOf r (.slice ad8 (matsS r.src true).length c8) (.slice ad9 (matsS r.tgt true).length c9) (.slice adu (eqOf r.eq).length cu))) a30 rfl (atN (blk0' hB4))) ?_
   refine OQ (Does.storeN i30 rfl rfl rfl rfl hC2 (Nat.le_refl 6)) ?_
   rintro _ w9 ⟨hb9, hm9, _⟩
   have hm9' : Mod (fun b => b = b3 ∨ b < w2.heap.size) w4 w9 := hm9.mono fun b _ e => .inr (by have e' : b = b2 := e; omega)
   refine RL.done ?_
   refine RK.ret_of Tryz.func27 (resC (cs := ruC (ruOf r (.slice ad8 (matsS r.src true).length c8) (.slice ad9 (matsS r.tgt true).length c9) (.slice adu (eqOf r.eq).length cu))) rfl rfl a30 hb9) ?_ _
   exact ⟨_, rfl, _, _, _, rfl, ⟨((hs1.mod (hm4.mono fun b _ e => .inl e)).mod hm9').off (by omega) (fun b _ e => .inr (by have e' : b < w.heap.size := e; omega)), ((hs2.mod (hm4.mono fun b _ e => .inl e)).mod hm9').off (by omega) (fun b _ e => .inr (by have e' : b < w.heap.size := e; omega)), ((Sl.own (M := fun b => b = b2 ∨ b < w.heap.size) hr4 (fun b e e2 => by have := hf4 b e; have := hg3.size; omega)).mod (hm9.mono fun b _ e => .inl e)).off (by omega) (fun b _ e => .inr e)⟩, (hg03.then hm4 (fun y hy e => by have e' : y = b3 := e; omega)).then hm9 (fun y hy e => by have e' : y = b2 := e; omega)⟩
 ·refine RK.drawT No (.op 0 false (.op 1 false (.op 3 false (.op 4 false (.op 6 false (.op 7 false (.fork 2 (.fork 5 (.fork 8 (.op 9 false (.op 10 true (.op 11 true .nil))) 10 (.op 8 true (.op 9 false (.op 11 true .nil)))) 10 (.op 5 true (.op 8 true (.op 9 false (.op 11 true .nil))))) 10 (.op 2 true (.op 5 true (.op 8 true (.op 9 false (.op 11 true .nil)))))))))))) [] mixed (by kernel_rfl) ?_
  refine DT.qf rfl (.free rfl) rfl rfl (Yld.fieldAddr fo46_0 rfl) ?_
  refine DT.q rfl (.free rfl) rfl rfl rfl (Yld.load p42 rfl (atM (hB1.cell rfl) (fun h => h))) (Mod.drew _ _) ?_
  refine DT.qf rfl (.free rfl) rfl rfl (Yld.fieldAddr fo46_1 rfl) ?_
  refine DT.q rfl (.free rfl) rfl rfl rfl (Yld.load p42 rfl (atM (hB1.cell rfl) (fun h => h))) (Mod.drew _ _) ?_
  refine DT.qf rfl (.free rfl) rfl rfl (Yld.fieldAddr fo46_2 rfl) ?_
  refine DT.q rfl (.free rfl) rfl rfl rfl (Yld.loadN (cs := bnC r.bn) a44 rfl (atNM (fldN hB1 2 3) (fun h => h))) (Mod.drew _ _) ?_
  refine DT.fork ?_ ?_
  ·refine DT.op rfl (.free rfl) rfl rfl (Does.call rfl e72 (mats_ok No r.src true _ _ (hro.s.mod (Mod.drew _ _)))) ?_
   rintro z1 w3 ⟨hr1, hf1, hg3⟩
   have hd3 := (Mod.drew No w2).trans hg3
   refine ⟨hd3, ?_⟩
   refine DT.fork ?_ ?_
   ·refine DT.op rfl (.free rfl) rfl rfl (Does.call rfl e72 (mats_ok No r.tgt true _ _ (hro.t.mod hd3))) ?_
    rintro z2 w4 ⟨hr2, hf2, hg4⟩
    have hd4 := hd3.trans hg4
    refine ⟨hd4, ?_⟩
    obtain ⟨ad8, c8, rfl⟩ := hr1.slice
    obtain ⟨ad9, c9, rfl⟩ := hr2.slice
    refine DT.fork ?_ ?_
    ·refine DT.op rfl (.free rfl) rfl rfl (Does.call rfl e79 (band_ok r.bn _)) ?_
     rintro _ w5 ⟨rfl, hg5⟩
     refine ⟨hd4.trans hg5, ?_⟩
     refine DT.qf rfl (.free rfl) rfl rfl (Yld.build (v := .agg #[.slice ad8 (matsS r.src true).length c8, .slice ad9 (matsS r.tgt true).length c9, .bool (bandOf r.bn).all, .float .f64 (bandOf r.bn).lo, .float .f64 (bandOf r.bn).hi, .slice none 0 0]) rfl (fun w => by kernel_rfl)) ?_
     refine DT.op rfl (.free rfl) rfl rfl (Does.alloc i30) ?_
     rintro _ w6 ⟨b3, rfl, hn3⟩
     have gpre := (hd4.trans hg5).trans hn3.grow
     refine ⟨gpre, ?_⟩
     have hsz := hn3.at_
     have hs5 := (hd4.trans hg5).size
     have hs35 := (hg4.trans hg5).size
     have hs45 := hg5.size
     have hle : w2.heap.size ≤ b3 := by omega
     have hP3 := hn3.blk
     have hA := hr1.mod ((hg4.trans hg5).trans hn3.grow) (fun _ _ h => h)
     have hBB := hr2.mod (hg5.trans hn3.grow) (fun _ _ h => h)
     have hneA : ∀ b, (Value.slice ad8 (matsS r.src true).length c8).ownBlock = some b → ¬ (b = b3 ∨ b < w2.heap.size) := fun b e e2 => by have := hr1.lt (b := b) e; have := hf1 b e; have : w2.drew.heap.size = w2.heap.size := rfl; omega
     have hneB : ∀ b, (Value.slice ad9 (matsS r.tgt true).length c9).ownBlock = some b → ¬ (b = b3 ∨ b < w2.heap.size) := fun b e e2 => by have := hr2.lt (b := b) e; have := hf2 b e; have := hd3.size; omega
     refine DT.op' rfl (.free rfl) rfl (Does.storeN i30 rfl rfl rfl rfl hP3 (Nat.le_refl 6)) ?_
     rintro _ w7 ⟨hb7, hm7, _⟩
     have hg7 : Grow w2 w7 := gpre.then hm7 (fun y hy e => by have e' : y = b3 := e; omega)
     refine ⟨hg7, ?_⟩
     refine DT.done ?_
     exact RK.back (hj b3 _ ⟨_, _, hle, hb7, (Sl.own hA hneA).mod (hm7.mono fun b _ e => .inl e), (Sl.own hBB hneB).mod (hm7.mono fun b _ e => .inl e), hg7⟩) ⟨rfl, rfl, rfl, trivial⟩
    ·refine DT.op rfl (.free rfl) rfl rfl (Does.alloc i30) ?_
     rintro _ w5 ⟨b3, rfl, hn3⟩
     refine ⟨hd4.trans hn3.grow, ?_⟩
     refine DT.op rfl (.free rfl) rfl rfl (Does.call rfl e79 (band_ok r.bn _)) ?_
     rintro _ w6 ⟨rfl, hg5⟩
     have gpre := (hd4.trans hn3.grow).trans hg5
     refine ⟨gpre, ?_⟩
     have hsz := hn3.at_
     have hs5 := hd4.size
     have hs35 := hg4.size
     have hle : w2.heap.size ≤ b3 := by omega
     have hP3 := hn3.blk.mod hg5 (fun h => h)
     have hA := hr1.mod ((hg4.trans hn3.grow).trans hg5) (fun _ _ h => h)
     have hBB := hr2.mod (hn3.grow.trans hg5) (fun _ _ h => h)
     have hneA : ∀ b, (Value.slice ad8 (matsS r.src true).length c8).ownBlock = some b → ¬ (b = b3 ∨ b < w2.heap.size) := fun b e e2 => by have := hr1.lt (b := b) e; have := hf1 b e; have : w2.drew.heap.size = w2.heap.size := rfl; omega
     have hneB : ∀ b, (Value.slice ad9 (matsS r.tgt true).length c9).ownBlock = some b → ¬ (b = b3 ∨ b < w2.heap.size) := fun b e e2 => by have := hr2.lt (b := b) e; have := hf2 b e; have := hd3.size; omega
     refine DT.qf rfl (.free rfl) rfl rfl (Yld.build (v := .agg #[.slice ad8 (matsS r.src true).length c8, .slice ad9 (matsS r.tgt true).length c9, .bool (bandOf r.bn).all, .float .f64 (bandOf r.bn).lo, .float .f64 (bandOf r.bn).hi, .slice none 0 0]) rfl (fun w => by kernel_rfl)) ?_
     refine DT.op' rfl (.free rfl) rfl (Does.storeN i30 rfl rfl rfl rfl hP3 (Nat.le_refl 6)) ?_
     rintro _ w7 ⟨hb7, hm7, _⟩
     have hg7 : Grow w2 w7 := gpre.then hm7 (fun y hy e => by have e' : y = b3 := e; omega)
     refine ⟨hg7, ?_⟩
     refine DT.done ?_
     exact RK.back (hj b3 _ ⟨_, _, hle, hb7, (Sl.own hA hneA).mod (hm7.mono fun b _ e => .inl e), (Sl.own hBB hneB).mod (hm7.mono fun b _ e => .inl e), hg7⟩) ⟨rfl, rfl, rfl, trivial⟩
   ·refine DT.op rfl (.free rfl) rfl rfl (Does.alloc i30) ?_
    rintro _ w4 ⟨b3, rfl, hn3⟩
    have hd4 := hd3.trans hn3.grow
    refine ⟨hd4, ?_⟩
    refine DT.op rfl (.free rfl) rfl rfl (Does.call rfl e72 (mats_ok No r.tgt true _ _ (hro.t.mod hd4))) ?_
    rintro z2 w5 ⟨hr2, hf2, hg4⟩
    refine ⟨hd4.trans hg4, ?_⟩
    obtain ⟨ad8, c8, rfl⟩ := hr1.slice
    obtain ⟨ad9, c9, rfl⟩ := hr2.slice
    refine DT.op rfl (.free rfl) rfl rfl (Does.call rfl e79 (band_ok r.bn _)) ?_
    rintro _ w6 ⟨rfl, hg5⟩
    have gpre := (hd4.trans hg4).trans hg5
    refine ⟨gpre, ?_⟩
    have hsz := hn3.at_
    have hsz2 := hn3.size
    have hs5 := hd3.size
    have hle : w2.heap.size ≤ b3 := by omega
    have hP3 := hn3.blk.mod (hg4.trans hg5) (fun h => h)
    have hA := hr1.mod ((hn3.grow.trans hg4).trans hg5) (fun _ _ h => h)
    have hBB := hr2.mod hg5 (fun _ _ h => h)
    have hneA : ∀ b, (Value.slice ad8 (matsS r.src true).length c8).ownBlock = some b → ¬ (b = b3 ∨ b < w2.heap.size) := fun b e e2 => by have := hr1.lt (b := b) e; have := hf1 b e; have : w2.drew.heap.size = w2.heap.size := rfl; omega
    have hneB : ∀ b, (Value.slice ad9 (matsS r.tgt true).length c9).ownBlock = some b → ¬ (b = b3 ∨ b < w2.heap.size) := fun b e e2 => by have := hf2 b e; have := hd4.size; omega
    refine DT.qf rfl (.free rfl) rfl rfl (Yld.build (v := .agg #[.slice ad8 (matsS r.src true).length c8, .slice ad9 (matsS r.tgt true).length c9, .bool (bandOf r.bn).all, .float .f64 (bandOf r.bn).lo, .float .f64 (bandOf r.bn).hi, .slice none 0 0]) rfl (fun w => by kernel_rfl)) ?_
    refine DT.op' rfl (.free rfl) rfl (Does.storeN i30 rfl rfl rfl rfl hP3 (Nat.le_refl 6)) ?_
    rintro _ w7 ⟨hb7, hm7, _⟩
    have hg7 : Grow w2 w7 := gpre.then hm7 (fun y hy e => by have e' : y = b3 := e; omega)
    refine ⟨hg7, ?_⟩
    refine DT.done ?_
    exact RK.back (hj b3 _ ⟨_, _, hle, hb7, (Sl.own hA hneA).mod (hm7.mono fun b _ e => .inl e), (Sl.own hBB hneB).mod (hm7.mono fun b _ e => .inl e), hg7⟩) ⟨rfl, rfl, rfl, trivial⟩
  ·refine DT.op rfl (.free rfl) rfl rfl (Does.alloc i30) ?_
   rintro _ w3 ⟨b3, rfl, hn3⟩
   have hd3 := (Mod.drew No w2).trans hn3.grow
   refine ⟨hd3, ?_⟩
   refine DT.op rfl (.free rfl) rfl rfl (Does.call rfl e72 (mats_ok No r.src true _ _ (hro.s.mod hd3))) ?_
   rintro z1 w4 ⟨hr1, hf1, hg3⟩
   have hd4 := hd3.trans hg3
   refine ⟨hd4, ?_⟩
   refine DT.op rfl (.free rfl) rfl rfl (Does.call rfl e72 (mats_ok No r.tgt true _ _ (hro.t.mod hd4))) ?_
   rintro z2 w5 ⟨hr2, hf2, hg4⟩
   refine ⟨hd4.trans hg4, ?_⟩
   obtain ⟨ad8, c8, rfl⟩ := hr1.slice
   obtain ⟨ad9, c9, rfl⟩ := hr2.slice
   refine DT.op rfl (.free rfl) rfl rfl (Does.call rfl e79 (band_ok r.bn _)) ?_
   rintro _ w6 ⟨rfl, hg5⟩
   have gpre := (hd4.trans hg4).trans hg5
   refine ⟨gpre, ?_⟩
   have hsz := hn3.at_
   have hsz2 := hn3.size
   have hs5 : w2.drew.heap.size = w2.heap.size := rfl
   have hs6 := hg3.size
   have hle : w2.heap.size ≤ b3 := by omega
   have hP3 := hn3.blk.mod ((hg3.trans hg4).trans hg5) (fun h => h)
   have hA := hr1.mod (hg4.trans hg5) (fun _ _ h => h)
   have hBB := hr2.mod hg5 (fun _ _ h => h)
   have hneA : ∀ b, (Value.slice ad8 (matsS r.src true).length c8).ownBlock = some b → ¬ (b = b3 ∨ b < w2.heap.size) := fun b e e2 => by have := hf1 b e; omega
   have hneB : ∀ b, (Value.slice ad9 (matsS r.tgt true).length c9).ownBlock = some b → ¬ (b = b3 ∨ b < w2.heap.size) := fun b e e2 => by have := hf2 b e; have := hd4.size; omega
   refine DT.qf rfl (.free rfl) rfl rfl (Yld.build (v := .agg #[.slice ad8 (matsS r.src true).length c8, .slice ad9 (matsS r.tgt true).length c9, .bool (bandOf r.bn).all, .float .f64 (bandOf r.bn).lo, .float .f64 (bandOf r.bn).hi, .slice none 0 0]) rfl (fun w => by kernel_rfl)) ?_
   refine DT.op' rfl (.free rfl) rfl (Does.storeN i30 rfl rfl rfl rfl hP3 (Nat.le_refl 6)) ?_
   rintro _ w7 ⟨hb7, hm7, _⟩
   have hg7 : Grow w2 w7 := gpre.then hm7 (fun y hy e => by have e' : y = b3 := e; omega)
   refine ⟨hg7, ?_⟩
   refine DT.done ?_
   exact RK.back (hj b3 _ ⟨_, _, hle, hb7, (Sl.own hA hneA).mod (hm7.mono fun b _ e => .inl e), (Sl.own hBB hneB).mod (hm7.mono fun b _ e => .inl e), hg7⟩) ⟨rfl, rfl, rfl, trivial⟩
end Go.Proofs.YthbjfhhiajihfaaGreat
set_option linter.unusedVariables false
set_option linter.unusedSimpArgs false
set_option maxHeartbeats 2000000
set_option maxRecDepth 100000
namespace Go.Proofs.YthbjfhhiajihfaaGreat
open Go Go.X Go.Rex
theorem Ru.Ok.noM {M : Nat → Prop} {w : World} {r : Ru} (h : r.Ok M w) : r.Ok No w := ⟨h.s.noM, h.t.noM, h.e.noM⟩
abbrev RuP := List Mt × List Mt × Bd × List ByteArray
def ruP (r : Ru) : RuP := (r.src, r.tgt, r.bd, r.eq)
end Go.Proofs.YthbjfhhiajihfaaGreat
set_option linter.unusedVariables false
set_option linter.unusedSimpArgs false
set_option maxHeartbeats 4000000
set_option maxRecDepth 100000
namespace Go.Proofs.YthbjfhhiajihfaaGreat
open Go Go.X Go.Rex
theorem eqOf_len (l : List Int) : (eqOf l).length ≤ 4 := eqF_len l enL [] (by simp)
theorem ruOf_few (rd : Rd) (v1 v2 v3 : Value) : (ruOf rd v1 v2 v3).Few := ⟨Nat.le_trans (matsS_len _ _) (by omega), Nat.le_trans (matsS_len _ _) (by omega), Nat.le_trans (eqOf_len _) (by omega)⟩
end Go.Proofs.YthbjfhhiajihfaaGreat
set_option linter.unusedVariables false
set_option linter.unusedSimpArgs false
set_option maxHeartbeats 4000000
set_option maxRecDepth 100000
namespace Go.Proofs.YthbjfhhiajihfaaGreat
open Go Go.X Go.Rex
theorem addStr {P : Program} {n : Nat} {C : World → Prop} {e : Env} {d : Option Tmp} {t : Nat} {x y : Operand} {t' ty : TypeId} {pos : String} {af : Array Edge} {g : Option (Nat × Bool)} {a b : ByteArray} (hx : ev e x = some (.string a)) (hy : ev e y = some (.string b)) (hb : a.size + b.size ≤ 9223372036854775807) :
  Yld P n C e ⟨d, .binOp .add t x y t', ty, pos, af, g⟩ (.string (a ++ b)) := by
 intro ac ha w _
 simp [execOp, ha.ev hx, ha.ev hy, eqGuard, binOp, Op.stringOp]
 omega
theorem rput_ok (n : Nat) (hn : n < 18446744073709551616) (w : World) : Fx Tryz.prog 151 [.int .u64 n] w (fun u w' => Row w' 5 1 u (putB n).length (bytesV (putB n)) ∧ Fresh w.heap.size u ∧ Grow w w') := by
 refine enter Tryz.func151 rfl rfl rfl _ (Pick.sub (l := [0]) (.cons rfl .nil)) ?_
 refine GG ?_
 refine RK.loop (fun s : Nat × List UInt8 × Value => [(0, .int .u64 (s.1 : Int)), (3, s.2.2)]) (fun s w' => Row w' 5 1 s.2.2 s.2.1.length (bytesV s.2.1) ∧ Fresh w.heap.size s.2.2 ∧ Grow w w' ∧ s.1 < 18446744073709551616 ∧ s.2.1.length ≤ s.2.1.length ∧ s.2.1 ++ putB s.1 = putB n ∧ s.1 * 128 ^ s.2.1.length ≤ n) (fun s => s.1) (n, [], .slice none 0 0) ⟨rfl, rfl, trivial⟩ ⟨Row.nil _ _ _, fun b e => by simp [Value.ownBlock] at e, Mod.refl _ _, hn, Nat.le_refl _, by simp, by simp⟩ (fun s w' hI ih => ?_)
 obtain ⟨m, l, u⟩ := s
 obtain ⟨hr, hf, hg, hm, hl, hst, hpw⟩ := hI
 simp only at hr hf hm hl hst hpw
 refine GG ?_
 refine CD (fun h5 => ?_) (fun h5 => ?_)
 ·have h128 : ¬ m < 128 := by omega
  have hl10 : l.length ≤ 10 := by
    rcases Nat.lt_or_ge 10 l.length with h | h
    ·have h1 : 128 ^ 10 ≤ 128 ^ l.length := Nat.pow_le_pow_right (by omega) (by omega)
     have h2 : 1 * 128 ^ l.length ≤ m * 128 ^ l.length := Nat.mul_le_mul_right _ (by omega)
     have h3 : (18446744073709551616 : Nat) < 128 ^ 10 := by decide
     omega
    ·exact h
  refine GG ?_
  refine QQ (Yld.rem rfl rfl (by omega)) ?_
  refine RL.re (d := 8) rfl rfl (congrArg (Value.int .u64) (show _ = ((m % 128 : Nat) : Int) by rw [Int.tmod_eq_emod_of_nonneg (by omega)]; omega)) ?_
  refine QQ (Yld.convI Tryz.underlying66 Tryz.underlying5 rfl) ?_
  refine RL.re (d := 9) rfl rfl (congrArg (Value.int .u8) (wrap_u8 (x := m % 128) (by omega))) ?_
  refine RL.p rfl rfl ?_
  refine RL.re (d := 10) rfl rfl (congrArg (Value.int .u8) (show _ = ((UInt8.ofNat (m % 128 + 128)).toNat : Int) by rw [ofNat_lo (by omega), IntKind.wrap_u8]; omega)) ?_
  refine OP (Does.slice1 u151 i5 rfl rfl rfl rfl rfl) ?_
  rintro _ w2 ⟨b2, rfl, hn2⟩
  refine OP (Does.append u151 i5 rfl rfl rfl rfl rfl (hr.mod hn2.grow (fun _ _ h => h)) (Sl.new hn2 1 1 rfl (by omega) (fun h => h)) (rfl) (by omega)) ?_
  rintro u3 w3 ⟨hr3, hm3, hu3⟩
  have hs2 := hn2.grow.size
  have hs0 := hg.size
  refine GG ?_
  refine QQ (Yld.quo rfl rfl (by omega)) ?_
  refine RL.re (d := 14) rfl rfl (congrArg (Value.int .u64) (show _ = ((m / 128 : Nat) : Int) by rw [Int.tdiv_eq_ediv_of_nonneg (by omega), IntKind.wrap_u64]; omega)) ?_
  refine GG ?_
  exact RK.back (ih (m / 128, l ++ [UInt8.ofNat (m % 128 + 128)], u3) _ ⟨by
    simp only
    rw [bytesV_app, List.length_append]; exact hr3, fun b e => by
    rcases hu3 with h1 | h1
    ·exact hf b (h1 ▸ e)
    ·rw [h1] at e; cases e; omega, (hg.trans hn2.grow).then hm3 (fun b hb e => by have := hf b e; omega), by simp only; omega, by simp only; omega, by simp only; rw [List.append_assoc, ← hst, putB_hi h128]; rfl, by
    simp only
    rw [List.length_append]
    have h1 : m / 128 * 128 ≤ m := Nat.div_mul_le_self m 128
    calc m / 128 * 128 ^ (l.length + 1) = m / 128 * 128 * 128 ^ l.length := by rw [Nat.pow_succ, Nat.mul_assoc, Nat.mul_comm 128]
     _ ≤ m * 128 ^ l.length := Nat.mul_le_mul_right _ h1
     _ ≤ n := hpw⟩ (by simp only; omega)) ⟨rfl, rfl, trivial⟩
 ·have h128 : m < 128 := by omega
  have hl20 : l.length ≤ 20 := by have h1 := putB_len n hn; have h2 := congrArg List.length hst; rw [List.length_append] at h2; omega
  refine RK.exit rfl ?_
  refine GG ?_
  refine QQ (Yld.convI Tryz.underlying66 Tryz.underlying5 rfl) ?_
  refine RL.re (d := 17) rfl rfl (congrArg (Value.int .u8) (lo_byte h128)) ?_
  refine OP (Does.slice1 u151 i5 rfl rfl rfl rfl rfl) ?_
  rintro _ w2 ⟨b2, rfl, hn2⟩
  refine OP (Does.append u151 i5 rfl rfl rfl rfl rfl (hr.mod hn2.grow (fun _ _ h => h)) (Sl.new hn2 1 1 rfl (by omega) (fun h => h)) (rfl) (by omega)) ?_
  rintro u3 w3 ⟨hr3, hm3, hu3⟩
  have hs2 := hn2.grow.size
  have hs0 := hg.size
  refine GG ?_
  refine RK.ret_of Tryz.func151 (res1 rfl rfl) ?_ _
  exact ⟨_, rfl, by
    rw [← hst, putB_lo h128, bytesV_app, List.length_append]; exact hr3, fun b e => by
    rcases hu3 with h1 | h1
    ·exact hf b (h1 ▸ e)
    ·rw [h1] at e; cases e; omega, (hg.trans hn2.grow).then hm3 (fun b hb e => by have := hf b e; omega)⟩
theorem rputT_ok (s : ByteArray) (hs : s.size ≤ 100000000) (w : World) : Fx Tryz.prog 91 [.string s] w (fun u w' => Row w' 5 1 u (putT s).length (bytesV (putT s)) ∧ Fresh w.heap.size u ∧ Grow w w') := by
 refine enter Tryz.func91 rfl rfl rfl _ (Pick.sub (l := [0]) (.cons rfl .nil)) ?_
 refine GG ?_
 refine QQ (Yld.lenStr u9 rfl) ?_
 refine QQ (Yld.convI Tryz.underlying3 Tryz.underlying66 rfl) ?_
 refine RL.re (d := 5) rfl rfl (congrArg (Value.int .u64) (wrap_u64 (x := s.size) (by omega))) ?_
 refine OP (Does.call rfl e151 (rput_ok s.size (by omega) _)) ?_
 rintro u1 w1 ⟨hr1, hf1, hg1⟩
 have hpl := putB_len s.size (by omega)
 refine RL.p rfl rfl ?_
 refine OP (Does.appendStr u151 Tryz.underlying9 i5 rfl rfl hr1 hf1 hg1.size (by omega)) ?_
 rintro u2 w2 ⟨hr2, hf2, hm2⟩
 refine GG ?_
 refine RK.ret_of Tryz.func91 (res1 rfl rfl) ?_ _
 exact ⟨_, rfl, by
   unfold putT
   rw [bytesV_app, List.length_append, show s.data.toList.length = s.size from Array.length_toList]; exact hr2, hf2, hg1.then hm2 (fun b hb e => by have := hf1 b e; omega)⟩
theorem rproject_ok (M M' : Nat → Prop) (es : List ByteArray) (h4 : es.length ≤ 1000) (ls : List Lab) (hz : ∀ x ∈ ls, x.value.size ≤ 100000) (vl ve : Value) (w : World) (hl : SlL M w vl ls) (he : Sl M' w ve 1 es.length (strsV es)) :
  Fx Tryz.prog 34 [vl, ve] w (fun u w' => u = .string (keyT es ls) ∧ Grow w w') := by
 obtain ⟨ade, ce, rfl⟩ := he.shape
 have hbig := he.big
 refine enter Tryz.func34 rfl rfl rfl _ (Pick.sub (l := [0, 1]) (.cons rfl (.cons rfl .nil))) ?_
 refine GG ?_
 refine RK.loop (fun k : Nat => [(0, vl), (1, .slice ade es.length ce), (5, .string (keyT (es.take k) ls)), (6, .int .i64 (k : Int))]) (fun k w' => Grow w w' ∧ k ≤ es.length) (fun k => es.length - k) 0 ⟨rfl, rfl, rfl, rfl, trivial⟩ ⟨Mod.refl _ _, by omega⟩ (fun k w' hI ih => ?_)
 obtain ⟨hg, hk⟩ := hI
 refine GG ?_
 refine QQ (Yld.lenSl u28 rfl) ?_
 refine GG ?_
 refine CD (fun h10 => ?_) (fun h10 => ?_)
 ·obtain ⟨x, hx⟩ : ∃ x, es[k]? = some x := ⟨es[k]'(by omega), List.getElem?_eq_getElem (by omega)⟩
  obtain ⟨b2, o2, c', he1, _, _, hc1⟩ := (he.mod (Mod.any' hg)).elem1 (k := k) (u := .string x) (by simp [strsV, hx])
  cases he1
  refine GG ?_
  refine QQ (Yld.indexAddrN u28 i9 rfl rfl (by omega)) ?_
  refine QQ (Yld.load p9 rfl (at1 (hc1 k (.string x) (by simp [strsV, hx])))) ?_
  refine OP (Does.call rfl e85 (getLabel_ok M ls vl x _ (hl.mod (Mod.any' hg)))) ?_
  rintro _ _ ⟨rfl, rfl⟩
  have hsz := getL_size hz x
  refine OP (Does.call rfl e91 (rputT_ok (getL ls x) (by omega) _)) ?_
  rintro u3 w3 ⟨hr3, hf3, hg3⟩
  have hs1 : (keyT (es.take k) ls).size ≤ 100020 * 1000 := by
    have h1 := keyB_len hz (es.take k)
    have h2 : (es.take k).length ≤ 1000 := by simp; omega
    have h3 : (keyT (es.take k) ls).size = (keyB (es.take k) ls).length := by unfold keyT; simp [ByteArray.size]
    have h5 := Nat.mul_le_mul_left 100020 h2
    omega
  have hs2 := putT_len hz x
  have hsum : (keyT (es.take k) ls).size + (⟨(putT (getL ls x)).toArray⟩ : ByteArray).size ≤ 9223372036854775807 := by
    have h3 : (⟨(putT (getL ls x)).toArray⟩ : ByteArray).size = (putT (getL ls x)).length := by simp [ByteArray.size]
    omega
  refine QQ (Yld.bytesSl u151 Tryz.underlying5 Tryz.underlying9 rfl (fun w9 h9 => h9 ▸ Sl.own hr3 (fun _ _ h => h))) ?_
  refine QQ (addStr (a := keyT (es.take k) ls) (b := ⟨(putT (getL ls x)).toArray⟩) rfl rfl hsum) ?_
  refine RL.re (d := 22) rfl rfl (congrArg Value.string (show keyT (es.take k) ls ++ ⟨(putT (getL ls x)).toArray⟩ = keyT (es.take (k + 1)) ls by unfold keyT; rw [keyB_snoc hx]; refine ByteArray.ext ?_; simp)) ?_
  refine RL.p rfl rfl ?_
  refine RL.done ?_
  refine RK.inBlock ?_
  refine RK.region ?_
  iterate 2 refine RL.p rfl rfl ?_
  refine RL.re (d := 12) rfl rfl (succ_i64 (by omega)) ?_
  refine GG ?_
  exact RK.back (ih (k + 1) _ ⟨hg.trans hg3, by omega⟩ (by omega)) ⟨rfl, rfl, rfl, rfl, trivial⟩
 ·have ek : es.take k = es := List.take_of_length_le (by omega)
  refine RK.exit rfl ?_
  refine GG ?_
  refine RK.ret_of Tryz.func34 (res1 rfl rfl) ?_ _
  exact ⟨_, rfl, by rw [ek], hg⟩
theorem sameM_ok (M M' : Nat → Prop) (l1 : List Mt) (v1 v2 : Value) (w : World) (hv1 : SlM M w v1 l1) (hv2 : SlM M' w v2 l1) :
  Fx Tryz.prog 93 [v1, v2] w (fun u w' => u = .bool true ∧ Grow w w') := by
 obtain ⟨a1, c1, rfl⟩ := hv1.shape
 obtain ⟨a2, c2, rfl⟩ := hv2.shape
 have hbig := hv1.big
 refine enter Tryz.func93 rfl rfl rfl _ (Pick.sub (l := [0, 1]) (.cons rfl (.cons rfl .nil))) ?_
 refine GG ?_
 refine QQ (Yld.lenSl u24 rfl) ?_
 refine RL.p rfl rfl ?_
 refine QQ (Yld.lenSl u24 rfl) ?_
 refine GG ?_
 refine RK.condF (hcF rfl (by simp)) ?_
 refine GG ?_
 refine RK.loop (fun k : Nat => [(0, .slice a1 l1.length c1), (1, .slice a2 l1.length c2), (5, .int .i64 k)]) (fun k w' => Grow w w' ∧ k ≤ l1.length) (fun k => l1.length - k) 0 ⟨rfl, rfl, rfl, trivial⟩ ⟨Mod.refl _ _, by omega⟩ (fun k w' hI ih => ?_)
 obtain ⟨hg, hk⟩ := hI
 refine GG ?_
 refine QQ (Yld.lenSl u24 rfl) ?_
 refine GG ?_
 refine CD (fun h14 => ?_) (fun h14 => ?_)
 ·obtain ⟨x, hx⟩ : ∃ x, l1[k]? = some x := ⟨l1[k]'(by omega), List.getElem?_eq_getElem (by omega)⟩
  obtain ⟨b1, o1, c1', he1, _, _, hc1⟩ := hv1.elem mtC_len hx
  obtain ⟨b2, o2, c2', he2, _, _, hc2⟩ := hv2.elem mtC_len hx
  cases he1
  cases he2
  refine GG ?_
  refine RK.drawM No [(0, false), (1, false), (2, false), (3, false), (4, false), (5, false), (6, false), (7, false), (8, false)] [] mixed (by kernel_rfl) ?_
  refine GG ?_
  refine DF (Yld.indexAddrN u24 i135 rfl rfl (by omega)) ?_
  refine DQ (Yld.loadN (cs := mtC x) a135 rfl (atNM (fun q z hq => hg.cell (hc1 q z hq) (fun h => h)) (fun h => h))) (Mod.drew _ _) ?_
  refine GG ?_
  refine DF (Yld.indexAddrN u24 i135 rfl rfl (by omega)) ?_
  refine DQ (Yld.loadN (cs := mtC x) a135 rfl (atNM (fun q z hq => hg.cell (hc2 q z hq) (fun h => h)) (fun h => h))) (Mod.drew _ _) ?_
  refine DF (Yld.neqTrip trip135 rfl rfl) ?_
  refine DL.done ?_
  refine RK.condF (hcF rfl (by simp)) ?_
  refine RK.skip ?_
  refine RK.inBlock ?_
  refine RK.region ?_
  iterate 2 refine RL.p rfl rfl ?_
  refine RL.re (d := 16) rfl rfl (succ_i64 (by omega)) ?_
  refine GG ?_
  exact RK.back (ih (k + 1) _ ⟨hg.trans (Mod.drew _ _), by omega⟩ (by omega)) ⟨rfl, rfl, rfl, trivial⟩
 ·refine RK.exit rfl ?_
  refine GG ?_
  refine RK.ret_of Tryz.func93 (res1 rfl rfl) ?_ _
  exact ⟨_, rfl, rfl, hg⟩
theorem sameBand_ok (b : Bd) (w : World) : Fx Tryz.prog 94 [.agg (bdC b).toArray, .agg (bdC b).toArray] w (fun u w' => u = .bool true ∧ Grow w w') := by
 refine enter Tryz.func94 rfl rfl rfl _ (Pick.sub (l := [0, 1]) (.cons rfl (.cons rfl .nil))) ?_
 refine GG ?_
 refine OP (Does.box rfl) ?_
 rintro _ w2 ⟨b2, rfl, hn2⟩
 refine OP (Does.box rfl) ?_
 rintro _ w3 ⟨b3, rfl, hn3⟩
 have hB2 : Blk w3 b2 27 [.bool b.all, .float .f64 b.lo, .float .f64 b.hi] := hn2.blk.mod hn3.grow (fun h => h)
 have hB3 : Blk w3 b3 27 [.bool b.all, .float .f64 b.lo, .float .f64 b.hi] := hn3.blk
 refine GG ?_
 refine RK.drawM No [(0, false), (1, false), (2, false), (3, false), (4, false), (5, false), (6, false), (7, false), (9, false), (10, false), (8, true), (11, true), (12, false), (13, false), (14, false), (15, false), (16, false), (18, false), (19, false), (17, true), (20, true), (21, false), (22, false), (23, false)] [] mixed (by kernel_rfl) ?_
 refine DF (Yld.fieldAddr fo27_0 rfl) ?_
 refine DQ (Yld.load p4 rfl (atM (hB2.cell rfl) (fun h => h))) (Mod.drew _ _) ?_
 refine DF (Yld.fieldAddr fo27_0 rfl) ?_
 refine DQ (Yld.load p4 rfl (atM (hB3.cell rfl) (fun h => h))) (Mod.drew _ _) ?_
 refine DF (Yld.eqBool u4 rfl rfl) ?_
 refine DL.p rfl rfl rfl ?_
 refine DL.knownT (d := 10) rfl rfl (by simp) ?_
 refine DF (Yld.fieldAddr fo27_1 rfl) ?_
 refine DQ (Yld.load p25 rfl (atM (hB2.cell rfl) (fun h => h))) (Mod.drew _ _) ?_
 refine DF (Yld.fieldAddr fo27_1 rfl) ?_
 refine DQ (Yld.load p25 rfl (atM (hB3.cell rfl) (fun h => h))) (Mod.drew _ _) ?_
 refine OD (Does.call rfl e120 (bits1_ok b.lo _)) ?_
 rintro _ _ ⟨rfl, rfl⟩
 refine ⟨Mod.drew _ _, ?_⟩
 refine OD (Does.call rfl e120 (bits1_ok b.lo _)) ?_
 rintro _ _ ⟨rfl, rfl⟩
 refine ⟨Mod.drew _ _, ?_⟩
 refine DF (Yld.pure rfl) ?_
 refine GG ?_
 refine DL.knownT (d := 19) rfl rfl (by simp) ?_
 refine DF (Yld.fieldAddr fo27_2 rfl) ?_
 refine DQ (Yld.load p25 rfl (atM (hB2.cell rfl) (fun h => h))) (Mod.drew _ _) ?_
 refine DF (Yld.fieldAddr fo27_2 rfl) ?_
 refine DQ (Yld.load p25 rfl (atM (hB3.cell rfl) (fun h => h))) (Mod.drew _ _) ?_
 refine OD (Does.call rfl e120 (bits1_ok b.hi _)) ?_
 rintro _ _ ⟨rfl, rfl⟩
 refine ⟨Mod.drew _ _, ?_⟩
 refine OD (Does.call rfl e120 (bits1_ok b.hi _)) ?_
 rintro _ _ ⟨rfl, rfl⟩
 refine ⟨Mod.drew _ _, ?_⟩
 refine DF (Yld.pure rfl) ?_
 refine GG ?_
 refine RK.ret_of Tryz.func94 (res1 rfl rfl) ?_ _
 exact ⟨_, rfl, by simp, (hn2.grow.trans hn3.grow).trans (Mod.drew _ _)⟩
theorem alikeRu_ok (M M' : Nat → Prop) (r r' : Ru) (he : ruP r' = ruP r) (w : World) (hr : r.Ok M w) (hr' : r'.Ok M' w) : Fx Tryz.prog 36 [.agg (ruC r').toArray, .agg (ruC r).toArray] w (fun u w' => u = .bool true ∧ Grow w w') := by
 obtain ⟨s1, t1, e1, src, tgt, bd, eq⟩ := r
 obtain ⟨s2, t2, e2, src', tgt', bd', eq'⟩ := r'
 simp only [ruP, Prod.mk.injEq] at he
 obtain ⟨rfl, rfl, rfl, rfl⟩ := he
 obtain ⟨hs1, ht1, he1⟩ := hr
 obtain ⟨hs2, ht2, he2⟩ := hr'
 simp only at hs1 ht1 he1 hs2 ht2 he2
 obtain ⟨a1, c1, rfl⟩ := he1.shape
 obtain ⟨a2, c2, rfl⟩ := he2.shape
 have hbig := he1.big
 refine enter Tryz.func36 rfl rfl rfl _ (Pick.sub (l := [0, 1]) (.cons rfl (.cons rfl .nil))) ?_
 refine GG ?_
 refine OP (Does.box rfl) ?_
 rintro _ w2 ⟨b2, rfl, hn2⟩
 refine OP (Does.box rfl) ?_
 rintro _ w3 ⟨b3, rfl, hn3⟩
 have hg3 := hn2.grow.trans hn3.grow
 have hB2 : Blk w3 b2 30 [s2, t2, .bool bd'.all, .float .f64 bd'.lo, .float .f64 bd'.hi, .slice a2 eq'.length c2] := hn2.blk.mod hn3.grow (fun h => h)
 have hB3 : Blk w3 b3 30 [s1, t1, .bool bd'.all, .float .f64 bd'.lo, .float .f64 bd'.hi, .slice a1 eq'.length c1] := hn3.blk
 refine GG ?_
 refine QQ (Yld.fieldAddr fo30_3 rfl) ?_
 refine QQ (Yld.load p28 rfl (at1 (hB2.cell rfl))) ?_
 refine QQ (Yld.lenSl u28 rfl) ?_
 refine QQ (Yld.fieldAddr fo30_3 rfl) ?_
 refine QQ (Yld.load p28 rfl (at1 (hB3.cell rfl))) ?_
 refine QQ (Yld.lenSl u28 rfl) ?_
 refine GG ?_
 refine RL.knownF (d := 13) rfl rfl (by simp) ?_
 refine QQ (Yld.fieldAddr fo30_0 rfl) ?_
 refine QQ (Yld.load p24 rfl (at1 (hB2.cell rfl))) ?_
 refine QQ (Yld.fieldAddr fo30_0 rfl) ?_
 refine QQ (Yld.load p24 rfl (at1 (hB3.cell rfl))) ?_
 refine OP (Does.call rfl e93 (sameM_ok M' M src' _ _ _ (hs2.mod (Mod.any' hg3)) (hs1.mod (Mod.any' hg3)))) ?_
 rintro _ w4 ⟨rfl, hg4⟩
 have hB24 := hB2.mod hg4 (fun h => h)
 have hB34 := hB3.mod hg4 (fun h => h)
 refine QQ (Yld.pure rfl) ?_
 refine GG ?_
 refine RL.knownF (d := 21) rfl rfl (rfl) ?_
 refine QQ (Yld.fieldAddr fo30_1 rfl) ?_
 refine QQ (Yld.load p24 rfl (at1 (hB24.cell rfl))) ?_
 refine QQ (Yld.fieldAddr fo30_1 rfl) ?_
 refine QQ (Yld.load p24 rfl (at1 (hB34.cell rfl))) ?_
 refine OP (Does.call rfl e93 (sameM_ok M' M tgt' _ _ _ ((ht2.mod (Mod.any' hg3)).mod (Mod.any' hg4)) ((ht1.mod (Mod.any' hg3)).mod (Mod.any' hg4)))) ?_
 rintro _ w5 ⟨rfl, hg5⟩
 have hB25 := hB24.mod hg5 (fun h => h)
 have hB35 := hB34.mod hg5 (fun h => h)
 refine QQ (Yld.pure rfl) ?_
 refine GG ?_
 refine RL.knownF (d := 29) rfl rfl (rfl) ?_
 refine QQ (Yld.fieldAddr fo30_2 rfl) ?_
 refine QQ (Yld.loadN (cs := bdC bd') a27 rfl (atN (fldN hB25 2 3))) ?_
 refine QQ (Yld.fieldAddr fo30_2 rfl) ?_
 refine QQ (Yld.loadN (cs := bdC bd') a27 rfl (atN (fldN hB35 2 3))) ?_
 refine OP (Does.call rfl e94 (sameBand_ok bd' _)) ?_
 rintro _ w6 ⟨rfl, hg6⟩
 have hg36 := (hg4.trans hg5).trans hg6
 have hg06 := hg3.trans hg36
 refine QQ (Yld.pure rfl) ?_
 refine GG ?_
 refine RK.condF (hcF rfl (rfl)) ?_
 refine GG ?_
 refine RK.loop (fun k : Nat => [(2, pp b2), (3, pp b3), (5, .int .i64 k)]) (fun k w' => Grow w6 w' ∧ k ≤ eq'.length) (fun k => eq'.length - k) 0 ⟨rfl, rfl, rfl, trivial⟩ ⟨Mod.refl _ _, by omega⟩ (fun k w' hI ih => ?_)
 obtain ⟨hg, hk⟩ := hI
 have hB2k := (hB25.mod hg6 (fun h => h)).mod hg (fun h => h)
 have hB3k := (hB35.mod hg6 (fun h => h)).mod hg (fun h => h)
 refine GG ?_
 refine QQ (Yld.fieldAddr fo30_3 rfl) ?_
 refine QQ (Yld.load p28 rfl (at1 (hB2k.cell rfl))) ?_
 refine QQ (Yld.lenSl u28 rfl) ?_
 refine GG ?_
 refine CD (fun h41 => ?_) (fun h41 => ?_)
 ·obtain ⟨x, hx⟩ : ∃ x, eq'[k]? = some x := ⟨eq'[k]'(by omega), List.getElem?_eq_getElem (by omega)⟩
  obtain ⟨b4, o4, c4', hx1, _, _, hc4⟩ := he2.elem1 (k := k) (u := .string x) (by simp [strsV, hx])
  obtain ⟨b5, o5, c5', hx2, _, _, hc5⟩ := he1.elem1 (k := k) (u := .string x) (by simp [strsV, hx])
  cases hx1
  cases hx2
  refine GG ?_
  refine RK.drawM No [(0, false), (1, false), (2, false), (3, false), (4, false), (5, false), (6, false), (7, false), (8, false), (9, false), (10, false)] [] mixed (by kernel_rfl) ?_
  refine DF (Yld.fieldAddr fo30_3 rfl) ?_
  refine DQ (Yld.load p28 rfl (atM (hB2k.cell rfl) (fun h => h))) (Mod.drew _ _) ?_
  refine DL.p rfl rfl rfl ?_
  refine DF (Yld.indexAddrN u28 i9 rfl rfl (by omega)) ?_
  refine DQ (Yld.load p9 rfl (atM ((hg06.trans hg).cell (hc4 k (.string x) (by simp [strsV, hx])) (fun h => h)) (fun h => h))) (Mod.drew _ _) ?_
  refine DF (Yld.fieldAddr fo30_3 rfl) ?_
  refine DQ (Yld.load p28 rfl (atM (hB3k.cell rfl) (fun h => h))) (Mod.drew _ _) ?_
  refine DL.p rfl rfl rfl ?_
  refine DF (Yld.indexAddrN u28 i9 rfl rfl (by omega)) ?_
  refine DQ (Yld.load p9 rfl (atM ((hg06.trans hg).cell (hc5 k (.string x) (by simp [strsV, hx])) (fun h => h)) (fun h => h))) (Mod.drew _ _) ?_
  refine GG ?_
  refine RK.condF (hcF rfl (by simp)) ?_
  refine RK.skip ?_
  refine RK.inBlock ?_
  refine RK.region ?_
  iterate 2 refine RL.p rfl rfl ?_
  refine RL.re (d := 43) rfl rfl (succ_i64 (by omega)) ?_
  refine GG ?_
  exact RK.back (ih (k + 1) _ ⟨hg.trans (Mod.drew _ _), by omega⟩ (by omega)) ⟨rfl, rfl, rfl, trivial⟩
 ·refine RK.exit rfl ?_
  refine GG ?_
  refine RK.ret_of Tryz.func36 (res1 rfl rfl) ?_ _
  exact ⟨_, rfl, rfl, hg06.trans hg⟩
end Go.Proofs.YthbjfhhiajihfaaGreat
