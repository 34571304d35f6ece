/- What the claim stands on, part 2. Of own lemmas only those that it reaches. -/
import Derived.Test.YtbcbfjnlnmhpbaaGreatKy1
set_option linter.unusedVariables false
set_option linter.unusedSimpArgs false
set_option maxHeartbeats 400000
set_option maxRecDepth 100000
namespace Go.Proofs.YtbcbfjnlnmhpbaaGreat
open Go Go.X
end Go.Proofs.YtbcbfjnlnmhpbaaGreat
set_option linter.unusedVariables false
set_option linter.unusedSimpArgs false
set_option maxHeartbeats 400000
set_option maxRecDepth 100000
namespace Go.Proofs.YtbcbfjnlnmhpbaaGreat
open Go Go.X
abbrev Ris (l : List Int) : Prop := l.Pairwise fun x y => x < y
theorem Ris.nodup {l : List Int} (h : Ris l) : l.Nodup := List.Pairwise.imp (fun h e => by omega) h
theorem ext_ris {l1 l2 : List Int} (h1 : Ris l1) (h2 : Ris l2) (h : ∀ x, x ∈ l1 ↔ x ∈ l2) : l1 = l2 := by
  have hp : l1.Perm l2 := (List.perm_ext_iff_of_nodup h1.nodup h2.nodup).2 h
  exact List.Perm.eq_of_pairwise (le := fun a b => a < b) (fun a b _ _ h1 h2 => by omega) h1 h2 hp
theorem compactUpTo_mem (d : Array Int) : ∀ m, m ≤ d.size → ∀ x, x ∈ Lib.compactUpTo d m ↔ ∃ j, j < m ∧ d[j]! = x := by
  intro m
  induction m with
  | zero => intro _ x; simp [Lib.compactUpTo]
  | succ m ih =>
    intro hm x
    rw [Lib.compactUpTo_succ, List.mem_append, ih (by omega)]
    constructor
    · rintro (⟨j, hj, e⟩ | h)
      · exact ⟨j, by omega, e⟩
      · split at h
        · simp at h; exact ⟨m, by omega, h.symm⟩
        · simp at h
    · rintro ⟨j, hj, e⟩
      by_cases hjm : j = m
      · subst hjm
        cases hk : Lib.keeps d j with
        | true => right; simp [e]
        | false =>
          left
          simp only [Lib.keeps, decide_eq_false_iff_not, not_or, Decidable.not_not] at hk
          exact ⟨j - 1, by omega, by rw [← hk.2]; exact e⟩
      · exact .inl ⟨j, by omega, e⟩
theorem mem_compact (zs : List Int) (x : Int) : x ∈ Lib.compact zs ↔ x ∈ zs := by
  unfold Lib.compact
  rw [compactUpTo_mem _ _ (by simp)]
  constructor
  · rintro ⟨j, hj, e⟩
    have : zs.toArray[j]! = zs[j] := by simp [hj]
    rw [this] at e; subst e; exact List.getElem_mem _
  · intro h
    obtain ⟨j, hj, e⟩ := List.getElem_of_mem h
    exact ⟨j, hj, by simp [hj, e]⟩
theorem compact_ris (zs : List Int) (h : zs.Pairwise fun x y => x ≤ y) : Ris (Lib.compact zs) := by
  unfold Lib.compact
  have key : ∀ m, m ≤ zs.length → Ris (Lib.compactUpTo zs.toArray m) := by
    intro m
    induction m with
    | zero => intro _; simp [Lib.compactUpTo]
    | succ m ih =>
      intro hm
      rw [Lib.compactUpTo_succ]
      refine List.pairwise_append.2 ⟨ih (by omega), by split <;> simp, fun a ha b hb => ?_⟩
      obtain ⟨j, hj, rfl⟩ := (compactUpTo_mem _ m (by simp; omega) a).1 ha
      split at hb
      · rename_i hk
        have hb := List.mem_singleton.1 hb
        subst hb
        simp only [Lib.keeps, decide_eq_true_eq] at hk
        have e1 : ∀ i, (hi : i < zs.length) → zs.toArray[i]! = zs[i] := fun i hi => by simp [hi]
        rcases hk with rfl | hk
        · omega
        · rw [e1 m (by omega), e1 (m - 1) (by omega)] at hk
          rw [e1 j (by omega), e1 m (by omega)]
          have hle := List.pairwise_iff_getElem.1 h
          have h2 := hle (m - 1) m (by omega) (by omega) (by omega)
          by_cases hjm : j = m - 1
          · subst hjm; omega
          · have h3 := hle j (m - 1) (by omega) (by omega) (by omega)
            omega
      · simp at hb
  exact key _ (Nat.le_refl _)
theorem sortI_le (xs : List Int) : (sortI xs).Pairwise fun x y => x ≤ y := by
  have := List.pairwise_mergeSort (le := fun x y : Int => decide (x ≤ y)) (fun a b c h1 h2 => by simp only [decide_eq_true_eq] at *; omega) (fun a b => by simp only [Bool.or_eq_true, decide_eq_true_eq]; omega) xs
  exact this.imp fun h => by simpa using h
theorem mem_mkRow {xs : List Int} {x : Int} : x ∈ mkRow xs ↔ x ∈ xs := by
  unfold mkRow
  rw [mem_compact]
  simp [sortI]
theorem mkRow_ris (xs : List Int) : Ris (mkRow xs) := compact_ris _ (sortI_le xs)
theorem mkRow_id {xs : List Int} (h : Ris xs) : mkRow xs = xs := ext_ris (mkRow_ris xs) h fun _ => mem_mkRow
end Go.Proofs.YtbcbfjnlnmhpbaaGreat
set_option linter.unusedVariables false
set_option linter.unusedSimpArgs false
set_option maxHeartbeats 400000
set_option maxRecDepth 100000
namespace Go.Proofs.YtbcbfjnlnmhpbaaGreat
open Go Go.X
def cutRow (row : List Int) (id : Int) : List Int := (mkRow row).filter fun y => decide (y ≠ id)
theorem mem_cutRow {row : List Int} {id x : Int} : x ∈ cutRow row id ↔ x ∈ row ∧ x ≠ id := by simp [cutRow, mem_mkRow]
theorem cutRow_ris (row : List Int) (id : Int) : Ris (cutRow row id) := (mkRow_ris row).sublist List.filter_sublist
def cutRow1 (id : Int) (r : List (LabK × List Int)) (x : Lab) : List (LabK × List Int) :=
  if cutRow ((lookM r (labK x)).getD []) id = [] then cutM (putM r (labK x) (cutRow ((lookM r (labK x)).getD []) id)) (labK x) else putM r (labK x) (cutRow ((lookM r (labK x)).getD []) id)
def dropRows (rows : List (LabK × List Int)) (id : Int) (ls : List Lab) : List (LabK × List Int) := ls.foldl (cutRow1 id) rows
theorem cutRow_le (row : List Int) (id : Int) : (cutRow row id).length ≤ row.length := Nat.le_trans (List.length_filter_le _ _) (mkRow_le row)
theorem mem_cutM' {κ α : Type} [DecidableEq κ] {k : κ} {l : List (κ × α)} {t : κ × α} (h : t ∈ cutM l k) : t ∈ l := (cutM_sub k l).mem h
structure RowsOk (rows : List (LabK × List Int)) : Prop where
  nd : (rows.map (·.1)).Nodup
  row : ∀ t ∈ rows, Ris t.2 ∧ t.2 ≠ []
theorem mkRow_ne {xs : List Int} {x : Int} (h : x ∈ xs) : mkRow xs ≠ [] := fun e => by
  have := mem_mkRow.2 h
  rw [e] at this
  cases this
theorem RowsOk.add1 {rows : List (LabK × List Int)} (h : RowsOk rows) (id : Int) (x : Lab) : RowsOk (addRow1 id rows x) := by
  refine ⟨putM_nodup h.nd, fun t ht => ?_⟩
  rcases mem_putM ht with h1 | rfl
  · exact h.row t h1
  · exact ⟨mkRow_ris _, mkRow_ne (x := id) (by simp)⟩
theorem RowsOk.cut1 {rows : List (LabK × List Int)} (h : RowsOk rows) (id : Int) (x : Lab) : RowsOk (cutRow1 id rows x) := by
  unfold cutRow1
  have hp := putM_nodup (k := labK x) (v := cutRow ((lookM rows (labK x)).getD []) id) h.nd
  split
  · refine ⟨cutM_nodup hp, fun t ht => ?_⟩
    obtain ⟨h1, h2⟩ := (mem_cutM hp).1 ht
    rcases mem_putM h1 with h3 | rfl
    · exact h.row t h3
    · exact absurd rfl h2
  · rename_i hne
    refine ⟨hp, fun t ht => ?_⟩
    rcases mem_putM ht with h3 | rfl
    · exact h.row t h3
    · exact ⟨cutRow_ris _ _, hne⟩
theorem look_add1 (rows : List (LabK × List Int)) (id : Int) (x : Lab) (k : LabK) (j : Int) : j ∈ (lookM (addRow1 id rows x) k).getD [] ↔ j ∈ (lookM rows k).getD [] ∨ j = id ∧ labK x = k := by
  unfold addRow1
  rw [lookM_putM]
  by_cases hk : k = labK x
  · subst hk
    simp [mem_mkRow]
  · rw [if_neg hk]
    simp [Ne.symm hk]
theorem look_cut1 {rows : List (LabK × List Int)} (h : RowsOk rows) (id : Int) (x : Lab) (k : LabK) (j : Int) : j ∈ (lookM (cutRow1 id rows x) k).getD [] ↔ j ∈ (lookM rows k).getD [] ∧ ¬ (j = id ∧ labK x = k) := by
  have hp := putM_nodup (k := labK x) (v := cutRow ((lookM rows (labK x)).getD []) id) h.nd
  have e : (lookM (cutRow1 id rows x) k).getD [] = if k = labK x then cutRow ((lookM rows (labK x)).getD []) id else (lookM rows k).getD [] := by
    unfold cutRow1
    split
    · rename_i h0
      rw [lookM_cutM hp, lookM_putM]
      split
      · simp [h0]
      · rfl
    · rw [lookM_putM]
      split <;> rfl
  rw [e]
  by_cases hk : k = labK x
  · subst hk
    simp [mem_cutRow]
  · rw [if_neg hk]
    simp [Ne.symm hk]
theorem add_spec (id : Int) (ls : List Lab) : ∀ {rows : List (LabK × List Int)}, RowsOk rows → RowsOk (addRows rows id ls) ∧ ∀ k j, j ∈ (lookM (addRows rows id ls) k).getD [] ↔ j ∈ (lookM rows k).getD [] ∨ j = id ∧ ∃ x ∈ ls, labK x = k := by
  induction ls with
  | nil => intro rows h; exact ⟨h, by simp [addRows]⟩
  | cons x ls ih =>
    intro rows h
    obtain ⟨h1, h2⟩ := ih (h.add1 id x)
    refine ⟨h1, fun k j => ?_⟩
    have := h2 k j
    rw [look_add1] at this
    rw [show addRows rows id (x :: ls) = addRows (addRow1 id rows x) id ls from rfl, this]
    constructor
    · rintro ((h | ⟨rfl, h⟩) | ⟨rfl, y, hy, h⟩)
      · exact .inl h
      · exact .inr ⟨rfl, x, by simp, h⟩
      · exact .inr ⟨rfl, y, by simp [hy], h⟩
    · rintro (h | ⟨rfl, y, hy, h⟩)
      · exact .inl (.inl h)
      · rcases List.mem_cons.1 hy with rfl | hy
        · exact .inl (.inr ⟨rfl, h⟩)
        · exact .inr ⟨rfl, y, hy, h⟩
theorem drop_spec (id : Int) (ls : List Lab) : ∀ {rows : List (LabK × List Int)}, RowsOk rows → RowsOk (dropRows rows id ls) ∧ ∀ k j, j ∈ (lookM (dropRows rows id ls) k).getD [] ↔ j ∈ (lookM rows k).getD [] ∧ ¬ (j = id ∧ ∃ x ∈ ls, labK x = k) := by
  induction ls with
  | nil => intro rows h; exact ⟨h, by simp [dropRows]⟩
  | cons x ls ih =>
    intro rows h
    obtain ⟨h1, h2⟩ := ih (h.cut1 id x)
    refine ⟨h1, fun k j => ?_⟩
    have := h2 k j
    rw [look_cut1 h] at this
    rw [show dropRows rows id (x :: ls) = dropRows (cutRow1 id rows x) id ls from rfl, this]
    constructor
    · rintro ⟨⟨a, b⟩, c⟩
      refine ⟨a, ?_⟩
      rintro ⟨rfl, y, hy, h⟩
      rcases List.mem_cons.1 hy with rfl | hy
      · exact b ⟨rfl, h⟩
      · exact c ⟨rfl, y, hy, h⟩
    · rintro ⟨a, b⟩
      exact ⟨⟨a, fun ⟨e, h⟩ => b ⟨e, x, by simp, h⟩⟩, fun ⟨e, y, hy, h⟩ => b ⟨e, y, by simp [hy], h⟩⟩
structure IxI (has : List (Int × List Lab)) (rows : List (LabK × List Int)) : Prop where
  nd : (has.map (·.1)).Nodup
  ok : RowsOk rows
  mem : ∀ k id, id ∈ (lookM rows k).getD [] ↔ ∃ ls, (id, ls) ∈ has ∧ ∃ x ∈ ls, labK x = k
theorem IxI.nil : IxI [] [] := ⟨by simp, ⟨by simp, by simp⟩, by simp [lookM, placeM]⟩
theorem IxI.add {has : List (Int × List Lab)} {rows : List (LabK × List Int)} (h : IxI has rows) {id : Int} (hn : lookM has id = none) (ls : List Lab) : IxI (putM has id ls) (addRows rows id ls) := by
  obtain ⟨h1, h2⟩ := add_spec id ls h.ok
  refine ⟨putM_nodup h.nd, h1, fun k j => ?_⟩
  rw [h2, h.mem, putM_new hn]
  simp only [List.mem_append, List.mem_singleton, Prod.mk.injEq]
  constructor
  · rintro (⟨l, a, b⟩ | ⟨rfl, b⟩)
    · exact ⟨l, .inl a, b⟩
    · exact ⟨ls, .inr ⟨rfl, rfl⟩, b⟩
  · rintro ⟨l, a | ⟨rfl, rfl⟩, b⟩
    · exact .inl ⟨l, a, b⟩
    · exact .inr ⟨rfl, b⟩
theorem IxI.drop {has : List (Int × List Lab)} {rows : List (LabK × List Int)} (h : IxI has rows) (id : Int) : IxI (cutM has id) (dropRows rows id ((lookM has id).getD [])) := by
  obtain ⟨h1, h2⟩ := drop_spec id ((lookM has id).getD []) h.ok
  refine ⟨cutM_nodup h.nd, h1, fun k j => ?_⟩
  rw [h2, h.mem]
  constructor
  · rintro ⟨⟨l, a, b⟩, c⟩
    refine ⟨l, (mem_cutM h.nd).2 ⟨a, fun e => c ⟨e, ?_⟩⟩, b⟩
    simp only at e
    subst e
    rw [(lookM_iff h.nd).2 a]
    exact b
  · rintro ⟨l, a, b⟩
    obtain ⟨a1, a2⟩ := (mem_cutM h.nd).1 a
    exact ⟨⟨l, a1, b⟩, fun c => a2 c.1⟩
theorem IxI.keys {has : List (Int × List Lab)} {rows : List (LabK × List Int)} (h : IxI has rows) (k : LabK) : k ∈ rows.map (·.1) ↔ ∃ t ∈ has, ∃ x ∈ t.2, labK x = k := by
  constructor
  · intro hk
    obtain ⟨t, ht, rfl⟩ := List.mem_map.1 hk
    obtain ⟨_, hne⟩ := h.ok.row t ht
    obtain ⟨id, hid⟩ := List.exists_mem_of_ne_nil _ hne
    have hl : lookM rows t.1 = some t.2 := (lookM_iff h.ok.nd).2 ht
    obtain ⟨ls, a, b⟩ := (h.mem t.1 id).1 (by rw [hl]; exact hid)
    exact ⟨(id, ls), a, b⟩
  · rintro ⟨t, ht, hx⟩
    have hm := (h.mem k t.1).2 ⟨t.2, ht, hx⟩
    refine Classical.byContradiction fun hk => ?_
    rw [lookM_none.2 hk] at hm
    cases hm
theorem IxI.len {has : List (Int × List Lab)} {rows : List (LabK × List Int)} (h : IxI has rows) {D : List Lab} (hD : D.Nodup) (hm : ∀ x, x ∈ D ↔ ∃ t ∈ has, x ∈ t.2) : rows.length = D.length := by
  have hinj : ∀ x y : Lab, labK x = labK y → x = y := fun x y e => by
    cases x; cases y
    simp only [labK, Prod.mk.injEq] at e
    obtain ⟨rfl, rfl⟩ := e
    rfl
  have hD' : (D.map labK).Nodup := by
    refine List.pairwise_map.2 (hD.imp fun {a b} hne e => hne (hinj a b e))
  have hp : (rows.map (·.1)).Perm (D.map labK) := (List.perm_ext_iff_of_nodup h.ok.nd hD').2 fun k => by
    rw [h.keys, List.mem_map]
    constructor
    · rintro ⟨t, ht, x, hx, e⟩
      exact ⟨x, (hm x).2 ⟨t, ht, hx⟩, e⟩
    · rintro ⟨x, hx, e⟩
      obtain ⟨t, ht, hx'⟩ := (hm x).1 hx
      exact ⟨t, ht, x, hx', e⟩
  simpa using hp.length_eq
end Go.Proofs.YtbcbfjnlnmhpbaaGreat
set_option linter.unusedVariables false
set_option linter.unusedSimpArgs false
set_option maxHeartbeats 1000000
set_option maxRecDepth 100000
namespace Go.Proofs.YtbcbfjnlnmhpbaaGreat
open Go Go.X
theorem value2_ok (s : ByteArray) (w : World) : Fx Tryz.prog 147 [.string s] w (fun v w' => v = .bool (valS s) ∧ w = w') := by
  refine enter Tryz.func147 rfl rfl rfl _ (Pick.sub (l := [0]) (.cons rfl .nil)) ?_
  refine RK.seq ?_
  refine RK.region ?_
  refine RL.p rfl rfl ?_
  refine RL.done ?_
  refine RK.seq ?_
  refine RK.region ?_
  refine RL.p rfl rfl ?_
  refine RL.q (.free rfl) rfl rfl (Yld.lenStr u9 rfl) ?_
  iterate 2 refine RL.p rfl rfl ?_
  first | refine RL.splitD (d := 6) rfl rfl (fun h6 => ?_) (fun h6 => ?_) | refine RL.splitN (d := 6) rfl rfl (fun h6 => ?_) (fun h6 => ?_) | refine RL.split (d := 6) rfl rfl (fun h6 => ?_) (fun h6 => ?_)
  · refine RL.q (.yes rfl rfl rfl) rfl rfl (Yld.pure rfl) ?_
    refine RL.q (.yes rfl rfl rfl) rfl rfl (Yld.lenStr u9 rfl) ?_
    refine RL.q (.yes rfl rfl rfl) rfl rfl (Yld.pure rfl) ?_
    iterate 2 refine RL.p rfl rfl ?_
    refine RL.done ?_
    refine RK.ret_of Tryz.func147 (res1 rfl rfl) ?_ _
    exact ⟨_, rfl, congrArg _ (by rw [Bool.eq_iff_iff]; simp [valS]; omega), rfl⟩
  · iterate 3 refine RL.no (.no rfl rfl rfl rfl) rfl rfl ?_
    iterate 2 refine RL.p rfl rfl ?_
    refine RL.done ?_
    refine RK.ret_of Tryz.func147 (res1 rfl rfl) ?_ _
    exact ⟨_, rfl, congrArg _ (by rw [Bool.eq_iff_iff]; simp [valS]; omega), rfl⟩
def NmTo (s : ByteArray) (k : Nat) : Prop := (∀ i, i < k → chS (bt s i).toNat = true) ∧ (0 < k → letS (bt s 0).toNat = true)
theorem NmTo.no {s : ByteArray} {k : Nat} (hk : k < s.size) (h : letS (bt s k).toNat = false) (h' : k = 0 ∨ ¬ (48 ≤ ((bt s k).toNat : Int) ∧ ((bt s k).toNat : Int) ≤ 57)) : nameS s = false := by
  rcases h' with rfl | h'
  · exact name_no2 h
  · exact name_no3 hk (by simp [chS, h]; omega)
theorem NmTo.step {s : ByteArray} {k : Nat} (h : NmTo s k) (h' : letS (bt s k).toNat = true ∨ k ≠ 0 ∧ 48 ≤ ((bt s k).toNat : Int) ∧ ((bt s k).toNat : Int) ≤ 57) : NmTo s (k + 1) := by
  refine ⟨fun i hi => ?_, fun _ => ?_⟩
  · by_cases e : i = k
    · subst e
      rcases h' with h' | h'
      · simp [chS, h']
      · simp [chS]; exact .inr (by omega)
    · exact h.1 i (by omega)
  · by_cases e : k = 0
    · subst e
      rcases h' with h' | h'
      · exact h'
      · exact absurd rfl h'.1
    · exact h.2 (by omega)
theorem NmTo.end {s : ByteArray} {k : Nat} (h : NmTo s k) (hk : k = s.size) : nameS s = decide (1 ≤ s.size ∧ s.size ≤ 12) := by
  subst hk
  by_cases hs : 1 ≤ s.size ∧ s.size ≤ 12
  · rw [decide_eq_true hs]
    exact name_yes hs.1 hs.2 (h.2 (by omega)) h.1
  · rw [decide_eq_false hs]
    exact name_no1 hs
theorem name2_ok (s : ByteArray) (hsz : s.size ≤ 9223372036854775807) (w : World) : Fx Tryz.prog 119 [.string s] w (fun v w' => v = .bool (nameS s) ∧ w = w') := by
  refine enter Tryz.func119 rfl rfl rfl _ (Pick.sub (l := [0]) (.cons rfl .nil)) ?_
  refine RK.seq ?_
  refine RK.region ?_
  refine RL.p rfl rfl ?_
  refine RL.done ?_
  iterate 2 refine RK.seq ?_
  refine RK.region ?_
  refine RL.p rfl rfl ?_
  refine RL.done ?_
  refine RK.block ?_
  refine RK.loop (fun k : Nat => [(0, .string s), (3, .int .i64 k)]) (fun k w' => w = w' ∧ k ≤ s.size ∧ NmTo s k) (fun k => s.size - k) 0 ⟨rfl, rfl, trivial⟩ ⟨rfl, by omega, fun i hi => by omega, fun h => by omega⟩ (fun k w' hI ih => ?_)
  obtain ⟨rfl, hk, hn⟩ := hI
  iterate 2 refine RK.seq ?_
  refine RK.region ?_
  iterate 2 refine RL.p rfl rfl ?_
  refine RL.q (.free rfl) rfl rfl (Yld.lenStr u9 rfl) ?_
  refine RL.p rfl rfl ?_
  refine RL.done ?_
  first | refine RK.condD rfl (fun h9 => ?_) (fun h9 => ?_) | refine RK.condN rfl (fun h9 => ?_) (fun h9 => ?_) | refine RK.cond rfl (fun h9 => ?_) (fun h9 => ?_)
  · refine RK.skip ?_
    refine RK.seq ?_
    refine RK.block ?_
    refine RK.seq ?_
    refine RK.region ?_
    iterate 2 refine RL.p rfl rfl ?_
    refine RL.q (.free rfl) rfl rfl (Yld.idxStrN u9 rfl rfl (by omega)) ?_
    refine RL.p rfl rfl ?_
    refine RL.done ?_
    refine RK.seq ?_
    refine RK.region ?_
    iterate 3 refine RL.p rfl rfl ?_
    first | refine RL.splitD (d := 17) rfl rfl (fun h17 => ?_) (fun h17 => ?_) | refine RL.splitN (d := 17) rfl rfl (fun h17 => ?_) (fun h17 => ?_) | refine RL.split (d := 17) rfl rfl (fun h17 => ?_) (fun h17 => ?_)
    · iterate 2 refine RL.q (.yes rfl rfl rfl) rfl rfl (Yld.pure rfl) ?_
      iterate 2 refine RL.p rfl rfl ?_
      first | refine RL.splitD (d := 21) rfl rfl (fun h21 => ?_) (fun h21 => ?_) | refine RL.splitN (d := 21) rfl rfl (fun h21 => ?_) (fun h21 => ?_) | refine RL.split (d := 21) rfl rfl (fun h21 => ?_) (fun h21 => ?_)
      · iterate 6 refine RL.no (.no rfl rfl rfl rfl) rfl rfl ?_
        iterate 2 refine RL.p rfl rfl ?_
        iterate 2 refine RL.no (.no rfl rfl rfl rfl) rfl rfl ?_
        iterate 2 refine RL.p rfl rfl ?_
        refine RL.done ?_
        refine RK.seq ?_
        refine RK.region ?_
        iterate 3 refine RL.p rfl rfl ?_
        iterate 10 refine RL.no (.no rfl rfl rfl rfl) rfl rfl ?_
        refine RL.p rfl rfl ?_
        refine RL.done ?_
        refine RK.condF rfl ?_
        refine RK.skip ?_
        refine RK.inBlock ?_
        refine RK.region ?_
        iterate 2 refine RL.p rfl rfl ?_
        refine RL.re (d := 11) rfl rfl (succ_i64 (by omega)) ?_
        refine RL.p rfl rfl ?_
        refine RL.done ?_
        exact RK.back (ih (k + 1) _ ⟨rfl, by omega, hn.step (by first | exact .inl (by simp [letS]; omega) | exact .inr (by omega))⟩ (by omega)) ⟨rfl, rfl, trivial⟩
      · iterate 3 refine RL.q (.yes rfl rfl rfl) rfl rfl (Yld.pure rfl) ?_
        first | refine RL.splitD (d := 24) rfl rfl (fun h24 => ?_) (fun h24 => ?_) | refine RL.splitN (d := 24) rfl rfl (fun h24 => ?_) (fun h24 => ?_) | refine RL.split (d := 24) rfl rfl (fun h24 => ?_) (fun h24 => ?_)
        · iterate 3 refine RL.q (.yes rfl rfl rfl) rfl rfl (Yld.pure rfl) ?_
          iterate 2 refine RL.p rfl rfl ?_
          first | refine RL.splitD (d := 29) rfl rfl (fun h29 => ?_) (fun h29 => ?_) | refine RL.splitN (d := 29) rfl rfl (fun h29 => ?_) (fun h29 => ?_) | refine RL.split (d := 29) rfl rfl (fun h29 => ?_) (fun h29 => ?_)
          · iterate 2 refine RL.no (.no rfl rfl rfl rfl) rfl rfl ?_
            iterate 2 refine RL.p rfl rfl ?_
            refine RL.done ?_
            refine RK.seq ?_
            refine RK.region ?_
            iterate 3 refine RL.p rfl rfl ?_
            iterate 10 refine RL.no (.no rfl rfl rfl rfl) rfl rfl ?_
            refine RL.p rfl rfl ?_
            refine RL.done ?_
            refine RK.condF rfl ?_
            refine RK.skip ?_
            refine RK.inBlock ?_
            refine RK.region ?_
            iterate 2 refine RL.p rfl rfl ?_
            refine RL.re (d := 11) rfl rfl (succ_i64 (by omega)) ?_
            refine RL.p rfl rfl ?_
            refine RL.done ?_
            exact RK.back (ih (k + 1) _ ⟨rfl, by omega, hn.step (by first | exact .inl (by simp [letS]; omega) | exact .inr (by omega))⟩ (by omega)) ⟨rfl, rfl, trivial⟩
          · iterate 2 refine RL.q (.yes rfl rfl rfl) rfl rfl (Yld.pure rfl) ?_
            iterate 2 refine RL.p rfl rfl ?_
            refine RL.done ?_
            refine RK.seq ?_
            refine RK.region ?_
            iterate 3 refine RL.p rfl rfl ?_
            first | refine RL.splitD (d := 35) rfl rfl (fun h35 => ?_) (fun h35 => ?_) | refine RL.splitN (d := 35) rfl rfl (fun h35 => ?_) (fun h35 => ?_) | refine RL.split (d := 35) rfl rfl (fun h35 => ?_) (fun h35 => ?_)
            · iterate 3 refine RL.q (.yes rfl rfl rfl) rfl rfl (Yld.pure rfl) ?_
              first | refine RL.splitD (d := 38) rfl rfl (fun h38 => ?_) (fun h38 => ?_) | refine RL.splitN (d := 38) rfl rfl (fun h38 => ?_) (fun h38 => ?_) | refine RL.split (d := 38) rfl rfl (fun h38 => ?_) (fun h38 => ?_)
              · iterate 2 refine RL.no (.no rfl rfl rfl rfl) rfl rfl ?_
                iterate 2 refine RL.q (.yes rfl rfl rfl) rfl rfl (Yld.pure rfl) ?_
                iterate 2 refine RL.no (.no rfl rfl rfl rfl) rfl rfl ?_
                refine RL.q (.yes rfl rfl rfl) rfl rfl (Yld.pure rfl) ?_
                refine RL.p rfl rfl ?_
                refine RL.done ?_
                refine RK.condT rfl ?_
                refine RK.seq ?_
                refine RK.region ?_
                refine RL.p rfl rfl ?_
                refine RL.done ?_
                refine RK.ret_of Tryz.func119 (res1 rfl rfl) ?_ _
                exact ⟨_, rfl, congrArg _ (by first
                    | exact (NmTo.no (k := k) (by omega) (by simp [letS]; omega) (by omega)).symm
                    | (rw [hn.end (by omega)]; rw [Bool.eq_iff_iff]; simp; omega)), rfl⟩
              · iterate 4 refine RL.q (.yes rfl rfl rfl) rfl rfl (Yld.pure rfl) ?_
                first | refine RL.splitD (d := 42) rfl rfl (fun h42 => ?_) (fun h42 => ?_) | refine RL.splitN (d := 42) rfl rfl (fun h42 => ?_) (fun h42 => ?_) | refine RL.split (d := 42) rfl rfl (fun h42 => ?_) (fun h42 => ?_)
                · iterate 2 refine RL.no (.no rfl rfl rfl rfl) rfl rfl ?_
                  refine RL.q (.yes rfl rfl rfl) rfl rfl (Yld.pure rfl) ?_
                  refine RL.p rfl rfl ?_
                  refine RL.done ?_
                  refine RK.condT rfl ?_
                  refine RK.seq ?_
                  refine RK.region ?_
                  refine RL.p rfl rfl ?_
                  refine RL.done ?_
                  refine RK.ret_of Tryz.func119 (res1 rfl rfl) ?_ _
                  exact ⟨_, rfl, congrArg _ (by first
                      | exact (NmTo.no (k := k) (by omega) (by simp [letS]; omega) (by omega)).symm
                      | (rw [hn.end (by omega)]; rw [Bool.eq_iff_iff]; simp; omega)), rfl⟩
                · iterate 3 refine RL.q (.yes rfl rfl rfl) rfl rfl (Yld.pure rfl) ?_
                  refine RL.p rfl rfl ?_
                  refine RL.done ?_
                  first | refine RK.condD rfl (fun h46 => ?_) (fun h46 => ?_) | refine RK.condN rfl (fun h46 => ?_) (fun h46 => ?_) | refine RK.cond rfl (fun h46 => ?_) (fun h46 => ?_)
                  · refine RK.seq ?_
                    refine RK.region ?_
                    refine RL.p rfl rfl ?_
                    refine RL.done ?_
                    refine RK.ret_of Tryz.func119 (res1 rfl rfl) ?_ _
                    exact ⟨_, rfl, congrArg _ (by first
                        | exact (NmTo.no (k := k) (by omega) (by simp [letS]; omega) (by omega)).symm
                        | (rw [hn.end (by omega)]; rw [Bool.eq_iff_iff]; simp; omega)), rfl⟩
                  · refine RK.skip ?_
                    refine RK.inBlock ?_
                    refine RK.region ?_
                    iterate 2 refine RL.p rfl rfl ?_
                    refine RL.re (d := 11) rfl rfl (succ_i64 (by omega)) ?_
                    refine RL.p rfl rfl ?_
                    refine RL.done ?_
                    exact RK.back (ih (k + 1) _ ⟨rfl, by omega, hn.step (by first | exact .inl (by simp [letS]; omega) | exact .inr (by omega))⟩ (by omega)) ⟨rfl, rfl, trivial⟩
            · iterate 10 refine RL.no (.no rfl rfl rfl rfl) rfl rfl ?_
              refine RL.p rfl rfl ?_
              refine RL.done ?_
              refine RK.condF rfl ?_
              refine RK.skip ?_
              refine RK.inBlock ?_
              refine RK.region ?_
              iterate 2 refine RL.p rfl rfl ?_
              refine RL.re (d := 11) rfl rfl (succ_i64 (by omega)) ?_
              refine RL.p rfl rfl ?_
              refine RL.done ?_
              exact RK.back (ih (k + 1) _ ⟨rfl, by omega, hn.step (by first | exact .inl (by simp [letS]; omega) | exact .inr (by omega))⟩ (by omega)) ⟨rfl, rfl, trivial⟩
        · iterate 2 refine RL.no (.no rfl rfl rfl rfl) rfl rfl ?_
          refine RL.q (.yes rfl rfl rfl) rfl rfl (Yld.pure rfl) ?_
          iterate 2 refine RL.p rfl rfl ?_
          iterate 2 refine RL.q (.yes rfl rfl rfl) rfl rfl (Yld.pure rfl) ?_
          iterate 2 refine RL.p rfl rfl ?_
          refine RL.done ?_
          refine RK.seq ?_
          refine RK.region ?_
          iterate 3 refine RL.p rfl rfl ?_
          first | refine RL.splitD (d := 35) rfl rfl (fun h35 => ?_) (fun h35 => ?_) | refine RL.splitN (d := 35) rfl rfl (fun h35 => ?_) (fun h35 => ?_) | refine RL.split (d := 35) rfl rfl (fun h35 => ?_) (fun h35 => ?_)
          · iterate 3 refine RL.q (.yes rfl rfl rfl) rfl rfl (Yld.pure rfl) ?_
            first | refine RL.splitD (d := 38) rfl rfl (fun h38 => ?_) (fun h38 => ?_) | refine RL.splitN (d := 38) rfl rfl (fun h38 => ?_) (fun h38 => ?_) | refine RL.split (d := 38) rfl rfl (fun h38 => ?_) (fun h38 => ?_)
            · iterate 2 refine RL.no (.no rfl rfl rfl rfl) rfl rfl ?_
              iterate 2 refine RL.q (.yes rfl rfl rfl) rfl rfl (Yld.pure rfl) ?_
              iterate 2 refine RL.no (.no rfl rfl rfl rfl) rfl rfl ?_
              refine RL.q (.yes rfl rfl rfl) rfl rfl (Yld.pure rfl) ?_
              refine RL.p rfl rfl ?_
              refine RL.done ?_
              refine RK.condT rfl ?_
              refine RK.seq ?_
              refine RK.region ?_
              refine RL.p rfl rfl ?_
              refine RL.done ?_
              refine RK.ret_of Tryz.func119 (res1 rfl rfl) ?_ _
              exact ⟨_, rfl, congrArg _ (by first
                  | exact (NmTo.no (k := k) (by omega) (by simp [letS]; omega) (by omega)).symm
                  | (rw [hn.end (by omega)]; rw [Bool.eq_iff_iff]; simp; omega)), rfl⟩
            · iterate 4 refine RL.q (.yes rfl rfl rfl) rfl rfl (Yld.pure rfl) ?_
              first | refine RL.splitD (d := 42) rfl rfl (fun h42 => ?_) (fun h42 => ?_) | refine RL.splitN (d := 42) rfl rfl (fun h42 => ?_) (fun h42 => ?_) | refine RL.split (d := 42) rfl rfl (fun h42 => ?_) (fun h42 => ?_)
              · iterate 2 refine RL.no (.no rfl rfl rfl rfl) rfl rfl ?_
                refine RL.q (.yes rfl rfl rfl) rfl rfl (Yld.pure rfl) ?_
                refine RL.p rfl rfl ?_
                refine RL.done ?_
                refine RK.condT rfl ?_
                refine RK.seq ?_
                refine RK.region ?_
                refine RL.p rfl rfl ?_
                refine RL.done ?_
                refine RK.ret_of Tryz.func119 (res1 rfl rfl) ?_ _
                exact ⟨_, rfl, congrArg _ (by first
                    | exact (NmTo.no (k := k) (by omega) (by simp [letS]; omega) (by omega)).symm
                    | (rw [hn.end (by omega)]; rw [Bool.eq_iff_iff]; simp; omega)), rfl⟩
              · iterate 3 refine RL.q (.yes rfl rfl rfl) rfl rfl (Yld.pure rfl) ?_
                refine RL.p rfl rfl ?_
                refine RL.done ?_
                first | refine RK.condD rfl (fun h46 => ?_) (fun h46 => ?_) | refine RK.condN rfl (fun h46 => ?_) (fun h46 => ?_) | refine RK.cond rfl (fun h46 => ?_) (fun h46 => ?_)
                · refine RK.seq ?_
                  refine RK.region ?_
                  refine RL.p rfl rfl ?_
                  refine RL.done ?_
                  refine RK.ret_of Tryz.func119 (res1 rfl rfl) ?_ _
                  exact ⟨_, rfl, congrArg _ (by first
                      | exact (NmTo.no (k := k) (by omega) (by simp [letS]; omega) (by omega)).symm
                      | (rw [hn.end (by omega)]; rw [Bool.eq_iff_iff]; simp; omega)), rfl⟩
                · refine RK.skip ?_
                  refine RK.inBlock ?_
                  refine RK.region ?_
                  iterate 2 refine RL.p rfl rfl ?_
                  refine RL.re (d := 11) rfl rfl (succ_i64 (by omega)) ?_
                  refine RL.p rfl rfl ?_
                  refine RL.done ?_
                  exact RK.back (ih (k + 1) _ ⟨rfl, by omega, hn.step (by first | exact .inl (by simp [letS]; omega) | exact .inr (by omega))⟩ (by omega)) ⟨rfl, rfl, trivial⟩
          · iterate 10 refine RL.no (.no rfl rfl rfl rfl) rfl rfl ?_
            refine RL.p rfl rfl ?_
            refine RL.done ?_
            refine RK.condF rfl ?_
            refine RK.skip ?_
            refine RK.inBlock ?_
            refine RK.region ?_
            iterate 2 refine RL.p rfl rfl ?_
            refine RL.re (d := 11) rfl rfl (succ_i64 (by omega)) ?_
            refine RL.p rfl rfl ?_
            refine RL.done ?_
            exact RK.back (ih (k + 1) _ ⟨rfl, by omega, hn.step (by first | exact .inl (by simp [letS]; omega) | exact .inr (by omega))⟩ (by omega)) ⟨rfl, rfl, trivial⟩
    · iterate 2 refine RL.no (.no rfl rfl rfl rfl) rfl rfl ?_
      iterate 2 refine RL.p rfl rfl ?_
      iterate 3 refine RL.q (.yes rfl rfl rfl) rfl rfl (Yld.pure rfl) ?_
      first | refine RL.splitD (d := 24) rfl rfl (fun h24 => ?_) (fun h24 => ?_) | refine RL.splitN (d := 24) rfl rfl (fun h24 => ?_) (fun h24 => ?_) | refine RL.split (d := 24) rfl rfl (fun h24 => ?_) (fun h24 => ?_)
      · iterate 3 refine RL.q (.yes rfl rfl rfl) rfl rfl (Yld.pure rfl) ?_
        iterate 2 refine RL.p rfl rfl ?_
        first | refine RL.splitD (d := 29) rfl rfl (fun h29 => ?_) (fun h29 => ?_) | refine RL.splitN (d := 29) rfl rfl (fun h29 => ?_) (fun h29 => ?_) | refine RL.split (d := 29) rfl rfl (fun h29 => ?_) (fun h29 => ?_)
        · iterate 2 refine RL.no (.no rfl rfl rfl rfl) rfl rfl ?_
          iterate 2 refine RL.p rfl rfl ?_
          refine RL.done ?_
          refine RK.seq ?_
          refine RK.region ?_
          iterate 3 refine RL.p rfl rfl ?_
          iterate 10 refine RL.no (.no rfl rfl rfl rfl) rfl rfl ?_
          refine RL.p rfl rfl ?_
          refine RL.done ?_
          refine RK.condF rfl ?_
          refine RK.skip ?_
          refine RK.inBlock ?_
          refine RK.region ?_
          iterate 2 refine RL.p rfl rfl ?_
          refine RL.re (d := 11) rfl rfl (succ_i64 (by omega)) ?_
          refine RL.p rfl rfl ?_
          refine RL.done ?_
          exact RK.back (ih (k + 1) _ ⟨rfl, by omega, hn.step (by first | exact .inl (by simp [letS]; omega) | exact .inr (by omega))⟩ (by omega)) ⟨rfl, rfl, trivial⟩
        · iterate 2 refine RL.q (.yes rfl rfl rfl) rfl rfl (Yld.pure rfl) ?_
          iterate 2 refine RL.p rfl rfl ?_
          refine RL.done ?_
          refine RK.seq ?_
          refine RK.region ?_
          iterate 3 refine RL.p rfl rfl ?_
          first | refine RL.splitD (d := 35) rfl rfl (fun h35 => ?_) (fun h35 => ?_) | refine RL.splitN (d := 35) rfl rfl (fun h35 => ?_) (fun h35 => ?_) | refine RL.split (d := 35) rfl rfl (fun h35 => ?_) (fun h35 => ?_)
          · iterate 3 refine RL.q (.yes rfl rfl rfl) rfl rfl (Yld.pure rfl) ?_
            first | refine RL.splitD (d := 38) rfl rfl (fun h38 => ?_) (fun h38 => ?_) | refine RL.splitN (d := 38) rfl rfl (fun h38 => ?_) (fun h38 => ?_) | refine RL.split (d := 38) rfl rfl (fun h38 => ?_) (fun h38 => ?_)
            · iterate 2 refine RL.no (.no rfl rfl rfl rfl) rfl rfl ?_
              iterate 2 refine RL.q (.yes rfl rfl rfl) rfl rfl (Yld.pure rfl) ?_
              iterate 2 refine RL.no (.no rfl rfl rfl rfl) rfl rfl ?_
              refine RL.q (.yes rfl rfl rfl) rfl rfl (Yld.pure rfl) ?_
              refine RL.p rfl rfl ?_
              refine RL.done ?_
              refine RK.condT rfl ?_
              refine RK.seq ?_
              refine RK.region ?_
              refine RL.p rfl rfl ?_
              refine RL.done ?_
              refine RK.ret_of Tryz.func119 (res1 rfl rfl) ?_ _
              exact ⟨_, rfl, congrArg _ (by first
                  | exact (NmTo.no (k := k) (by omega) (by simp [letS]; omega) (by omega)).symm
                  | (rw [hn.end (by omega)]; rw [Bool.eq_iff_iff]; simp; omega)), rfl⟩
            · iterate 4 refine RL.q (.yes rfl rfl rfl) rfl rfl (Yld.pure rfl) ?_
              first | refine RL.splitD (d := 42) rfl rfl (fun h42 => ?_) (fun h42 => ?_) | refine RL.splitN (d := 42) rfl rfl (fun h42 => ?_) (fun h42 => ?_) | refine RL.split (d := 42) rfl rfl (fun h42 => ?_) (fun h42 => ?_)
              · iterate 2 refine RL.no (.no rfl rfl rfl rfl) rfl rfl ?_
                refine RL.q (.yes rfl rfl rfl) rfl rfl (Yld.pure rfl) ?_
                refine RL.p rfl rfl ?_
                refine RL.done ?_
                refine RK.condT rfl ?_
                refine RK.seq ?_
                refine RK.region ?_
                refine RL.p rfl rfl ?_
                refine RL.done ?_
                refine RK.ret_of Tryz.func119 (res1 rfl rfl) ?_ _
                exact ⟨_, rfl, congrArg _ (by first
                    | exact (NmTo.no (k := k) (by omega) (by simp [letS]; omega) (by omega)).symm
                    | (rw [hn.end (by omega)]; rw [Bool.eq_iff_iff]; simp; omega)), rfl⟩
              · iterate 3 refine RL.q (.yes rfl rfl rfl) rfl rfl (Yld.pure rfl) ?_
                refine RL.p rfl rfl ?_
                refine RL.done ?_
                first | refine RK.condD rfl (fun h46 => ?_) (fun h46 => ?_) | refine RK.condN rfl (fun h46 => ?_) (fun h46 => ?_) | refine RK.cond rfl (fun h46 => ?_) (fun h46 => ?_)
                · refine RK.seq ?_
                  refine RK.region ?_
                  refine RL.p rfl rfl ?_
                  refine RL.done ?_
                  refine RK.ret_of Tryz.func119 (res1 rfl rfl) ?_ _
                  exact ⟨_, rfl, congrArg _ (by first
                      | exact (NmTo.no (k := k) (by omega) (by simp [letS]; omega) (by omega)).symm
                      | (rw [hn.end (by omega)]; rw [Bool.eq_iff_iff]; simp; omega)), rfl⟩
                · refine RK.skip ?_
                  refine RK.inBlock ?_
                  refine RK.region ?_
                  iterate 2 refine RL.p rfl rfl ?_
                  refine RL.re (d := 11) rfl rfl (succ_i64 (by omega)) ?_
                  refine RL.p rfl rfl ?_
                  refine RL.done ?_
                  exact RK.back (ih (k + 1) _ ⟨rfl, by omega, hn.step (by first | exact .inl (by simp [letS]; omega) | exact .inr (by omega))⟩ (by omega)) ⟨rfl, rfl, trivial⟩
          · iterate 10 refine RL.no (.no rfl rfl rfl rfl) rfl rfl ?_
            refine RL.p rfl rfl ?_
            refine RL.done ?_
            refine RK.condF rfl ?_
            refine RK.skip ?_
            refine RK.inBlock ?_
            refine RK.region ?_
            iterate 2 refine RL.p rfl rfl ?_
            refine RL.re (d := 11) rfl rfl (succ_i64 (by omega)) ?_
            refine RL.p rfl rfl ?_
            refine RL.done ?_
            exact RK.back (ih (k + 1) _ ⟨rfl, by omega, hn.step (by first | exact .inl (by simp [letS]; omega) | exact .inr (by omega))⟩ (by omega)) ⟨rfl, rfl, trivial⟩
      · iterate 2 refine RL.no (.no rfl rfl rfl rfl) rfl rfl ?_
        refine RL.q (.yes rfl rfl rfl) rfl rfl (Yld.pure rfl) ?_
        iterate 2 refine RL.p rfl rfl ?_
        iterate 2 refine RL.q (.yes rfl rfl rfl) rfl rfl (Yld.pure rfl) ?_
        iterate 2 refine RL.p rfl rfl ?_
        refine RL.done ?_
        refine RK.seq ?_
        refine RK.region ?_
        iterate 3 refine RL.p rfl rfl ?_
        first | refine RL.splitD (d := 35) rfl rfl (fun h35 => ?_) (fun h35 => ?_) | refine RL.splitN (d := 35) rfl rfl (fun h35 => ?_) (fun h35 => ?_) | refine RL.split (d := 35) rfl rfl (fun h35 => ?_) (fun h35 => ?_)
        · iterate 3 refine RL.q (.yes rfl rfl rfl) rfl rfl (Yld.pure rfl) ?_
          first | refine RL.splitD (d := 38) rfl rfl (fun h38 => ?_) (fun h38 => ?_) | refine RL.splitN (d := 38) rfl rfl (fun h38 => ?_) (fun h38 => ?_) | refine RL.split (d := 38) rfl rfl (fun h38 => ?_) (fun h38 => ?_)
          · iterate 2 refine RL.no (.no rfl rfl rfl rfl) rfl rfl ?_
            iterate 2 refine RL.q (.yes rfl rfl rfl) rfl rfl (Yld.pure rfl) ?_
            iterate 2 refine RL.no (.no rfl rfl rfl rfl) rfl rfl ?_
            refine RL.q (.yes rfl rfl rfl) rfl rfl (Yld.pure rfl) ?_
            refine RL.p rfl rfl ?_
            refine RL.done ?_
            refine RK.condT rfl ?_
            refine RK.seq ?_
            refine RK.region ?_
            refine RL.p rfl rfl ?_
            refine RL.done ?_
            refine RK.ret_of Tryz.func119 (res1 rfl rfl) ?_ _
            exact ⟨_, rfl, congrArg _ (by first
                | exact (NmTo.no (k := k) (by omega) (by simp [letS]; omega) (by omega)).symm
                | (rw [hn.end (by omega)]; rw [Bool.eq_iff_iff]; simp; omega)), rfl⟩
          · iterate 4 refine RL.q (.yes rfl rfl rfl) rfl rfl (Yld.pure rfl) ?_
            first | refine RL.splitD (d := 42) rfl rfl (fun h42 => ?_) (fun h42 => ?_) | refine RL.splitN (d := 42) rfl rfl (fun h42 => ?_) (fun h42 => ?_) | refine RL.split (d := 42) rfl rfl (fun h42 => ?_) (fun h42 => ?_)
            · iterate 2 refine RL.no (.no rfl rfl rfl rfl) rfl rfl ?_
              refine RL.q (.yes rfl rfl rfl) rfl rfl (Yld.pure rfl) ?_
              refine RL.p rfl rfl ?_
              refine RL.done ?_
              refine RK.condT rfl ?_
              refine RK.seq ?_
              refine RK.region ?_
              refine RL.p rfl rfl ?_
              refine RL.done ?_
              refine RK.ret_of Tryz.func119 (res1 rfl rfl) ?_ _
              exact ⟨_, rfl, congrArg _ (by first
                  | exact (NmTo.no (k := k) (by omega) (by simp [letS]; omega) (by omega)).symm
                  | (rw [hn.end (by omega)]; rw [Bool.eq_iff_iff]; simp; omega)), rfl⟩
            · iterate 3 refine RL.q (.yes rfl rfl rfl) rfl rfl (Yld.pure rfl) ?_
              refine RL.p rfl rfl ?_
              refine RL.done ?_
              first | refine RK.condD rfl (fun h46 => ?_) (fun h46 => ?_) | refine RK.condN rfl (fun h46 => ?_) (fun h46 => ?_) | refine RK.cond rfl (fun h46 => ?_) (fun h46 => ?_)
              · refine RK.seq ?_
                refine RK.region ?_
                refine RL.p rfl rfl ?_
                refine RL.done ?_
                refine RK.ret_of Tryz.func119 (res1 rfl rfl) ?_ _
                exact ⟨_, rfl, congrArg _ (by first
                    | exact (NmTo.no (k := k) (by omega) (by simp [letS]; omega) (by omega)).symm
                    | (rw [hn.end (by omega)]; rw [Bool.eq_iff_iff]; simp; omega)), rfl⟩
              · refine RK.skip ?_
                refine RK.inBlock ?_
                refine RK.region ?_
                iterate 2 refine RL.p rfl rfl ?_
                refine RL.re (d := 11) rfl rfl (succ_i64 (by omega)) ?_
                refine RL.p rfl rfl ?_
                refine RL.done ?_
                exact RK.back (ih (k + 1) _ ⟨rfl, by omega, hn.step (by first | exact .inl (by simp [letS]; omega) | exact .inr (by omega))⟩ (by omega)) ⟨rfl, rfl, trivial⟩
        · iterate 10 refine RL.no (.no rfl rfl rfl rfl) rfl rfl ?_
          refine RL.p rfl rfl ?_
          refine RL.done ?_
          refine RK.condF rfl ?_
          refine RK.skip ?_
          refine RK.inBlock ?_
          refine RK.region ?_
          iterate 2 refine RL.p rfl rfl ?_
          refine RL.re (d := 11) rfl rfl (succ_i64 (by omega)) ?_
          refine RL.p rfl rfl ?_
          refine RL.done ?_
          exact RK.back (ih (k + 1) _ ⟨rfl, by omega, hn.step (by first | exact .inl (by simp [letS]; omega) | exact .inr (by omega))⟩ (by omega)) ⟨rfl, rfl, trivial⟩
  · refine RK.exit rfl ?_
    refine RK.seq ?_
    refine RK.region ?_
    refine RL.p rfl rfl ?_
    refine RL.q (.free rfl) rfl rfl (Yld.lenStr u9 rfl) ?_
    iterate 2 refine RL.p rfl rfl ?_
    first | refine RL.splitD (d := 50) rfl rfl (fun h50 => ?_) (fun h50 => ?_) | refine RL.splitN (d := 50) rfl rfl (fun h50 => ?_) (fun h50 => ?_) | refine RL.split (d := 50) rfl rfl (fun h50 => ?_) (fun h50 => ?_)
    · refine RL.q (.yes rfl rfl rfl) rfl rfl (Yld.pure rfl) ?_
      refine RL.q (.yes rfl rfl rfl) rfl rfl (Yld.lenStr u9 rfl) ?_
      refine RL.q (.yes rfl rfl rfl) rfl rfl (Yld.pure rfl) ?_
      iterate 2 refine RL.p rfl rfl ?_
      refine RL.done ?_
      refine RK.ret_of Tryz.func119 (res1 rfl rfl) ?_ _
      exact ⟨_, rfl, congrArg _ (by first
          | exact (NmTo.no (k := k) (by omega) (by simp [letS]; omega) (by omega)).symm
          | (rw [hn.end (by omega)]; rw [Bool.eq_iff_iff]; simp; omega)), rfl⟩
    · iterate 3 refine RL.no (.no rfl rfl rfl rfl) rfl rfl ?_
      iterate 2 refine RL.p rfl rfl ?_
      refine RL.done ?_
      refine RK.ret_of Tryz.func119 (res1 rfl rfl) ?_ _
      exact ⟨_, rfl, congrArg _ (by first
          | exact (NmTo.no (k := k) (by omega) (by simp [letS]; omega) (by omega)).symm
          | (rw [hn.end (by omega)]; rw [Bool.eq_iff_iff]; simp; omega)), rfl⟩
theorem isSet_ok (M : Nat → Prop) (ls : List Lab) (hsz : ∀ x ∈ ls, x.name.size ≤ 9223372036854775807) (v : Value) (w : World) (hv : SlL M w v ls) : Fx Tryz.prog 116 [v] w (fun u w' => u = .bool (isS ls) ∧ Grow w w') := by
  obtain ⟨ad, c, rfl⟩ := hv.shape
  have hbig := hv.big
  refine enter Tryz.func116 rfl rfl rfl _ (Pick.sub (l := [0]) (.cons rfl .nil)) ?_
  refine RK.seq ?_
  refine RK.region ?_
  refine RL.p rfl rfl ?_
  refine RL.done ?_
  iterate 2 refine RK.seq ?_
  refine RK.region ?_
  refine RL.p rfl rfl ?_
  refine RL.q (.free rfl) rfl rfl (Yld.lenSl u39 rfl) ?_
  iterate 2 refine RL.p rfl rfl ?_
  first | refine RL.splitD (d := 7) rfl rfl (fun h7 => ?_) (fun h7 => ?_) | refine RL.splitN (d := 7) rfl rfl (fun h7 => ?_) (fun h7 => ?_) | refine RL.split (d := 7) rfl rfl (fun h7 => ?_) (fun h7 => ?_)
  · iterate 3 refine RL.no (.no rfl rfl rfl rfl) rfl rfl ?_
    refine RL.p rfl rfl ?_
    refine RL.done ?_
    refine RK.condT rfl ?_
    refine RK.seq ?_
    refine RK.region ?_
    refine RL.p rfl rfl ?_
    refine RL.done ?_
    refine RK.ret_of Tryz.func116 (res1 rfl rfl) ?_ _
    exact ⟨_, rfl, congrArg _ (by first
        | exact (is_no1 (by omega)).symm
        | exact (is_no2 (i := k) (by omega) (okAt_no1 hx (by simpa using h25))).symm
        | exact (is_no2 (i := k) (by omega) (okAt_no2 hx (by simpa using h34))).symm
        | exact (is_no2 (i := k) (by omega) (okAt_no3 hx hj hy h51)).symm
        | exact (is_yes (by omega) (by omega) fun i hi => hall i (by omega)).symm), by first
        | exact Mod.refl _ _
        | exact hg.trans (Mod.drew _ _)
        | exact hg⟩
  · refine RL.q (.yes rfl rfl rfl) rfl rfl (Yld.pure rfl) ?_
    refine RL.q (.yes rfl rfl rfl) rfl rfl (Yld.lenSl u39 rfl) ?_
    refine RL.q (.yes rfl rfl rfl) rfl rfl (Yld.pure rfl) ?_
    refine RL.p rfl rfl ?_
    refine RL.done ?_
    first | refine RK.condD rfl (fun h11 => ?_) (fun h11 => ?_) | refine RK.condN rfl (fun h11 => ?_) (fun h11 => ?_) | refine RK.cond rfl (fun h11 => ?_) (fun h11 => ?_)
    · refine RK.seq ?_
      refine RK.region ?_
      refine RL.p rfl rfl ?_
      refine RL.done ?_
      refine RK.ret_of Tryz.func116 (res1 rfl rfl) ?_ _
      exact ⟨_, rfl, congrArg _ (by first
          | exact (is_no1 (by omega)).symm
          | exact (is_no2 (i := k) (by omega) (okAt_no1 hx (by simpa using h25))).symm
          | exact (is_no2 (i := k) (by omega) (okAt_no2 hx (by simpa using h34))).symm
          | exact (is_no2 (i := k) (by omega) (okAt_no3 hx hj hy h51)).symm
          | exact (is_yes (by omega) (by omega) fun i hi => hall i (by omega)).symm), by first
          | exact Mod.refl _ _
          | exact hg.trans (Mod.drew _ _)
          | exact hg⟩
    · refine RK.skip ?_
      iterate 2 refine RK.seq ?_
      refine RK.region ?_
      refine RL.p rfl rfl ?_
      refine RL.done ?_
      refine RK.block ?_
      refine RK.loop (fun k : Nat => [(0, .slice ad ls.length c), (3, .int .i64 k)]) (fun k w' => Grow w w' ∧ k ≤ ls.length ∧ ∀ i, i < k → okAt ls i = true) (fun k => ls.length - k) 0 ⟨rfl, rfl, trivial⟩ ⟨Mod.refl _ _, by omega, fun i hi => by omega⟩ (fun k w' hI ih => ?_)
      obtain ⟨hg, hk, hall⟩ := hI
      iterate 2 refine RK.seq ?_
      refine RK.region ?_
      iterate 2 refine RL.p rfl rfl ?_
      refine RL.q (.free rfl) rfl rfl (Yld.lenSl u39 rfl) ?_
      refine RL.p rfl rfl ?_
      refine RL.done ?_
      first | refine RK.condD rfl (fun h15 => ?_) (fun h15 => ?_) | refine RK.condN rfl (fun h15 => ?_) (fun h15 => ?_) | refine RK.cond rfl (fun h15 => ?_) (fun h15 => ?_)
      · obtain ⟨x, hx⟩ : ∃ x, ls[k]? = some x := ⟨ls[k]'(by omega), List.getElem?_eq_getElem (by omega)⟩
        obtain ⟨b, o, c', he, hb, hkl, hcell⟩ := hv.elem labC_len hx
        cases he
        refine RK.skip ?_
        refine RK.seq ?_
        refine RK.block ?_
        refine RK.seq ?_
        refine RK.drawM No [(0, false), (1, false), (2, false), (3, false), (4, false), (5, true), (6, false), (7, false), (8, false), (9, false), (10, false), (11, false), (12, false), (13, true), (14, false), (15, false), (16, false), (17, false), (18, false), (19, false), (20, false), (21, false), (22, false), (23, false), (24, false), (25, false), (26, false), (27, false), (28, false), (29, false), (30, false), (31, false), (32, false), (33, false)] [] mixed (by kernel_rfl) ?_
        iterate 2 refine DL.p rfl rfl rfl ?_
        refine DL.qf rfl (.free rfl) rfl rfl (Yld.indexAddrN u39 i38 rfl rfl (by omega)) ?_
        refine DL.qf rfl (.free rfl) rfl rfl (Yld.fieldAddr fo38_0 rfl) ?_
        refine DL.q rfl (.free rfl) rfl rfl rfl (Yld.load p9 rfl (atM (hg.cell (hcell 0 _ rfl) (fun h => h)) (fun h => h))) (Mod.drew _ _) ?_
        refine DL.op rfl (.free rfl) rfl rfl (Does.call rfl e119 (name2_ok _ (hsz x (List.mem_of_getElem? hx)) _)) ?_
        rintro _ _ ⟨rfl, rfl⟩
        refine ⟨Mod.drew _ _, ?_⟩
        iterate 2 refine DL.p rfl rfl rfl ?_
        first | refine DL.splitD (d := 25) rfl rfl (fun h25 => ?_) (fun h25 => ?_) | refine DL.splitN (d := 25) rfl rfl (fun h25 => ?_) (fun h25 => ?_) | refine DL.split (d := 25) rfl rfl (fun h25 => ?_) (fun h25 => ?_)
        · iterate 5 refine DL.no rfl (.no rfl rfl rfl rfl) rfl rfl ?_
          refine DL.lno rfl (.no rfl rfl rfl rfl) rfl rfl ?_
          refine DL.no rfl (.no rfl rfl rfl rfl) rfl rfl ?_
          iterate 2 refine DL.p rfl rfl rfl ?_
          iterate 16 refine DL.no rfl (.no rfl rfl rfl rfl) rfl rfl ?_
          refine DL.p rfl rfl rfl ?_
          refine DL.done ?_
          refine RK.condT rfl ?_
          refine RK.seq ?_
          refine RK.region ?_
          refine RL.p rfl rfl ?_
          refine RL.done ?_
          refine RK.ret_of Tryz.func116 (res1 rfl rfl) ?_ _
          exact ⟨_, rfl, congrArg _ (by first
              | exact (is_no1 (by omega)).symm
              | exact (is_no2 (i := k) (by omega) (okAt_no1 hx (by simpa using h25))).symm
              | exact (is_no2 (i := k) (by omega) (okAt_no2 hx (by simpa using h34))).symm
              | exact (is_no2 (i := k) (by omega) (okAt_no3 hx hj hy h51)).symm
              | exact (is_yes (by omega) (by omega) fun i hi => hall i (by omega)).symm), by first
              | exact Mod.refl _ _
              | exact hg.trans (Mod.drew _ _)
              | exact hg⟩
        · iterate 2 refine DL.qf rfl (.yes rfl rfl rfl) rfl rfl (Yld.pure rfl) ?_
          refine DL.qf rfl (.yes rfl rfl rfl) rfl rfl (Yld.indexAddrN u39 i38 rfl rfl (by omega)) ?_
          refine DL.qf rfl (.yes rfl rfl rfl) rfl rfl (Yld.fieldAddr fo38_1 rfl) ?_
          refine DL.q rfl (.yes rfl rfl rfl) rfl rfl rfl (Yld.load p9 rfl (atM (hg.cell (hcell 1 _ rfl) (fun h => h)) (fun h => h))) (Mod.drew _ _) ?_
          refine DL.op rfl (.yes rfl rfl rfl) rfl rfl (Does.call rfl e147 (value2_ok _ _)) ?_
          rintro _ _ ⟨rfl, rfl⟩
          refine ⟨Mod.drew _ _, ?_⟩
          refine DL.qf rfl (.yes rfl rfl rfl) rfl rfl (Yld.pure rfl) ?_
          iterate 2 refine DL.p rfl rfl rfl ?_
          first | refine DL.splitD (d := 34) rfl rfl (fun h34 => ?_) (fun h34 => ?_) | refine DL.splitN (d := 34) rfl rfl (fun h34 => ?_) (fun h34 => ?_) | refine DL.split (d := 34) rfl rfl (fun h34 => ?_) (fun h34 => ?_)
          · iterate 16 refine DL.no rfl (.no rfl rfl rfl rfl) rfl rfl ?_
            refine DL.p rfl rfl rfl ?_
            refine DL.done ?_
            refine RK.condT rfl ?_
            refine RK.seq ?_
            refine RK.region ?_
            refine RL.p rfl rfl ?_
            refine RL.done ?_
            refine RK.ret_of Tryz.func116 (res1 rfl rfl) ?_ _
            exact ⟨_, rfl, congrArg _ (by first
                | exact (is_no1 (by omega)).symm
                | exact (is_no2 (i := k) (by omega) (okAt_no1 hx (by simpa using h25))).symm
                | exact (is_no2 (i := k) (by omega) (okAt_no2 hx (by simpa using h34))).symm
                | exact (is_no2 (i := k) (by omega) (okAt_no3 hx hj hy h51)).symm
                | exact (is_yes (by omega) (by omega) fun i hi => hall i (by omega)).symm), by first
                | exact Mod.refl _ _
                | exact hg.trans (Mod.drew _ _)
                | exact hg⟩
          · iterate 3 refine DL.qf rfl (.yes rfl rfl rfl) rfl rfl (Yld.pure rfl) ?_
            first | refine DL.splitD (d := 37) rfl rfl (fun h37 => ?_) (fun h37 => ?_) | refine DL.splitN (d := 37) rfl rfl (fun h37 => ?_) (fun h37 => ?_) | refine DL.split (d := 37) rfl rfl (fun h37 => ?_) (fun h37 => ?_)
            · obtain ⟨j, hj⟩ : ∃ j, k = j + 1 := ⟨k - 1, by omega⟩
              obtain ⟨y, hy⟩ : ∃ y, ls[j]? = some y := ⟨ls[j]'(by omega), List.getElem?_eq_getElem (by omega)⟩
              obtain ⟨b', o', c', he, hb', hkl', hcell'⟩ := hv.elem labC_len hy
              cases he
              iterate 2 refine DL.qf rfl (.yes rfl rfl rfl) rfl rfl (Yld.pure rfl) ?_
              refine DL.qf rfl (.yes rfl rfl rfl) rfl rfl (Yld.indexAddrN u39 i38 rfl rfl (by omega)) ?_
              refine DL.qf rfl (.yes rfl rfl rfl) rfl rfl (Yld.fieldAddr fo38_0 rfl) ?_
              refine DL.q rfl (.yes rfl rfl rfl) rfl rfl rfl (Yld.load p9 rfl (atM (hg.cell (hcell 0 _ rfl) (fun h => h)) (fun h => h))) (Mod.drew _ _) ?_
              iterate 3 refine DL.qf rfl (.yes rfl rfl rfl) rfl rfl (Yld.pure rfl) ?_
              refine DL.re (d := 45) rfl rfl (sub_i64 (z := (j : Int)) (by omega) (by omega) (by omega)) ?_
              refine DL.qf rfl (.yes rfl rfl rfl) rfl rfl (Yld.indexAddrN u39 i38 rfl rfl (by omega)) ?_
              refine DL.qf rfl (.yes rfl rfl rfl) rfl rfl (Yld.fieldAddr fo38_0 rfl) ?_
              refine DL.q rfl (.yes rfl rfl rfl) rfl rfl rfl (Yld.load p9 rfl (atM (hg.cell (hcell' 0 _ rfl) (fun h => h)) (fun h => h))) (Mod.drew _ _) ?_
              iterate 2 refine DL.qf rfl (.yes rfl rfl rfl) rfl rfl (Yld.pure rfl) ?_
              refine DL.p rfl rfl rfl ?_
              refine DL.done ?_
              first | refine RK.condD rfl (fun h51 => ?_) (fun h51 => ?_) | refine RK.condN rfl (fun h51 => ?_) (fun h51 => ?_) | refine RK.cond rfl (fun h51 => ?_) (fun h51 => ?_)
              · refine RK.seq ?_
                refine RK.region ?_
                refine RL.p rfl rfl ?_
                refine RL.done ?_
                refine RK.ret_of Tryz.func116 (res1 rfl rfl) ?_ _
                exact ⟨_, rfl, congrArg _ (by first
                    | exact (is_no1 (by omega)).symm
                    | exact (is_no2 (i := k) (by omega) (okAt_no1 hx (by simpa using h25))).symm
                    | exact (is_no2 (i := k) (by omega) (okAt_no2 hx (by simpa using h34))).symm
                    | exact (is_no2 (i := k) (by omega) (okAt_no3 hx hj hy h51)).symm
                    | exact (is_yes (by omega) (by omega) fun i hi => hall i (by omega)).symm), by first
                    | exact Mod.refl _ _
                    | exact hg.trans (Mod.drew _ _)
                    | exact hg⟩
              · refine RK.skip ?_
                refine RK.inBlock ?_
                refine RK.region ?_
                iterate 2 refine RL.p rfl rfl ?_
                refine RL.re (d := 17) rfl rfl (succ_i64 (by omega)) ?_
                refine RL.p rfl rfl ?_
                refine RL.done ?_
                exact RK.back (ih (k + 1) _ ⟨hg.trans (Mod.drew _ _), by omega, ok_snoc hall (by first | exact okAt_yes1 hx (by simpa using h25) (by simpa using h34) hj hy h51 | exact okAt_yes0 hx (by simpa using h25) (by simpa using h34) (by omega))⟩ (by omega)) ⟨rfl, rfl, trivial⟩
            · iterate 12 refine DL.no rfl (.no rfl rfl rfl rfl) rfl rfl ?_
              refine DL.qf rfl (.yes rfl rfl rfl) rfl rfl (Yld.pure rfl) ?_
              refine DL.p rfl rfl rfl ?_
              refine DL.done ?_
              refine RK.condF rfl ?_
              refine RK.skip ?_
              refine RK.inBlock ?_
              refine RK.region ?_
              iterate 2 refine RL.p rfl rfl ?_
              refine RL.re (d := 17) rfl rfl (succ_i64 (by omega)) ?_
              refine RL.p rfl rfl ?_
              refine RL.done ?_
              exact RK.back (ih (k + 1) _ ⟨hg.trans (Mod.drew _ _), by omega, ok_snoc hall (by first | exact okAt_yes1 hx (by simpa using h25) (by simpa using h34) hj hy h51 | exact okAt_yes0 hx (by simpa using h25) (by simpa using h34) (by omega))⟩ (by omega)) ⟨rfl, rfl, trivial⟩
      · refine RK.exit rfl ?_
        refine RK.seq ?_
        refine RK.region ?_
        refine RL.p rfl rfl ?_
        refine RL.done ?_
        refine RK.ret_of Tryz.func116 (res1 rfl rfl) ?_ _
        exact ⟨_, rfl, congrArg _ (by first
            | exact (is_no1 (by omega)).symm
            | exact (is_no2 (i := k) (by omega) (okAt_no1 hx (by simpa using h25))).symm
            | exact (is_no2 (i := k) (by omega) (okAt_no2 hx (by simpa using h34))).symm
            | exact (is_no2 (i := k) (by omega) (okAt_no3 hx hj hy h51)).symm
            | exact (is_yes (by omega) (by omega) fun i hi => hall i (by omega)).symm), by first
            | exact Mod.refl _ _
            | exact hg.trans (Mod.drew _ _)
            | exact hg⟩
end Go.Proofs.YtbcbfjnlnmhpbaaGreat
set_option linter.unusedVariables false
set_option linter.unusedSimpArgs false
set_option maxHeartbeats 400000
set_option maxRecDepth 100000
namespace Go.Proofs.YtbcbfjnlnmhpbaaGreat
open Go Go.X
def PredI (w : World) (fv : Value) (p : Int → Bool) : Prop := ∃ g cap, fv = .func (.func g) #[] cap ∧ Go.Proofs.Enters Tryz.prog g ∧ ∀ (n : Int) w', Grow w w' → Fx Tryz.prog g ([.int .i64 n] ++ cap.toList) w' (fun u w'' => u = .bool (p n) ∧ Grow w' w'')
theorem PredI.grow {w w' : World} {fv : Value} {p : Int → Bool} (h : PredI w fv p) (hg : Grow w w') : PredI w' fv p := by
  obtain ⟨g, cap, h1, h2, h3⟩ := h
  exact ⟨g, cap, h1, h2, fun n w'' h => h3 n w'' (hg.trans h)⟩
def ixF (p : Int → Bool) (xs : List Int) : Int := optI (xs.findIdx? p)
theorem indexFuncI_ok (M : Nat → Prop) (xs : List Int) (v fv : Value) (p : Int → Bool) (w : World) (hv : Sl M w v 1 xs.length (ints xs)) (hp : PredI w fv p) :
    Fx Tryz.prog 226 [v, fv] w (fun u w' => u = .int .i64 (ixF p xs) ∧ Grow w w') := by
  obtain ⟨ad, c, rfl⟩ := hv.shape
  obtain ⟨g, cap, rfl, hE, hp⟩ := hp
  have hbig := hv.big
  refine enter Tryz.func226 rfl rfl rfl _ (Pick.sub (l := [0, 1]) (.cons rfl (.cons rfl .nil))) ?_
  refine RK.seq ?_
  refine RK.region ?_
  refine RL.p rfl rfl ?_
  refine RL.done ?_
  iterate 2 refine RK.seq ?_
  refine RK.region ?_
  refine RL.p rfl rfl ?_
  refine RL.q (.free rfl) rfl rfl (Yld.lenSl u35 rfl) ?_
  refine RL.p rfl rfl ?_
  refine RL.done ?_
  refine RK.block ?_
  refine RK.loop (fun k : Nat => [(0, .slice ad xs.length c), (1, .func (.func g) #[] cap), (7, .int .i64 xs.length), (8, .int .i64 k)]) (fun k w' => Grow w w' ∧ k ≤ xs.length ∧ ∀ i a, i < k → xs[i]? = some a → p a = false) (fun k => xs.length - k) 0 ⟨rfl, rfl, rfl, rfl, trivial⟩ ⟨Mod.refl _ _, by omega, fun i a h => by omega⟩ (fun k w' hI ih => ?_)
  obtain ⟨hg, hk, hno⟩ := hI
  refine RK.seq ?_
  refine RK.region ?_
  refine RL.p rfl rfl ?_
  refine RL.done ?_
  refine RK.seq ?_
  first | refine RK.condD rfl (fun h9 => ?_) (fun h9 => ?_) | refine RK.condN rfl (fun h9 => ?_) (fun h9 => ?_) | refine RK.cond rfl (fun h9 => ?_) (fun h9 => ?_)
  · obtain ⟨x, hx⟩ : ∃ x, xs[k]? = some x := ⟨xs[k]'(by omega), List.getElem?_eq_getElem (by omega)⟩
    obtain ⟨b1, o1, c1', he1, _, _, hc1⟩ := hv.elem1 (k := k) (u := .int .i64 x) (by simp [hx])
    cases he1
    refine RK.skip ?_
    refine RK.seq ?_
    refine RK.block ?_
    refine RK.seq ?_
    refine RK.region ?_
    iterate 2 refine RL.p rfl rfl ?_
    refine RL.done ?_
    refine RK.seq ?_
    refine RK.region ?_
    iterate 3 refine RL.p rfl rfl ?_
    refine RL.q (.free rfl) rfl rfl (Yld.indexAddrN u35 i3 rfl rfl (by omega)) ?_
    refine RL.q (.free rfl) rfl rfl (Yld.load p3 rfl (at1 (hg.cell (hc1 k (.int .i64 x) (by simp [hx])) (fun h => h)))) ?_
    refine RL.op (.free rfl) rfl rfl (Does.callv rfl rfl (by assumption) (hp x _ hg)) ?_
    rintro _ w2 ⟨rfl, hg2⟩
    refine RL.done ?_
    first | refine RK.condD rfl (fun h16 => ?_) (fun h16 => ?_) | refine RK.condN rfl (fun h16 => ?_) (fun h16 => ?_) | refine RK.cond rfl (fun h16 => ?_) (fun h16 => ?_)
    · refine RK.seq ?_
      refine RK.region ?_
      iterate 2 refine RL.p rfl rfl ?_
      refine RL.done ?_
      refine RK.ret_of Tryz.func226 (res1 rfl rfl) ?_ _
      exact ⟨_, rfl, congrArg _ (by
          have : xs.findIdx? p = some k := by
            rw [List.findIdx?_eq_some_iff_getElem]
            refine ⟨by omega, ?_, ?_⟩
            · rw [(List.getElem?_eq_some_iff.1 hx).2]; exact h16
            · intro j hj
              simpa using hno j (xs[j]'(by omega)) hj (List.getElem?_eq_getElem (by omega))
          unfold ixF; rw [this]; rfl), hg.trans hg2⟩
    · refine RK.skip ?_
      refine RK.inBlock ?_
      refine RK.region ?_
      refine RL.p rfl rfl ?_
      refine RL.re (d := 18) rfl rfl (succ_i64 (by omega)) ?_
      refine RL.p rfl rfl ?_
      refine RL.done ?_
      exact RK.back (ih (k + 1) _ ⟨hg.trans hg2, by omega, fun i a' hi ha' => by by_cases e : i = k; (subst e; rw [hx] at ha'; cases ha'; exact h16); exact hno i a' (by omega) ha'⟩ (by omega)) ⟨rfl, rfl, rfl, rfl, trivial⟩
  · refine RK.exit rfl ?_
    refine RK.seq ?_
    refine RK.region ?_
    refine RL.p rfl rfl ?_
    refine RL.done ?_
    refine RK.ret_of Tryz.func226 (res1 rfl rfl) ?_ _
    exact ⟨_, rfl, congrArg _ (by
        have : xs.findIdx? p = none := by
          rw [List.findIdx?_eq_none_iff]
          intro x hx
          obtain ⟨i, hi⟩ := List.getElem?_of_mem hx
          have hil := (List.getElem?_eq_some_iff.1 hi).1
          exact hno i x (by omega) hi
        unfold ixF; rw [this]; rfl), hg⟩
def keepI (p : Int → Bool) (xs : List Int) : List Int := xs.filter fun x => !p x
theorem keep_snoc (p : Int → Bool) {xs : List Int} {k : Nat} {x : Int} (hx : xs[k]? = some x) : keepI p (xs.take (k + 1)) = keepI p (xs.take k) ++ (if p x then [] else [x]) := by
  have hk := (List.getElem?_eq_some_iff.1 hx).1
  unfold keepI
  rw [List.take_succ_eq_append_getElem hk, (List.getElem?_eq_some_iff.1 hx).2, List.filter_append]
  cases h : p x <;> simp [h]
theorem set_snoc {cs : List Value} {i : Nat} {ys : List Int} {x : Int} (h : cs.take i = ints ys) (hi : i < cs.length) : (cs.set i (.int .i64 x)).take (i + 1) = ints (ys ++ [x]) := by
  have e : (cs.set i (.int .i64 x)).length = cs.length := List.length_set
  rw [List.take_succ_eq_append_getElem (by omega), List.getElem_set_self]
  have : (cs.set i (Value.int .i64 x)).take i = cs.take i := by
    apply List.ext_getElem?
    intro j
    simp only [List.getElem?_take]
    split
    · rw [List.getElem?_set_ne (by omega)]
    · rfl
  rw [this, h]
  simp [ints]
theorem deleteFuncI_ok (w0 : World) (xs : List Int) (v fv : Value) (p : Int → Bool) (w : World) (hv : Row w 3 1 v xs.length (ints xs)) (hf : Fresh w0.heap.size v) (hg0 : Grow w0 w) (hp : PredI w0 fv p) :
    Fx Tryz.prog 207 [v, fv] w (fun u w' => Row w' 3 1 u (keepI p xs).length (ints (keepI p xs)) ∧ u.ownBlock = v.ownBlock ∧ Mod (fun b => v.ownBlock = some b) w w') := by
  have hcall := indexFuncI_ok No xs v fv p w (Sl.own hv (fun _ _ h => h)) (hp.grow hg0)
  obtain ⟨g, cap, rfl, hE, hp⟩ := hp
  have hbig : xs.length ≤ 9223372036854775807 := (Sl.own (M := No) hv (fun _ _ h => h)).big
  by_cases hn : xs.findIdx? p = none
  · have hix : ixF p xs = -1 := by unfold ixF; rw [hn]; rfl
    rw [hix] at hcall
    have hkeep : keepI p xs = xs := List.filter_eq_self.2 fun x hx => by simp [List.findIdx?_eq_none_iff.1 hn x hx]
    refine enter Tryz.func207 rfl rfl rfl _ (Pick.sub (l := [0, 1]) (.cons rfl (.cons rfl .nil))) ?_
    refine RK.seq ?_
    refine RK.region ?_
    refine RL.p rfl rfl ?_
    refine RL.done ?_
    refine RK.seq ?_
    refine RK.region ?_
    iterate 2 refine RL.p rfl rfl ?_
    refine RL.op (.free rfl) rfl rfl (Does.call rfl e226 (hcall)) ?_
    rintro _ w2 ⟨rfl, hg2⟩
    refine RL.p rfl rfl ?_
    refine RL.done ?_
    iterate 2 refine RK.seq ?_
    refine RK.region ?_
    iterate 2 refine RL.p rfl rfl ?_
    refine RL.done ?_
    refine RK.condT (hcT rfl (decide_eq_true rfl)) ?_
    refine RK.seq ?_
    refine RK.region ?_
    iterate 2 refine RL.p rfl rfl ?_
    refine RL.done ?_
    refine RK.ret_of Tryz.func207 (res1 rfl rfl) ?_ _
    exact ⟨_, rfl, by rw [hkeep]; exact hv.mod hg2 (fun _ _ h => h), rfl, Mod.any' hg2⟩
  · obtain ⟨i0, hi0⟩ : ∃ i, xs.findIdx? p = some i := by cases h : xs.findIdx? p with | none => exact absurd h hn | some i => exact ⟨i, rfl⟩
    have hix : ixF p xs = (i0 : Int) := by unfold ixF; rw [hi0]; rfl
    rw [hix] at hcall
    obtain ⟨hi0l, hpi0, hlt0⟩ := List.findIdx?_eq_some_iff_getElem.1 hi0
    have hx0 : xs[i0]? = some xs[i0] := List.getElem?_eq_getElem hi0l
    have hk0 : keepI p (xs.take i0) = xs.take i0 := List.filter_eq_self.2 fun x hx => by
      obtain ⟨j, hj, rfl⟩ := List.getElem_of_mem hx
      simp at hj
      rw [List.getElem_take]
      simpa using hlt0 j (by omega)
    have hk1 : keepI p (xs.take (i0 + 1)) = xs.take i0 := by rw [keep_snoc p hx0, hk0]; simp [hpi0]
    obtain ⟨gb, cp, cs, rfl, hb, hl, hkc, hcm, htk⟩ := hv.whole (by omega)
    rw [Nat.mul_one] at hl htk
    have hgb : w0.heap.size ≤ gb := hf gb rfl
    refine enter Tryz.func207 rfl rfl rfl _ (Pick.sub (l := [0, 1]) (.cons rfl (.cons rfl .nil))) ?_
    refine RK.seq ?_
    refine RK.region ?_
    refine RL.p rfl rfl ?_
    refine RL.done ?_
    refine RK.seq ?_
    refine RK.region ?_
    iterate 2 refine RL.p rfl rfl ?_
    refine RL.op (.free rfl) rfl rfl (Does.call rfl e226 (hcall)) ?_
    rintro _ w2 ⟨rfl, hg2⟩
    refine RL.p rfl rfl ?_
    refine RL.done ?_
    iterate 2 refine RK.seq ?_
    refine RK.region ?_
    iterate 2 refine RL.p rfl rfl ?_
    refine RL.done ?_
    refine RK.condF (hcF rfl (decide_eq_false (by omega))) ?_
    refine RK.skip ?_
    iterate 2 refine RK.seq ?_
    refine RK.region ?_
    iterate 2 refine RL.p rfl rfl ?_
    refine RL.re (d := 15) rfl rfl (add_i64 (z := ((i0 + 1 : Nat) : Int)) (by simp) (by omega) (by omega)) ?_
    refine RL.p rfl rfl ?_
    refine RL.done ?_
    refine RK.block ?_
    refine RK.loop (fun s : Nat × Nat => [(0, .slice (some ⟨gb, 0, none⟩) xs.length cp), (1, .func (.func g) #[] cap), (5, .int .i64 (s.1 : Int)), (6, .int .i64 (s.2 : Int))]) (fun s w' => Mod (· = gb) w w' ∧ s.1 < s.2 ∧ s.2 ≤ xs.length ∧ s.1 = (keepI p (xs.take s.2)).length ∧ ∃ cs', Blk w' gb 3 cs' ∧ cs'.length = cp ∧ cs'.take s.1 = ints (keepI p (xs.take s.2)) ∧ ∀ t x, s.2 ≤ t → xs[t]? = some x → cs'[t]? = some (.int .i64 x)) (fun s => xs.length - s.2) (i0, i0 + 1) ⟨rfl, rfl, rfl, rfl, trivial⟩ ⟨Mod.any' hg2, by omega, by simp only; omega, by rw [hk1]; simp; omega, cs, hb.mod hg2 (fun h => h), hl, by rw [hk1]; simp only; have := congrArg (List.take i0) htk; rw [List.take_take, Nat.min_eq_left (by omega)] at this; rw [this]; simp [ints, List.map_take], fun t x ht hx => by have hxl := (List.getElem?_eq_some_iff.1 hx).1; have := congrArg (fun l => l[t]?) htk; simp only [List.getElem?_take, if_pos hxl] at this; rw [this]; simp [hx]⟩ (fun s w' hI ih => ?_)
    obtain ⟨i, j⟩ := s
    obtain ⟨hm, hij, hj, hic, cs1, hb1, hl1, ht1, hr1⟩ := hI
    simp only at hm hij hj hic ht1 hr1
    iterate 2 refine RK.seq ?_
    refine RK.region ?_
    iterate 2 refine RL.p rfl rfl ?_
    refine RL.q (.free rfl) rfl rfl (Yld.lenSl u35 rfl) ?_
    refine RL.p rfl rfl ?_
    refine RL.done ?_
    first | refine RK.condD rfl (fun h19 => ?_) (fun h19 => ?_) | refine RK.condN rfl (fun h19 => ?_) (fun h19 => ?_) | refine RK.cond rfl (fun h19 => ?_) (fun h19 => ?_)
    · obtain ⟨x, hx⟩ : ∃ x, xs[j]? = some x := ⟨xs[j]'(by omega), List.getElem?_eq_getElem (by omega)⟩
      have hks := keep_snoc p hx
      refine RK.skip ?_
      refine RK.seq ?_
      refine RK.block ?_
      refine RK.seq ?_
      refine RK.region ?_
      iterate 2 refine RL.p rfl rfl ?_
      refine RL.q (.free rfl) rfl rfl (Yld.indexAddrN u35 i3 rfl rfl (by omega)) ?_
      refine RL.q (.free rfl) rfl rfl (Yld.load p3 rfl (at1 (hb1.at1 (hr1 j x (Nat.le_refl _) hx)))) ?_
      refine RL.p rfl rfl ?_
      refine RL.done ?_
      refine RK.seq ?_
      refine RK.region ?_
      iterate 2 refine RL.p rfl rfl ?_
      refine RL.op (.free rfl) rfl rfl (Does.callv rfl rfl (by assumption) (hp x _ (hg0.then hm (fun b hb e => by have e' : b = gb := e; omega)))) ?_
      rintro _ w3 ⟨rfl, hg3⟩
      have hm3 : Mod (· = gb) w w3 := hm.trans (Mod.any' hg3)
      have hb3 := hb1.mod hg3 (fun h => h)
      refine RL.p rfl rfl ?_
      refine RL.done ?_
      first | refine RK.condD rfl (fun h29 => ?_) (fun h29 => ?_) | refine RK.condN rfl (fun h29 => ?_) (fun h29 => ?_) | refine RK.cond rfl (fun h29 => ?_) (fun h29 => ?_)
      · have hpx : p x = false := by simpa using h29
        refine RK.seq ?_
        refine RK.region ?_
        iterate 3 refine RL.p rfl rfl ?_
        refine RL.q (.free rfl) rfl rfl (Yld.indexAddrN u35 i3 rfl rfl (by omega)) ?_
        refine RL.op' (.free rfl) rfl (Does.store i3 rfl rfl rfl hb3 (SetAt.of (by omega))) ?_
        rintro _ w4 ⟨hb4, hm4, _⟩
        have hil : i < cs1.length := by omega
        have e0 : 0 + i * 1 = i := by omega
        rw [e0] at hb4
        refine RL.done ?_
        refine RK.region ?_
        iterate 2 refine RL.p rfl rfl ?_
        refine RL.re (d := 35) rfl rfl (succ_i64 (by omega)) ?_
        refine RL.p rfl rfl ?_
        refine RL.done ?_
        refine RK.inBlock ?_
        refine RK.region ?_
        iterate 2 refine RL.p rfl rfl ?_
        refine RL.re (d := 21) rfl rfl (succ_i64 (by omega)) ?_
        refine RL.p rfl rfl ?_
        refine RL.done ?_
        exact RK.back (ih (i + 1, j + 1) _ ⟨hm3.trans hm4, by omega, by simp only; omega, by rw [hks, hpx]; simpa using hic, _, hb4, by simpa using hl1, by rw [hks, hpx]; simp only [Bool.false_eq_true, if_false]; exact set_snoc ht1 hil, fun t y ht hy => by rw [List.getElem?_set_ne (by simp only at ht; omega)]; exact hr1 t y (by simp only at ht; omega) hy⟩ (by simp only; omega)) ⟨rfl, rfl, rfl, rfl, trivial⟩
      · have hpx : p x = true := by simpa using h29
        refine RK.skip ?_
        refine RK.inBlock ?_
        refine RK.region ?_
        iterate 2 refine RL.p rfl rfl ?_
        refine RL.re (d := 21) rfl rfl (succ_i64 (by omega)) ?_
        refine RL.p rfl rfl ?_
        refine RL.done ?_
        exact RK.back (ih (i, j + 1) _ ⟨hm3, by omega, by simp only; omega, by rw [hks, hpx]; simpa using hic, cs1, hb3, hl1, by rw [hks, hpx]; simpa using ht1, fun t y ht hy => hr1 t y (by simp only at ht; omega) hy⟩ (by simp only; omega)) ⟨rfl, rfl, rfl, rfl, trivial⟩
    · have ek : xs.take j = xs := List.take_of_length_le (by omega)
      rw [ek] at hic ht1
      refine RK.exit rfl ?_
      refine RK.seq ?_
      refine RK.region ?_
      iterate 2 refine RL.p rfl rfl ?_
      refine RL.q (.free rfl) rfl rfl (Yld.sliceFrom u35 i3 rfl rfl (by omega)) ?_
      refine RL.op' (.free rfl) rfl (Does.clear u35 i3 (cap := cp) (lo := i) (m := xs.length - i) rfl (by simp [Value.cells, Value.oneCell']) rfl hb1 (by rw [Nat.mul_one]; exact hl1) (by omega)) ?_
      rintro _ w5 ⟨⟨cs5, hb5, hl5, ht5⟩, hm5, hs5⟩
      refine RL.done ?_
      refine RK.seq ?_
      refine RK.region ?_
      iterate 2 refine RL.p rfl rfl ?_
      refine RL.q (.free rfl) rfl rfl (Yld.sliceHi u35 i3 rfl rfl (by omega)) ?_
      refine RL.p rfl rfl ?_
      refine RL.done ?_
      refine RK.ret_of Tryz.func207 (res1 rfl rfl) ?_ _
      exact ⟨_, rfl, by have h9 := Row.shut (sz := 1) (k := i) hb5 (by rw [hl5, hl1, Nat.mul_one]) (by omega) hcm; rw [ht5] at h9; rw [Nat.mul_one, ht1] at h9; rw [← hic]; exact h9, rfl, (hm.trans hm5).mono fun b _ e => congrArg some e.symm⟩
theorem kept1_ok (w : World) (b : Nat) (fv : Value) (p : Int → Bool) (hb : Blk w b 117 [fv]) (hp : PredI w fv p) (n : Int) : Fx Tryz.prog 208 [.int .i64 n, pp b] w (fun u w' => u = .bool (!p n) ∧ Grow w w') := by
  obtain ⟨g, cap, rfl, hE, hp⟩ := hp
  refine enter Tryz.func208 rfl rfl rfl _ (Pick.sub (l := [0, 1]) (.cons rfl (.cons rfl .nil))) ?_
  refine RK.seq ?_
  refine RK.region ?_
  refine RL.p rfl rfl ?_
  refine RL.done ?_
  refine RK.seq ?_
  refine RK.region ?_
  refine RL.q (.free rfl) rfl rfl (Yld.load p117 rfl (at1 (hb.cell rfl))) ?_
  refine RL.p rfl rfl ?_
  refine RL.op (.free rfl) rfl rfl (Does.callv rfl rfl (by assumption) (hp n _ (Mod.refl _ _))) ?_
  rintro _ w2 ⟨rfl, hg2⟩
  iterate 2 refine RL.p rfl rfl ?_
  refine RL.done ?_
  refine RK.ret_of Tryz.func208 (res1 rfl rfl) ?_ _
  exact ⟨_, rfl, rfl, hg2⟩
theorem kept_ok (M : Nat → Prop) (xs : List Int) (v fv : Value) (p : Int → Bool) (w : World) (hv : Sl M w v 1 xs.length (ints xs)) (hb : xs.length * 8 ≤ 140737488355328) (hp : PredI w fv p) :
    Fx Tryz.prog 175 [v, fv] w (fun u w' => Row w' 3 1 u ((mkRow xs).filter p).length (ints ((mkRow xs).filter p)) ∧ Fresh w.heap.size u ∧ Grow w w') := by
  obtain ⟨g, cap, rfl, hE, hp0⟩ := id hp
  have he : keepI (fun n => !p n) (mkRow xs) = (mkRow xs).filter p := by unfold keepI; simp
  refine enter Tryz.func175 rfl rfl rfl _ (Pick.sub (l := [0, 1]) (.cons rfl (.cons rfl .nil))) ?_
  refine RK.seq ?_
  refine RK.region ?_
  refine RL.op (.free rfl) rfl rfl (Does.box rfl) ?_
  rintro _ w1 ⟨b1, rfl, hn1⟩
  refine RL.p rfl rfl ?_
  refine RL.done ?_
  refine RK.seq ?_
  refine RK.region ?_
  refine RL.p rfl rfl ?_
  refine RL.op (.free rfl) rfl rfl (Does.call rfl e92 (make_ok No xs v _ (hv.mod (Mod.any' hn1.grow)).noM hb)) ?_
  rintro u2 w2 ⟨hr2, hf2, hg2⟩
  refine RL.p rfl rfl ?_
  refine RL.op (.free rfl) rfl rfl (Does.call rfl e207 (deleteFuncI_ok w1 (mkRow xs) u2 _ (fun n => !p n) _ hr2 hf2 hg2 ⟨_, _, rfl, e208, fun n w' hg => kept1_ok w' b1 _ p (hn1.blk.mod hg (fun h => h)) (hp.grow (hn1.grow.trans hg)) n⟩)) ?_
  rintro u3 w3 ⟨hr3, hu3, hm3⟩
  refine RL.p rfl rfl ?_
  refine RL.done ?_
  refine RK.ret_of Tryz.func175 (res1 rfl rfl) ?_ _
  exact ⟨_, rfl, he ▸ hr3, fun b hb => by rw [hu3] at hb; have := hf2 b hb; have := hn1.grow.size; omega, (hn1.grow.trans hg2).then hm3 (fun x hx e => by have := hf2 x e; have := hn1.grow.size; omega)⟩
theorem contains_ok (M : Nat → Prop) (xs : List Int) (v : Value) (x : Int) (w : World) (hv : Sl M w v 1 xs.length (ints xs)) : Fx Tryz.prog 209 [v, .int .i64 x] w (fun u w' => u = .bool (xs.contains x) ∧ w = w') := by
  obtain ⟨ad, c, b, o, rfl, hf⟩ := hv.open
  by_cases h0 : xs.length = 0
  · have : xs = [] := List.eq_nil_of_length_eq_zero h0
    subst this
    refine Calls.mono (Tryz.slices_Contains_int_empty ad c x w) ?_
    rintro e w' ⟨rfl, rfl⟩
    exact ⟨_, rfl, rfl, rfl⟩
  · obtain ⟨rfl, _, hc⟩ := hf (by omega)
    refine Calls.mono (Tryz.slices_Contains_int b o xs.length c xs x w (Nat.le_refl _) hv.big (fun j hj => hc j _ (by simp [hj]))) ?_
    rintro e w' ⟨rfl, rfl⟩
    exact ⟨_, rfl, by rw [List.take_length], rfl⟩
theorem has_ok (M : Nat → Prop) (xs : List Int) (v : Value) (x : Int) (w : World) (hv : Sl M w v 1 xs.length (ints xs)) : Fx Tryz.prog 177 [v, .int .i64 x] w (fun u w' => u = .bool (xs.contains x) ∧ w = w') := by
  refine enter Tryz.func177 rfl rfl rfl _ (Pick.sub (l := [0, 1]) (.cons rfl (.cons rfl .nil))) ?_
  refine RK.seq ?_
  refine RK.region ?_
  refine RL.p rfl rfl ?_
  refine RL.done ?_
  refine RK.seq ?_
  refine RK.region ?_
  iterate 2 refine RL.p rfl rfl ?_
  refine RL.op (.free rfl) rfl rfl (Does.call rfl e209 (contains_ok M xs v x _ hv)) ?_
  rintro _ _ ⟨rfl, rfl⟩
  refine RL.p rfl rfl ?_
  refine RL.done ?_
  refine RK.ret_of Tryz.func177 (res1 rfl rfl) ?_ _
  exact ⟨_, rfl, rfl, rfl⟩
theorem not1_ok (M : Nat → Prop) (w : World) (b : Nat) (ys : List Int) (vb : Value) (hb : Blk w b 35 [vb]) (hv : Sl M w vb 1 ys.length (ints ys)) (n : Int) : Fx Tryz.prog 176 [.int .i64 n, pp b] w (fun u w' => u = .bool (!ys.contains n) ∧ Grow w w') := by
  refine enter Tryz.func176 rfl rfl rfl _ (Pick.sub (l := [0, 1]) (.cons rfl (.cons rfl .nil))) ?_
  refine RK.seq ?_
  refine RK.region ?_
  refine RL.p rfl rfl ?_
  refine RL.done ?_
  refine RK.seq ?_
  refine RK.region ?_
  refine RL.q (.free rfl) rfl rfl (Yld.load p35 rfl (at1 (hb.cell rfl))) ?_
  refine RL.p rfl rfl ?_
  refine RL.op (.free rfl) rfl rfl (Does.call rfl e177 (has_ok M ys vb n _ hv)) ?_
  rintro _ _ ⟨rfl, rfl⟩
  iterate 2 refine RL.p rfl rfl ?_
  refine RL.done ?_
  refine RK.ret_of Tryz.func176 (res1 rfl rfl) ?_ _
  exact ⟨_, rfl, rfl, Mod.refl _ _⟩
theorem not_ok (M : Nat → Prop) (xs ys : List Int) (va vb : Value) (w : World) (ha : Sl M w va 1 xs.length (ints xs)) (hvb : Sl M w vb 1 ys.length (ints ys)) (hb : xs.length * 8 ≤ 140737488355328) :
    Fx Tryz.prog 144 [va, vb] w (fun u w' => Row w' 3 1 u ((mkRow xs).filter fun n => !ys.contains n).length (ints ((mkRow xs).filter fun n => !ys.contains n)) ∧ Fresh w.heap.size u ∧ Grow w w') := by
  obtain ⟨ad', c', rfl⟩ := hvb.shape
  refine enter Tryz.func144 rfl rfl rfl _ (Pick.sub (l := [0, 1]) (.cons rfl (.cons rfl .nil))) ?_
  refine RK.seq ?_
  refine RK.region ?_
  refine RL.op (.free rfl) rfl rfl (Does.box rfl) ?_
  rintro _ w1 ⟨b1, rfl, hn1⟩
  refine RL.p rfl rfl ?_
  refine RL.done ?_
  refine RK.seq ?_
  refine RK.region ?_
  iterate 2 refine RL.p rfl rfl ?_
  refine RL.op (.free rfl) rfl rfl (Does.call rfl e175 (kept_ok No xs va _ (fun n => !ys.contains n) _ (ha.mod (Mod.any' hn1.grow)).noM hb ⟨_, _, rfl, e176, fun n w' hg => not1_ok No w' b1 ys _ (hn1.blk.mod hg (fun h => h)) (hvb.noM.mod (hn1.grow.trans hg)) n⟩)) ?_
  rintro u2 w2 ⟨hr2, hf2, hg2⟩
  refine RL.p rfl rfl ?_
  refine RL.done ?_
  refine RK.ret_of Tryz.func144 (res1 rfl rfl) ?_ _
  exact ⟨_, rfl, hr2, fun b hb => by have := hf2 b hb; have := hn1.grow.size; omega, hn1.grow.trans hg2⟩
theorem cut_ok (M : Nat → Prop) (xs : List Int) (x : Int) (v : Value) (w : World) (hv : Sl M w v 1 xs.length (ints xs)) (hb : xs.length * 8 ≤ 140737488355328) :
    Fx Tryz.prog 109 [v, .int .i64 x] w (fun u w' => Row w' 3 1 u (cutRow xs x).length (ints (cutRow xs x)) ∧ Fresh w.heap.size u ∧ Grow w w') := by
  have he : (mkRow xs).filter (fun n => ![x].contains n) = cutRow xs x := by
    unfold cutRow
    apply List.filter_congr
    intro y _
    by_cases h : y = x <;> simp [h]
  refine enter Tryz.func109 rfl rfl rfl _ (Pick.sub (l := [0, 1]) (.cons rfl (.cons rfl .nil))) ?_
  refine RK.seq ?_
  refine RK.region ?_
  refine RL.p rfl rfl ?_
  refine RL.done ?_
  refine RK.seq ?_
  refine RK.region ?_
  iterate 2 refine RL.p rfl rfl ?_
  refine RL.op (.free rfl) rfl rfl (Does.slice1 u35 i3 rfl rfl rfl rfl rfl) ?_
  rintro _ w1 ⟨b1, rfl, hn1⟩
  refine RL.op (.free rfl) rfl rfl (Does.call rfl e144 (not_ok No xs [x] v _ _ (hv.mod (Mod.any' hn1.grow)).noM (Sl.new hn1 1 1 rfl (by omega) (fun h => h)) hb)) ?_
  rintro u2 w2 ⟨hr2, hf2, hg2⟩
  refine RL.p rfl rfl ?_
  refine RL.done ?_
  refine RK.ret_of Tryz.func109 (res1 rfl rfl) ?_ _
  exact ⟨_, rfl, by rw [he] at hr2; exact hr2, fun b hb => by have := hf2 b hb; have := hn1.grow.size; omega, hn1.grow.trans hg2⟩
end Go.Proofs.YtbcbfjnlnmhpbaaGreat
set_option linter.unusedVariables false
set_option linter.unusedSimpArgs false
set_option maxHeartbeats 800000
set_option maxRecDepth 100000
namespace Go.Proofs.YtbcbfjnlnmhpbaaGreat
open Go Go.X
end Go.Proofs.YtbcbfjnlnmhpbaaGreat
set_option linter.unusedVariables false
set_option linter.unusedSimpArgs false
set_option maxHeartbeats 400000
set_option maxRecDepth 100000
namespace Go.Proofs.YtbcbfjnlnmhpbaaGreat
open Go Go.X
def giveS (out : List Int) (id : Int) : List Int := if out.contains id then cutRow out id else out
theorem cmpInt_ok (x y : Int) (w : World) : Fx Tryz.prog 106 [.int .i64 x, .int .i64 y] w (fun u w' => u = .int .i64 (Lib.compareInt x y) ∧ w = w') := by
  refine Calls.mono (Tryz.cmp_Compare_int x y w) ?_
  rintro e w' ⟨rfl, rfl⟩
  exact ⟨_, rfl, rfl, rfl⟩
end Go.Proofs.YtbcbfjnlnmhpbaaGreat
set_option linter.unusedVariables false
set_option linter.unusedSimpArgs false
set_option maxHeartbeats 800000
set_option maxRecDepth 100000
namespace Go.Proofs.YtbcbfjnlnmhpbaaGreat
open Go Go.X
end Go.Proofs.YtbcbfjnlnmhpbaaGreat
set_option linter.unusedVariables false
set_option linter.unusedSimpArgs false
set_option maxHeartbeats 800000
set_option maxRecDepth 100000
namespace Go.Proofs.YtbcbfjnlnmhpbaaGreat
open Go Go.X
def placeS (s : St) (id : Int) : Option Nat := s.al.findIdx? fun a => decide (a.1 = id)
def resolveS (s : St) (id : Int) : St × Int :=
  match placeS s id with
  | none => (s, 5)
  | some i => ({ s with al := s.al.eraseIdx i, out := giveS s.out id, has := cutM s.has id, rows := dropRows s.rows id ((lookM s.has id).getD []) }, 0)
end Go.Proofs.YtbcbfjnlnmhpbaaGreat
set_option linter.unusedVariables false
set_option linter.unusedSimpArgs false
set_option maxHeartbeats 800000
set_option maxRecDepth 100000
namespace Go.Proofs.YtbcbfjnlnmhpbaaGreat
open Go Go.X
end Go.Proofs.YtbcbfjnlnmhpbaaGreat
set_option linter.unusedVariables false
set_option linter.unusedSimpArgs false
set_option maxHeartbeats 400000
set_option maxRecDepth 100000
namespace Go.Proofs.YtbcbfjnlnmhpbaaGreat
open Go Go.X
abbrev AlS := Int × List Lab × Nat
def hasOf (al : List AlS) : List (Int × List Lab) := al.map fun a => (a.1, a.2.1)
structure Gd (s : St) : Prop where
  ids : Ris (s.al.map (·.1))
  out : s.out = s.al.map (·.1)
  has : s.has = hasOf s.al
  ix : IxI s.has s.rows
  le : ∀ a ∈ s.al, 1 ≤ a.1 ∧ a.1 ≤ s.last
  sets : ∀ a ∈ s.al, isS a.2.1 = true
theorem Gd.new (m : Int) : Gd (St.new m) := ⟨by simp [St.new], rfl, rfl, IxI.nil, by simp [St.new], by simp [St.new]⟩
theorem Gd.labs {s : St} (h : Gd s) : ∀ a ∈ s.al, a.2.1.length ≤ 1000 := fun a ha => by have := isS_len (h.sets a ha); omega
end Go.Proofs.YtbcbfjnlnmhpbaaGreat
set_option linter.unusedVariables false
set_option linter.unusedSimpArgs false
set_option maxHeartbeats 400000
namespace Go.Rex
inductive Rx where
  | set (s : List Nat)
  | node (op : Nat) (l : Rx)
  | nil
  | cons (x l : Rx)
  deriving DecidableEq, Inhabited
inductive Rt (R : Nat → Nat → Prop) : Nat → Nat → Prop where
  | refl (i : Nat) : Rt R i i
  | step {i k j : Nat} : R i k → Rt R k j → Rt R i j
theorem Rt.trans {R : Nat → Nat → Prop} {i k j : Nat} (h1 : Rt R i k) (h2 : Rt R k j) : Rt R i j := by
  induction h1 with
  | refl => exact h2
  | step h _ ih => exact .step h (ih h2)
def Lg (H : List Nat → Nat → Prop) : Rx → Bool → Nat → Nat → Prop
  | .set s, _, i, j => H s i ∧ j = i + 1
  | .node op l, _, i, j => if op = 2 then Lg H l true i j else if op = 3 then Lg H l false i j else if op = 4 then Rt (Lg H l true) i j else if op = 5 then ∃ k, Lg H l true i k ∧ Rt (Lg H l true) k j else i = j ∨ Lg H l true i j
  | .nil, b, i, j => b = true ∧ i = j
  | .cons x l, b, i, j => if b = true then ∃ k, Lg H x true i k ∧ Lg H l true k j else Lg H x true i j ∨ Lg H l false i j
def cnt : Rx → Nat
  | .cons _ l => cnt l + 1
  | _ => 0
def sz : Rx → Nat
  | .set _ => 1
  | .node op l => if op = 2 then sz l else if op = 3 then sz l + 2 * (cnt l - 1) else if op = 4 then sz l + 2 else sz l + 1
  | .nil => 0
  | .cons x l => sz x + sz l
structure Stp where
  op : Nat
  set : List Nat
  a : Nat
  b : Nat
  deriving DecidableEq, Inhabited
def byteS (s : List Nat) : Stp := ⟨1, s, 0, 0⟩
def zero4 : List Nat := [0, 0, 0, 0]
def splitS (a b : Nat) : Stp := ⟨2, zero4, a, b⟩
def jumpS (a : Nat) : Stp := ⟨3, zero4, a, 0⟩
def matchS : Stp := ⟨4, zero4, 0, 0⟩
def code : Rx → Option Nat → Nat → List Stp
  | .set s, _, _ => [byteS s]
  | .node op l, _, p => if op = 2 then code l none p else if op = 3 then code l (some (p + (sz l + 2 * (cnt l - 1)))) p else if op = 4 then splitS (p + 1) (p + 2 + sz l) :: (code l none (p + 1) ++ [jumpS p]) else if op = 5 then code l none p ++ [splitS p (p + sz l + 1)] else splitS (p + 1) (p + 1 + sz l) :: code l none (p + 1)
  | .nil, _, _ => []
  | .cons x l, none, p => code x none p ++ code l none (p + sz x)
  | .cons x l, some e, p => if l = .nil then code x none p else splitS (p + 1) (p + 2 + sz x) :: (code x none (p + 1) ++ jumpS e :: code l (some e) (p + 2 + sz x))
def Wf : Rx → Prop
  | .set _ => True
  | .node op l => Wf l ∧ (op = 3 → cnt l ≠ 0)
  | .nil => True
  | .cons x l => Wf x ∧ Wf l
def Ls : Rx → Prop
  | .set _ => False
  | .node _ _ => False
  | .nil => True
  | .cons _ l => Ls l
def Wl : Rx → Prop
  | .set _ => True
  | .node _ l => Ls l ∧ Wl l
  | .nil => True
  | .cons x l => Wl x ∧ Wl l ∧ Ls l
theorem ls_nil {l : Rx} (h : Ls l) (hc : cnt l = 0) : l = .nil := by
  cases l with
  | set => exact h.elim
  | node => exact h.elim
  | nil => rfl
  | cons => simp [cnt] at hc
theorem code_len (x : Rx) : Wf x → Wl x → ∀ p, (code x none p).length = sz x ∧ ∀ e, Ls x → cnt x ≠ 0 → (code x (some e) p).length = sz x + 2 * (cnt x - 1) := by
  induction x with
  | set s => intro _ _ p; exact ⟨rfl, fun e h => h.elim⟩
  | nil => intro _ _ p; exact ⟨rfl, fun e _ h => absurd rfl h⟩
  | node op l ih =>
    intro hw hl p
    refine ⟨?_, fun e h => h.elim⟩
    have h1 := ih hw.1 hl.2
    simp only [code, sz]
    split
    · exact (h1 p).1
    · split
      · rename_i h2 h3; exact (h1 p).2 _ hl.1 (hw.2 h3)
      · split
        · simp [(h1 (p + 1)).1]
        · split
          · simp [(h1 p).1]
          · simp [(h1 (p + 1)).1]
  | cons x l ihx ihl =>
    intro hw hl p
    have hx := ihx hw.1 hl.1
    have h2 := ihl hw.2 hl.2.1
    refine ⟨by simp [code, sz, (hx p).1, (h2 _).1], fun e _ _ => ?_⟩
    simp only [code]
    split
    · rename_i h; subst h; simp [sz, cnt, (hx p).1]
    · rename_i h
      have hc : cnt l ≠ 0 := fun hc => h (ls_nil hl.2.2 hc)
      simp only [List.length_cons, List.length_append, (hx _).1, (h2 _).2 e hl.2.2 hc, sz, cnt]
      omega
def Seg (P : List Stp) (p : Nat) (l : List Stp) : Prop := ∀ k st, l[k]? = some st → P[p + k]? = some st
theorem Seg.append {P : List Stp} {p : Nat} {l1 l2 : List Stp} (h : Seg P p (l1 ++ l2)) : Seg P p l1 ∧ Seg P (p + l1.length) l2 := by
  refine ⟨fun k st hk => h k st ?_, fun k st hk => ?_⟩
  · rw [List.getElem?_append_left (List.getElem?_eq_some_iff.1 hk).1]; exact hk
  · have := h (l1.length + k) st (by rw [List.getElem?_append_right (by omega), Nat.add_sub_cancel_left]; exact hk)
    rwa [← Nat.add_assoc] at this
theorem Seg.cons {P : List Stp} {p : Nat} {s : Stp} {l : List Stp} (h : Seg P p (s :: l)) : P[p]? = some s ∧ Seg P (p + 1) l :=
  ⟨h 0 s rfl, fun k st hk => by have := h (k + 1) st (by simpa using hk); rwa [show p + (k + 1) = p + 1 + k by omega] at this⟩
inductive Go1 (P : List Stp) (H : List Nat → Nat → Prop) : Nat → Nat → Nat → Nat → Prop where
  | byte {c i : Nat} {st : Stp} : P[c]? = some st → st.op = 1 → H st.set i → Go1 P H c i (c + 1) (i + 1)
  | left {c i : Nat} {st : Stp} : P[c]? = some st → st.op = 2 → Go1 P H c i st.a i
  | right {c i : Nat} {st : Stp} : P[c]? = some st → st.op = 2 → Go1 P H c i st.b i
  | jump {c i : Nat} {st : Stp} : P[c]? = some st → st.op = 3 → Go1 P H c i st.a i
inductive Rn (P : List Stp) (H : List Nat → Nat → Prop) : Nat → Nat → Nat → Nat → Nat → Prop where
  | zero (c i : Nat) : Rn P H 0 c i c i
  | step {n c i c' i' d j : Nat} : Go1 P H c i c' i' → Rn P H n c' i' d j → Rn P H (n + 1) c i d j
def Re (P : List Stp) (H : List Nat → Nat → Prop) (c i d j : Nat) : Prop := ∃ n, Rn P H n c i d j
section
variable {P : List Stp} {H : List Nat → Nat → Prop}
theorem Re.refl (c i : Nat) : Re P H c i c i := ⟨0, .zero c i⟩
theorem Re.step {c i c' i' d j : Nat} (h : Go1 P H c i c' i') (h2 : Re P H c' i' d j) : Re P H c i d j := let ⟨n, hn⟩ := h2; ⟨n + 1, .step h hn⟩
theorem Re.trans {c i c' i' d j : Nat} (h : Re P H c i c' i') (h2 : Re P H c' i' d j) : Re P H c i d j := by
  obtain ⟨n, hn⟩ := h
  induction hn with
  | zero => exact h2
  | step h _ ih => exact .step h (ih h2)
theorem fwd (x : Rx) : Wf x → Wl x → ∀ p i j, (Seg P p (code x none p) → Lg H x true i j → Re P H p i (p + sz x) j) ∧ (∀ e, Ls x → cnt x ≠ 0 → e = p + (sz x + 2 * (cnt x - 1)) → Seg P p (code x (some e) p) → Lg H x false i j → Re P H p i e j) := by
  induction x with
  | set s =>
    intro _ _ p i j
    refine ⟨fun hs h => ?_, fun e h => h.elim⟩
    obtain ⟨h1, rfl⟩ := h
    exact .step (.byte hs.cons.1 rfl h1) (.refl _ _)
  | nil =>
    intro _ _ p i j
    refine ⟨fun hs h => ?_, fun e _ h => absurd rfl h⟩
    obtain ⟨_, rfl⟩ := h
    exact .refl _ _
  | node op l ih =>
    intro hw hl p i j
    refine ⟨fun hs h => ?_, fun e h => h.elim⟩
    have h1 := ih hw.1 hl.2
    simp only [code] at hs
    simp only [Lg] at h
    simp only [sz]
    split at hs
    · rename_i e
      rw [if_pos e] at h ⊢
      exact (h1 p i j).1 hs h
    · rename_i n2
      rw [if_neg n2] at h ⊢
      split at hs
      · rename_i e
        rw [if_pos e] at h ⊢
        exact (h1 p i j).2 _ hl.1 (hw.2 e) rfl hs h
      · rename_i n3
        rw [if_neg n3] at h ⊢
        split at hs
        · rename_i e
          rw [if_pos e] at h ⊢
          obtain ⟨hs1, hs2⟩ := hs.cons
          obtain ⟨hs2, hs3⟩ := hs2.append
          rw [(code_len l hw.1 hl.2 _).1] at hs3
          induction h with
          | refl i => exact .step (.right hs1 rfl) (by show Re P H (p + 2 + sz l) i _ i; rw [show p + 2 + sz l = p + (sz l + 2) by omega]; exact .refl _ _)
          | step h _ ih2 => exact .step (.left hs1 rfl) (((h1 (p + 1) _ _).1 hs2 h).trans (.step (.jump hs3.cons.1 rfl) ih2))
        · rename_i n4
          rw [if_neg n4] at h ⊢
          split at hs
          · rename_i e
            rw [if_pos e] at h
            obtain ⟨hs2, hs3⟩ := hs.append
            rw [(code_len l hw.1 hl.2 _).1] at hs3
            obtain ⟨k, hk, hr⟩ := h
            refine ((h1 p _ _).1 hs2 hk).trans ?_
            clear hk
            induction hr with
            | refl i => exact .step (.right hs3.cons.1 rfl) (.refl _ _)
            | step h _ ih2 => exact .step (.left hs3.cons.1 rfl) (((h1 p _ _).1 hs2 h).trans ih2)
          · rename_i n5
            rw [if_neg n5] at h
            obtain ⟨hs1, hs2⟩ := hs.cons
            rcases h with rfl | h
            · exact .step (.right hs1 rfl) (by show Re P H (p + 1 + sz l) i _ i; rw [show p + 1 + sz l = p + (sz l + 1) by omega]; exact .refl _ _)
            · exact .step (.left hs1 rfl) (by have := (h1 (p + 1) _ _).1 hs2 h; rwa [show p + 1 + sz l = p + (sz l + 1) by omega] at this)
  | cons x l ihx ihl =>
    intro hw hl p i j
    have hx := ihx hw.1 hl.1
    have h2 := ihl hw.2 hl.2.1
    refine ⟨fun hs h => ?_, fun e _ _ he hs h => ?_⟩
    · simp only [code] at hs
      obtain ⟨hs1, hs2⟩ := hs.append
      rw [(code_len x hw.1 hl.1 _).1] at hs2
      simp only [Lg, if_true] at h
      obtain ⟨k, ha, hb⟩ := h
      have := ((hx p i k).1 hs1 ha).trans ((h2 _ k j).1 hs2 hb)
      simpa only [sz, Nat.add_assoc] using this
    · simp only [code] at hs
      simp only [Lg, Bool.false_eq_true, if_false] at h
      split at hs
      · rename_i hn
        subst hn
        rcases h with h | h
        · have := (hx p i j).1 hs h
          rw [he]
          simpa [sz, cnt] using this
        · exact absurd h.1 (by decide)
      · rename_i hn
        have hc : cnt l ≠ 0 := fun hc => hn (ls_nil hl.2.2 hc)
        obtain ⟨hs1, hs2⟩ := hs.cons
        obtain ⟨hs2, hs3⟩ := hs2.append
        rw [(code_len x hw.1 hl.1 _).1] at hs3
        obtain ⟨hs3, hs4⟩ := hs3.cons
        rcases h with h | h
        · exact .step (.left hs1 rfl) (((hx (p + 1) i j).1 hs2 h).trans (.step (.jump hs3 rfl) (.refl _ _)))
        · refine .step (.right hs1 rfl) ?_
          show Re P H (p + 2 + sz x) i e j
          rw [show p + 1 + sz x + 1 = p + 2 + sz x by omega] at hs4
          exact (h2 _ i j).2 e hl.2.2 hc (by simp only [sz, cnt] at he; omega) hs4 h
theorem Rn.inv {n c i d j : Nat} (h : Rn P H n c i d j) (hne : c ≠ d) : ∃ m c' i', n = m + 1 ∧ Go1 P H c i c' i' ∧ Rn P H m c' i' d j := by
  cases h with
  | zero => exact absurd rfl hne
  | step h1 h2 => exact ⟨_, _, _, rfl, h1, h2⟩
theorem Go1.of {c i c' i' : Nat} {st : Stp} (h : Go1 P H c i c' i') (hs : P[c]? = some st) : (st.op = 1 ∧ H st.set i ∧ c' = c + 1 ∧ i' = i + 1) ∨ (st.op = 2 ∧ i' = i ∧ (c' = st.a ∨ c' = st.b)) ∨ (st.op = 3 ∧ i' = i ∧ c' = st.a) := by
  cases h with
  | byte a b d => rw [hs] at a; cases a; exact .inl ⟨b, d, rfl, rfl⟩
  | left a b => rw [hs] at a; cases a; exact .inr (.inl ⟨b, rfl, .inl rfl⟩)
  | right a b => rw [hs] at a; cases a; exact .inr (.inl ⟨b, rfl, .inr rfl⟩)
  | jump a b => rw [hs] at a; cases a; exact .inr (.inr ⟨b, rfl, rfl⟩)
theorem Go1.split {c i c' i' a b : Nat} (h : Go1 P H c i c' i') (hs : P[c]? = some (splitS a b)) : i' = i ∧ (c' = a ∨ c' = b) := by
  rcases h.of hs with ⟨h1, _⟩ | ⟨_, h2, h3⟩ | ⟨h1, _⟩
  · exact absurd h1 (fun h => by cases h)
  · exact ⟨h2, h3⟩
  · exact absurd h1 (fun h => by cases h)
theorem Go1.jumped {c i c' i' a : Nat} (h : Go1 P H c i c' i') (hs : P[c]? = some (jumpS a)) : i' = i ∧ c' = a := by
  rcases h.of hs with ⟨h1, _⟩ | ⟨h1, _⟩ | ⟨_, h2, h3⟩
  · exact absurd h1 (fun h => by cases h)
  · exact absurd h1 (fun h => by cases h)
  · exact ⟨h2, h3⟩
theorem bwd (x : Rx) : Wf x → Wl x → ∀ p n i d j, (Seg P p (code x none p) → Rn P H n p i d j → (d < p ∨ p + sz x ≤ d) → ∃ m k, m ≤ n ∧ Lg H x true i k ∧ Rn P H m (p + sz x) k d j) ∧ (∀ e, Ls x → cnt x ≠ 0 → e = p + (sz x + 2 * (cnt x - 1)) → Seg P p (code x (some e) p) → Rn P H n p i d j → (d < p ∨ e ≤ d) → ∃ m k, m ≤ n ∧ Lg H x false i k ∧ Rn P H m e k d j) := by
  induction x with
  | set s =>
    intro _ _ p n i d j
    refine ⟨fun hs h hd => ?_, fun e h => h.elim⟩
    have hd' : p ≠ d := by simp only [sz] at hd; omega
    obtain ⟨m, c', i', rfl, h1, h2⟩ := h.inv hd'
    rcases h1.of hs.cons.1 with ⟨_, h3, rfl, rfl⟩ | ⟨h3, _⟩ | ⟨h3, _⟩
    · exact ⟨m, i + 1, by omega, ⟨h3, rfl⟩, h2⟩
    · exact absurd h3 (fun h => by cases h)
    · exact absurd h3 (fun h => by cases h)
  | nil =>
    intro _ _ p n i d j
    exact ⟨fun hs h hd => ⟨n, i, Nat.le_refl _, ⟨rfl, rfl⟩, h⟩, fun e _ h => absurd rfl h⟩
  | node op l ih =>
    intro hw hl p n i d j
    refine ⟨fun hs h hd => ?_, fun e h => h.elim⟩
    have h1 := ih hw.1 hl.2
    simp only [code] at hs
    simp only [Lg]
    simp only [sz] at hd ⊢
    split at hs
    · rename_i e
      rw [if_pos e] at hd ⊢
      simp only [if_pos e]
      exact (h1 p n i d j).1 hs h hd
    · rename_i n2
      rw [if_neg n2] at hd ⊢
      simp only [if_neg n2]
      split at hs
      · rename_i e
        rw [if_pos e] at hd ⊢
        simp only [if_pos e]
        exact (h1 p n i d j).2 _ hl.1 (hw.2 e) rfl hs h hd
      · rename_i n3
        rw [if_neg n3] at hd ⊢
        simp only [if_neg n3]
        split at hs
        · rename_i e
          rw [if_pos e] at hd ⊢
          simp only [if_pos e]
          obtain ⟨hs1, hs2⟩ := hs.cons
          obtain ⟨hs2, hs3⟩ := hs2.append
          rw [(code_len l hw.1 hl.2 _).1] at hs3
          induction n using Nat.strongRecOn generalizing i with
          | _ n ih2 =>
            obtain ⟨m, c', i', rfl, g1, g2⟩ := h.inv (by omega)
            obtain ⟨rfl, rfl | rfl⟩ := g1.split hs1
            · obtain ⟨m2, k, hm2, hk, g3⟩ := (h1 (p + 1) m i' d j).1 hs2 g2 (by omega)
              obtain ⟨m3, c3, i3, rfl, g4, g5⟩ := g3.inv (by omega)
              obtain ⟨rfl, rfl⟩ := g4.jumped hs3.cons.1
              obtain ⟨m4, k4, hm4, hk4, g6⟩ := ih2 m3 (by omega) i3 g5
              exact ⟨m4, k4, by omega, .step hk hk4, g6⟩
            · exact ⟨m, i', by omega, .refl _, by rwa [show p + 2 + sz l = p + (sz l + 2) by omega] at g2⟩
        · rename_i n4
          rw [if_neg n4] at hd ⊢
          simp only [if_neg n4]
          split at hs
          · rename_i e
            simp only [if_pos e]
            obtain ⟨hs2, hs3⟩ := hs.append
            rw [(code_len l hw.1 hl.2 _).1] at hs3
            induction n using Nat.strongRecOn generalizing i with
            | _ n ih2 =>
              obtain ⟨m2, k, hm2, hk, g3⟩ := (h1 p n i d j).1 hs2 h (by omega)
              obtain ⟨m3, c3, i3, rfl, g4, g5⟩ := g3.inv (by omega)
              obtain ⟨rfl, rfl | rfl⟩ := g4.split hs3.cons.1
              · obtain ⟨m4, k4, hm4, ⟨k5, hk5, hr⟩, g6⟩ := ih2 m3 (by omega) i3 g5
                exact ⟨m4, k4, by omega, ⟨i3, hk, .step hk5 hr⟩, g6⟩
              · exact ⟨m3, i3, by omega, ⟨i3, hk, .refl _⟩, g5⟩
          · rename_i n5
            simp only [if_neg n5]
            obtain ⟨hs1, hs2⟩ := hs.cons
            obtain ⟨m, c', i', rfl, g1, g2⟩ := h.inv (by omega)
            obtain ⟨rfl, rfl | rfl⟩ := g1.split hs1
            · obtain ⟨m2, k, hm2, hk, g3⟩ := (h1 (p + 1) m i' d j).1 hs2 g2 (by omega)
              exact ⟨m2, k, by omega, .inr hk, by rwa [show p + 1 + sz l = p + (sz l + 1) by omega] at g3⟩
            · exact ⟨m, i', by omega, .inl rfl, by rwa [show p + 1 + sz l = p + (sz l + 1) by omega] at g2⟩
  | cons x l ihx ihl =>
    intro hw hl p n i d j
    have hx := ihx hw.1 hl.1
    have h2 := ihl hw.2 hl.2.1
    refine ⟨fun hs h hd => ?_, fun e _ _ he hs h hd => ?_⟩
    · simp only [code] at hs
      simp only [sz] at hd ⊢
      obtain ⟨hs1, hs2⟩ := hs.append
      rw [(code_len x hw.1 hl.1 _).1] at hs2
      obtain ⟨m, k, hm, hk, g1⟩ := (hx p n i d j).1 hs1 h (by omega)
      obtain ⟨m2, k2, hm2, hk2, g2⟩ := (h2 _ m k d j).1 hs2 g1 (by omega)
      exact ⟨m2, k2, by omega, by simp only [Lg, if_true]; exact ⟨k, hk, hk2⟩, by rwa [Nat.add_assoc] at g2⟩
    · simp only [code] at hs
      simp only [Lg, Bool.false_eq_true, if_false]
      simp only [sz, cnt] at he
      split at hs
      · rename_i hn
        subst hn
        simp only [sz, cnt] at he
        obtain ⟨m, k, hm, hk, g1⟩ := (hx p n i d j).1 hs h (by omega)
        exact ⟨m, k, hm, .inl hk, by rwa [show e = p + sz x by omega]⟩
      · rename_i hn
        have hc : cnt l ≠ 0 := fun hc => hn (ls_nil hl.2.2 hc)
        obtain ⟨hs1, hs2⟩ := hs.cons
        obtain ⟨hs2, hs3⟩ := hs2.append
        rw [(code_len x hw.1 hl.1 _).1] at hs3
        obtain ⟨hs3, hs4⟩ := hs3.cons
        rw [show p + 1 + sz x + 1 = p + 2 + sz x by omega] at hs4
        obtain ⟨m, c', i', rfl, g1, g2⟩ := h.inv (by omega)
        obtain ⟨rfl, rfl | rfl⟩ := g1.split hs1
        · obtain ⟨m2, k, hm2, hk, g3⟩ := (hx (p + 1) m i' d j).1 hs2 g2 (by omega)
          obtain ⟨m3, c3, i3, rfl, g4, g5⟩ := g3.inv (by omega)
          obtain ⟨rfl, rfl⟩ := g4.jumped hs3
          exact ⟨m3, i3, by omega, .inl hk, g5⟩
        · obtain ⟨m2, k, hm2, hk, g3⟩ := (h2 _ m i' d j).2 e hl.2.2 hc (by omega) hs4 g2 (by omega)
          exact ⟨m2, k, by omega, .inr hk, g3⟩
end
def whole (x : Rx) : List Stp := code x none 0 ++ [matchS]
theorem whole_len {x : Rx} (hw : Wf x) (hl : Wl x) : (whole x).length = sz x + 1 := by simp [whole, (code_len x hw hl 0).1]
theorem accepts {H : List Nat → Nat → Prop} {x : Rx} (hw : Wf x) (hl : Wl x) (j : Nat) : Re (whole x) H 0 0 (sz x) j ↔ Lg H x true 0 j := by
  have hs : Seg (whole x) 0 (code x none 0) := fun k st hk => by
    rw [Nat.zero_add]; unfold whole
    rw [List.getElem?_append_left (List.getElem?_eq_some_iff.1 hk).1]; exact hk
  constructor
  · rintro ⟨n, hn⟩
    obtain ⟨m, k, _, hk, g⟩ := (bwd x hw hl 0 n 0 (sz x) j).1 hs hn (by omega)
    rw [Nat.zero_add] at g
    cases g with
    | zero => exact hk
    | step g1 _ =>
      have hm : (whole x)[sz x]? = some matchS := by
        unfold whole
        rw [List.getElem?_append_right (by rw [(code_len x hw hl 0).1]; exact Nat.le_refl _), (code_len x hw hl 0).1]
        simp
      rcases g1.of hm with ⟨h, _⟩ | ⟨h, _⟩ | ⟨h, _⟩ <;> exact absurd h (fun h => by cases h)
  · intro h
    have := (fwd (P := whole x) (H := H) x hw hl 0 0 j).1 hs h
    rwa [Nat.zero_add] at this
end Go.Rex
set_option linter.unusedVariables false
set_option linter.unusedSimpArgs false
set_option maxHeartbeats 400000
namespace Go.Rex
def E1 (P : List Stp) (c d : Nat) : Prop := ∃ st, P[c]? = some st ∧ (st.op = 2 ∧ (d = st.a ∨ d = st.b) ∨ st.op = 3 ∧ d = st.a)
def Leaf (P : List Stp) (c : Nat) : Prop := ∃ st, P[c]? = some st ∧ st.op ≠ 2 ∧ st.op ≠ 3
structure Come (P : List Stp) (at_ been r been' : Nat) : Prop where
  sub : ∀ v, been.testBit v = true → been'.testBit v = true
  here : been'.testBit at_ = true
  sound : ∀ v, been'.testBit v = true → been.testBit v = true ∨ Rt (E1 P) at_ v
  closed : ∀ v, been'.testBit v = true → been.testBit v = false → ∀ u, E1 P v u → been'.testBit u = true
  ret : ∀ v, r.testBit v = true ↔ been'.testBit v = true ∧ been.testBit v = false ∧ Leaf P v
section
variable {P : List Stp}
theorem Come.there {c been : Nat} (h : been.testBit c = true) : Come P c been 0 been :=
  ⟨fun _ h => h, h, fun _ h => .inl h, fun v h1 h2 => (by rw [h1] at h2; cases h2), fun v => (by
    constructor
    · intro h; simp at h
    · rintro ⟨h1, h2, _⟩; rw [h1] at h2; cases h2)⟩
theorem bit_or {b c v : Nat} : (b ||| 1 <<< c).testBit v = true ↔ b.testBit v = true ∨ v = c := by
  rw [Nat.testBit_or, Nat.one_shiftLeft, Nat.testBit_two_pow, Bool.or_eq_true, decide_eq_true_eq]
  constructor <;> rintro (h | h) <;> simp [h]
theorem bit_or' {b c v : Nat} : (b ||| 1 <<< c).testBit v = false ↔ b.testBit v = false ∧ v ≠ c := by
  rw [← Bool.not_eq_true, bit_or, not_or, Bool.not_eq_true]
theorem bit_one {c v : Nat} : (1 <<< c).testBit v = true ↔ v = c := by
  have := bit_or (b := 0) (c := c) (v := v)
  simpa using this
theorem Come.leaf {c been : Nat} (h : been.testBit c = false) (hl : Leaf P c) : Come P c been (1 <<< c) (been ||| 1 <<< c) := by
  obtain ⟨st, h1, h2, h3⟩ := hl
  refine ⟨fun v hv => bit_or.2 (.inl hv), bit_or.2 (.inr rfl), fun v hv => ?_, fun v hv hn u hu => ?_, fun v => ?_⟩
  · rcases bit_or.1 hv with h | rfl
    · exact .inl h
    · exact .inr (.refl _)
  · rcases bit_or.1 hv with h' | rfl
    · rw [h'] at hn; cases hn
    · obtain ⟨s2, g1, g2⟩ := hu
      rw [h1] at g1; cases g1
      rcases g2 with ⟨g, _⟩ | ⟨g, _⟩
      · exact absurd g h2
      · exact absurd g h3
  · rw [bit_one]
    constructor
    · rintro rfl; exact ⟨bit_or.2 (.inr rfl), h, st, h1, h2, h3⟩
    · rintro ⟨a, b, _⟩
      rcases bit_or.1 a with h' | h'
      · rw [h'] at b; cases b
      · exact h'
theorem Come.jump {c been r b' : Nat} {st : Stp} (h : been.testBit c = false) (hs : P[c]? = some st) (ho : st.op = 3) (h1 : Come P st.a (been ||| 1 <<< c) r b') : Come P c been r b' := by
  have he : E1 P c st.a := ⟨st, hs, .inr ⟨ho, rfl⟩⟩
  refine ⟨fun v hv => h1.sub v (bit_or.2 (.inl hv)), h1.sub _ (bit_or.2 (.inr rfl)), fun v hv => ?_, fun v hv hn u hu => ?_, fun v => ?_⟩
  · rcases h1.sound v hv with h' | h'
    · rcases bit_or.1 h' with h' | rfl
      · exact .inl h'
      · exact .inr (.refl _)
    · exact .inr (.step he h')
  · by_cases e : v = c
    · subst e
      obtain ⟨s2, g1, g2⟩ := hu
      rw [hs] at g1; cases g1
      rcases g2 with ⟨g, _⟩ | ⟨_, rfl⟩
      · rw [ho] at g; cases g
      · exact h1.here
    · exact h1.closed v hv (bit_or'.2 ⟨hn, e⟩) u hu
  · rw [h1.ret]
    constructor
    · rintro ⟨a, b, d⟩; exact ⟨a, (bit_or'.1 b).1, d⟩
    · rintro ⟨a, b, d⟩
      refine ⟨a, bit_or'.2 ⟨b, ?_⟩, d⟩
      rintro rfl
      obtain ⟨s2, g1, g2, g3⟩ := d
      rw [hs] at g1; cases g1
      exact g3 ho
theorem Come.split {c been r1 b1 r2 b2 : Nat} {st : Stp} (h : been.testBit c = false) (hs : P[c]? = some st) (ho : st.op = 2) (h1 : Come P st.a (been ||| 1 <<< c) r1 b1) (h2 : Come P st.b b1 r2 b2) : Come P c been (r1 ||| r2) b2 := by
  have hea : E1 P c st.a := ⟨st, hs, .inl ⟨ho, .inl rfl⟩⟩
  have heb : E1 P c st.b := ⟨st, hs, .inl ⟨ho, .inr rfl⟩⟩
  refine ⟨fun v hv => h2.sub v (h1.sub v (bit_or.2 (.inl hv))), h2.sub _ (h1.sub _ (bit_or.2 (.inr rfl))), fun v hv => ?_, fun v hv hn u hu => ?_, fun v => ?_⟩
  · rcases h2.sound v hv with h' | h'
    · rcases h1.sound v h' with h' | h'
      · rcases bit_or.1 h' with h' | rfl
        · exact .inl h'
        · exact .inr (.refl _)
      · exact .inr (.step hea h')
    · exact .inr (.step heb h')
  · by_cases e : v = c
    · subst e
      obtain ⟨s2, g1, g2⟩ := hu
      rw [hs] at g1; cases g1
      rcases g2 with ⟨_, rfl | rfl⟩ | ⟨g, _⟩
      · exact h2.sub _ h1.here
      · exact h2.here
      · rw [ho] at g; cases g
    · cases hb : b1.testBit v with
      | true => exact h2.sub _ (h1.closed v hb (bit_or'.2 ⟨hn, e⟩) u hu)
      | false => exact h2.closed v hv hb u hu
  · rw [Nat.testBit_or, Bool.or_eq_true, h1.ret, h2.ret]
    constructor
    · rintro (⟨a, b, d⟩ | ⟨a, b, d⟩)
      · exact ⟨h2.sub _ a, (bit_or'.1 b).1, d⟩
      · refine ⟨a, ?_, d⟩
        cases hv : been.testBit v with
        | false => rfl
        | true => rw [h1.sub v (bit_or.2 (.inl hv))] at b; cases b
    · rintro ⟨a, b, d⟩
      cases hb : b1.testBit v with
      | true =>
        refine .inl ⟨rfl, bit_or'.2 ⟨b, ?_⟩, d⟩
        rintro rfl
        obtain ⟨s2, g1, g2, g3⟩ := d
        rw [hs] at g1; cases g1
        exact g2 ho
      | false => exact .inr ⟨a, rfl, d⟩
def miss (n been : Nat) : Nat := ((List.range n).filter fun v => !been.testBit v).length
theorem miss_lt {n been b' c : Nat} (hc : c < n) (h : been.testBit c = false) (hs : ∀ v, been.testBit v = true → b'.testBit v = true) (h' : b'.testBit c = true) : miss n b' < miss n been := by
  unfold miss
  have key : ∀ l : List Nat, c ∈ l → (l.filter fun v => !b'.testBit v).length < (l.filter fun v => !been.testBit v).length := by
    have le : ∀ l : List Nat, (l.filter fun v => !b'.testBit v).length ≤ (l.filter fun v => !been.testBit v).length := by
      intro l
      induction l with
      | nil => exact Nat.le_refl _
      | cons x l ih =>
        rw [List.filter_cons, List.filter_cons]
        cases hx : been.testBit x with
        | true => simp [hs x hx, ih]
        | false => cases b'.testBit x <;> simp <;> omega
    intro l hl
    induction l with
    | nil => cases hl
    | cons x l ih =>
      rw [List.filter_cons, List.filter_cons]
      rcases List.mem_cons.1 hl with rfl | hl
      · simp only [h, h', Bool.not_true, Bool.not_false, Bool.false_eq_true, if_false, if_true, List.length_cons]
        have := le l
        omega
      · have := ih hl
        cases hx : been.testBit x with
        | true => simp [hs x hx]; omega
        | false => cases b'.testBit x <;> simp <;> omega
  exact key _ (List.mem_range.2 hc)
variable {H : List Nat → Nat → Prop}
def Now (P : List Stp) (H : List Nat → Nat → Prop) (k m : Nat) : Prop := ∀ v, m.testBit v = true ↔ Leaf P v ∧ Re P H 0 0 v k
theorem Re.pos {c i d j : Nat} (h : Re P H c i d j) : i ≤ j := by
  obtain ⟨n, hn⟩ := h
  induction hn with
  | zero => exact Nat.le_refl _
  | step h _ ih => cases h <;> omega
theorem re_eps {c d i : Nat} : Re P H c i d i ↔ Rt (E1 P) c d := by
  constructor
  · rintro ⟨n, hn⟩
    have key : ∀ n c d i j, Rn P H n c i d j → i = j → Rt (E1 P) c d := by
      intro n
      induction n with
      | zero => intro c d i j h e; cases h; exact .refl _
      | succ n ih =>
        intro c d i j h e
        cases h with
        | step h1 h2 =>
          cases h1 with
          | byte => have := Re.pos ⟨n, h2⟩; omega
          | left a b => exact .step ⟨_, a, .inl ⟨b, .inl rfl⟩⟩ (ih _ _ _ _ h2 e)
          | right a b => exact .step ⟨_, a, .inl ⟨b, .inr rfl⟩⟩ (ih _ _ _ _ h2 e)
          | jump a b => exact .step ⟨_, a, .inr ⟨b, rfl⟩⟩ (ih _ _ _ _ h2 e)
    exact key n c d i i hn rfl
  · intro h
    induction h with
    | refl => exact .refl _ _
    | step h _ ih =>
      obtain ⟨st, hs, ⟨ho, rfl | rfl⟩ | ⟨ho, rfl⟩⟩ := h
      · exact .step (.left hs ho) ih
      · exact .step (.right hs ho) ih
      · exact .step (.jump hs ho) ih
theorem last_byte {c i d k : Nat} (h : Re P H c i d (k + 1)) (hi : i ≤ k) : ∃ e st, P[e]? = some st ∧ st.op = 1 ∧ H st.set k ∧ Re P H c i e k ∧ Rt (E1 P) (e + 1) d := by
  obtain ⟨n, hn⟩ := h
  have key : ∀ n c i d j, Rn P H n c i d j → j = k + 1 → i ≤ k → ∃ e st, P[e]? = some st ∧ st.op = 1 ∧ H st.set k ∧ Re P H c i e k ∧ Rt (E1 P) (e + 1) d := by
    intro n
    induction n with
    | zero => intro c i d j h e hi; cases h; omega
    | succ n ih =>
      intro c i d j h e hi
      cases h with
      | step h1 h2 =>
        cases h1 with
        | @byte st a b hh =>
          by_cases hk : i = k
          · subst hk
            subst e
            exact ⟨c, st, a, b, hh, .refl _ _, re_eps.1 ⟨n, h2⟩⟩
          · obtain ⟨e', st', h3, h4, h5, h6, h7⟩ := ih _ _ _ _ h2 e (by omega)
            exact ⟨e', st', h3, h4, h5, .step (.byte a b hh) h6, h7⟩
        | left a b => obtain ⟨e', st', h3, h4, h5, h6, h7⟩ := ih _ _ _ _ h2 e hi; exact ⟨e', st', h3, h4, h5, .step (.left a b) h6, h7⟩
        | right a b => obtain ⟨e', st', h3, h4, h5, h6, h7⟩ := ih _ _ _ _ h2 e hi; exact ⟨e', st', h3, h4, h5, .step (.right a b) h6, h7⟩
        | jump a b => obtain ⟨e', st', h3, h4, h5, h6, h7⟩ := ih _ _ _ _ h2 e hi; exact ⟨e', st', h3, h4, h5, .step (.jump a b) h6, h7⟩
  exact key n c i d _ hn rfl hi
theorem rt_in {been : Nat} (hc : ∀ v, been.testBit v = true → ∀ u, E1 P v u → been.testBit u = true) {c d : Nat} (h : Rt (E1 P) c d) (h0 : been.testBit c = true) : been.testBit d = true := by
  induction h with
  | refl => exact h0
  | step h _ ih => exact ih (hc _ h0 _ h)
theorem Now.start {r b : Nat} (h : Come P 0 0 r b) : Now P H 0 r := by
  intro v
  rw [h.ret, re_eps]
  constructor
  · rintro ⟨a, _, d⟩
    rcases h.sound v a with h' | h'
    · simp at h'
    · exact ⟨d, h'⟩
  · rintro ⟨d, h'⟩
    exact ⟨rt_in (fun v hv u hu => h.closed v hv (by simp) u hu) h' h.here, by simp, d⟩
structure NextI (P : List Stp) (H : List Nat → Nat → Prop) (m k i been r : Nat) : Prop where
  sound : ∀ v, been.testBit v = true → ∃ c st, m.testBit c = true ∧ P[c]? = some st ∧ st.op = 1 ∧ H st.set k ∧ Rt (E1 P) (c + 1) v
  has : ∀ c st, c < i → m.testBit c = true → P[c]? = some st → st.op = 1 → H st.set k → been.testBit (c + 1) = true
  closed : ∀ v, been.testBit v = true → ∀ u, E1 P v u → been.testBit u = true
  ret : ∀ v, r.testBit v = true ↔ been.testBit v = true ∧ Leaf P v
theorem NextI.zero {m k : Nat} : NextI P H m k 0 0 0 := ⟨by simp, fun c st h => by omega, by simp, by simp⟩
theorem NextI.no {m k i been r : Nat} (h : NextI P H m k i been r) (hn : ∀ st, m.testBit i = true → P[i]? = some st → st.op = 1 → ¬ H st.set k) : NextI P H m k (i + 1) been r :=
  ⟨h.sound, fun c st hc h1 h2 h3 h4 => by
    by_cases e : c = i
    · subst e; exact absurd h4 (hn st h1 h2 h3)
    · exact h.has c st (by omega) h1 h2 h3 h4, h.closed, h.ret⟩
theorem NextI.yes {m k i been r r' b' : Nat} {st : Stp} (h : NextI P H m k i been r) (h1 : m.testBit i = true) (h2 : P[i]? = some st) (h3 : st.op = 1) (h4 : H st.set k) (hc : Come P (i + 1) been r' b') : NextI P H m k (i + 1) b' (r ||| r') := by
  refine ⟨fun v hv => ?_, fun c s2 hc2 g1 g2 g3 g4 => ?_, fun v hv u hu => ?_, fun v => ?_⟩
  · rcases hc.sound v hv with h' | h'
    · exact h.sound v h'
    · exact ⟨i, st, h1, h2, h3, h4, h'⟩
  · by_cases e : c = i
    · subst e; exact hc.here
    · exact hc.sub _ (h.has c s2 (by omega) g1 g2 g3 g4)
  · cases hb : been.testBit v with
    | true => exact hc.sub _ (h.closed v hb u hu)
    | false => exact hc.closed v hv hb u hu
  · rw [Nat.testBit_or, Bool.or_eq_true, h.ret, hc.ret]
    constructor
    · rintro (⟨a, b⟩ | ⟨a, _, b⟩)
      · exact ⟨hc.sub _ a, b⟩
      · exact ⟨a, b⟩
    · rintro ⟨a, b⟩
      cases hb : been.testBit v with
      | true => exact .inl ⟨rfl, b⟩
      | false => exact .inr ⟨a, rfl, b⟩
theorem Now.next {m k been r : Nat} (hm : Now P H k m) (h : NextI P H m k P.length been r) : Now P H (k + 1) r := by
  intro v
  rw [h.ret]
  constructor
  · rintro ⟨a, b⟩
    obtain ⟨c, st, h1, h2, h3, h4, h5⟩ := h.sound v a
    exact ⟨b, ((hm c).1 h1).2.trans (.step (.byte h2 h3 h4) (re_eps.2 h5))⟩
  · rintro ⟨b, g⟩
    obtain ⟨e, st, h1, h2, h3, h4, h5⟩ := last_byte g (Nat.zero_le _)
    have he : m.testBit e = true := (hm e).2 ⟨⟨st, h1, by rw [h2]; decide, by rw [h2]; decide⟩, h4⟩
    exact ⟨rt_in h.closed h5 (h.has e st (List.getElem?_eq_some_iff.1 h1).1 he h1 h2 h3), b⟩
end
def okS (n : Nat) (s : Stp) : Prop := s.op = 1 ∧ s.a = 0 ∧ s.b = 0 ∨ s.op = 2 ∧ s.a < n ∧ s.b < n ∧ s.set = zero4 ∨ s.op = 3 ∧ s.a < n ∧ s.b = 0 ∧ s.set = zero4
theorem okS.mono {n m : Nat} {s : Stp} (h : okS n s) (hm : n ≤ m) : okS m s := by
  rcases h with h | ⟨h1, h2, h3, h4⟩ | ⟨h1, h2, h3, h4⟩
  · exact .inl h
  · exact .inr (.inl ⟨h1, by omega, by omega, h4⟩)
  · exact .inr (.inr ⟨h1, by omega, h3, h4⟩)
theorem code_ok (x : Rx) : Wf x → Wl x → ∀ p, (∀ s ∈ code x none p, okS (p + sz x + 1) s) ∧ ∀ e, Ls x → cnt x ≠ 0 → e = p + (sz x + 2 * (cnt x - 1)) → ∀ s ∈ code x (some e) p, okS (e + 1) s := by
  induction x with
  | set s =>
    intro _ _ p
    refine ⟨fun s hs => ?_, fun e h => h.elim⟩
    simp [code] at hs; subst hs; exact .inl ⟨rfl, rfl, rfl⟩
  | nil => intro _ _ p; exact ⟨fun s hs => by simp [code] at hs, fun e _ h => absurd rfl h⟩
  | node op l ih =>
    intro hw hl p
    refine ⟨fun s hs => ?_, fun e h => h.elim⟩
    have h1 := ih hw.1 hl.2
    simp only [code] at hs
    simp only [sz]
    split at hs
    · rename_i e; rw [if_pos e]; exact (h1 p).1 s hs
    · rename_i n2
      rw [if_neg n2]
      split at hs
      · rename_i e; rw [if_pos e]
        exact (h1 p).2 _ hl.1 (hw.2 e) rfl s hs
      · rename_i n3
        rw [if_neg n3]
        split at hs
        · rename_i e; rw [if_pos e]
          rcases List.mem_cons.1 hs with rfl | hs
          · exact .inr (.inl ⟨rfl, by simp only [splitS]; omega, by simp only [splitS]; omega, rfl⟩)
          · rcases List.mem_append.1 hs with hs | hs
            · exact ((h1 _).1 s hs).mono (by omega)
            · simp at hs; subst hs; exact .inr (.inr ⟨rfl, by simp [jumpS]; omega, rfl, rfl⟩)
        · rename_i n4
          rw [if_neg n4]
          split at hs
          · rcases List.mem_append.1 hs with hs | hs
            · exact ((h1 _).1 s hs).mono (by omega)
            · simp at hs; subst hs; exact .inr (.inl ⟨rfl, by simp only [splitS]; omega, by simp only [splitS]; omega, rfl⟩)
          · rcases List.mem_cons.1 hs with rfl | hs
            · exact .inr (.inl ⟨rfl, by simp only [splitS]; omega, by simp only [splitS]; omega, rfl⟩)
            · exact ((h1 _).1 s hs).mono (by omega)
  | cons x l ihx ihl =>
    intro hw hl p
    have hx := ihx hw.1 hl.1
    have h2 := ihl hw.2 hl.2.1
    refine ⟨fun s hs => ?_, fun e _ _ he s hs => ?_⟩
    · simp only [code] at hs
      simp only [sz]
      rcases List.mem_append.1 hs with hs | hs
      · exact ((hx p).1 s hs).mono (by omega)
      · exact ((h2 _).1 s hs).mono (by omega)
    · simp only [code] at hs
      simp only [sz, cnt] at he
      split at hs
      · rename_i hn
        subst hn
        simp only [sz, cnt] at he
        exact ((hx p).1 s hs).mono (by omega)
      · rename_i hn
        have hc : cnt l ≠ 0 := fun hc => hn (ls_nil hl.2.2 hc)
        rcases List.mem_cons.1 hs with rfl | hs
        · exact .inr (.inl ⟨rfl, by simp only [splitS]; omega, by simp only [splitS]; omega, rfl⟩)
        · rcases List.mem_append.1 hs with hs | hs
          · exact ((hx _).1 s hs).mono (by omega)
          · rcases List.mem_cons.1 hs with rfl | hs
            · exact .inr (.inr ⟨rfl, by simp [jumpS], rfl, rfl⟩)
            · exact ((h2 _).2 e hl.2.2 hc (by omega) s hs)
theorem whole_at {x : Rx} (hw : Wf x) (hl : Wl x) {c : Nat} {st : Stp} (h : (whole x)[c]? = some st) : (c < sz x ∧ okS (sz x + 1) st) ∨ c = sz x ∧ st = matchS := by
  unfold whole at h
  have hlen := (code_len x hw hl 0).1
  by_cases hc : c < sz x
  · rw [List.getElem?_append_left (by omega)] at h
    have := (code_ok x hw hl 0).1 st (List.mem_of_getElem? h)
    rw [Nat.zero_add] at this
    exact .inl ⟨hc, this⟩
  · rw [List.getElem?_append_right (by omega), hlen] at h
    cases hk : c - sz x with
    | zero => rw [hk] at h; simp at h; exact .inr ⟨by omega, h.symm⟩
    | succ q => rw [hk] at h; simp at h
theorem whole_match {x : Rx} (hw : Wf x) (hl : Wl x) {H : List Nat → Nat → Prop} {k m : Nat} (hm : Now (whole x) H k m) : (∃ c st, m.testBit c = true ∧ (whole x)[c]? = some st ∧ st.op = 4) ↔ Lg H x true 0 k := by
  rw [← accepts hw hl]
  constructor
  · rintro ⟨c, st, h1, h2, h3⟩
    rcases whole_at hw hl h2 with ⟨_, h4⟩ | ⟨rfl, _⟩
    · rcases h4 with ⟨h4, _⟩ | ⟨h4, _⟩ | ⟨h4, _⟩ <;> rw [h3] at h4 <;> cases h4
    · exact ((hm _).1 h1).2
  · intro h
    have hlen := (code_len x hw hl 0).1
    have hs : (whole x)[sz x]? = some matchS := by
      unfold whole
      rw [List.getElem?_append_right (by omega), hlen]; simp
    exact ⟨sz x, matchS, (hm _).2 ⟨⟨matchS, hs, by decide, by decide⟩, h⟩, hs, rfl⟩
end Go.Rex
set_option linter.unusedVariables false
set_option linter.unusedSimpArgs false
set_option maxHeartbeats 400000
namespace Go.Rex
open Go.X
def b8 (s : ByteArray) (i : Nat) : Nat := (bt s i).toNat
theorem b8_lt (s : ByteArray) (i : Nat) : b8 s i < 256 := UInt8.toNat_lt _
def setBit (l : List Nat) (c : Nat) : List Nat := l.modify (c / 64) (· ||| 1 <<< (c % 64))
def addG (l : List Nat) (a b : Nat) : List Nat := (List.range' a (b + 1 - a)).foldl setBit l
def invS (l : List Nat) : List Nat := l.map (18446744073709551615 - ·)
theorem setBit_len (l : List Nat) (c : Nat) : (setBit l c).length = l.length := by simp [setBit]
theorem setBit_lt {l : List Nat} (h : ∀ x ∈ l, x < 18446744073709551616) (c : Nat) : ∀ x ∈ setBit l c, x < 18446744073709551616 := by
  intro x hx
  unfold setBit at hx
  obtain ⟨i, hi⟩ := List.getElem?_of_mem hx
  simp only [List.getElem?_modify] at hi
  cases hl : l[i]? with
  | none => simp [hl] at hi
  | some y =>
    have hy := h y (List.mem_of_getElem? hl)
    simp only [hl, Option.map_some] at hi
    split at hi
    · simp at hi
      subst hi
      have h1 : (1 <<< (c % 64)) < 2 ^ 64 := by rw [Nat.shiftLeft_eq, Nat.one_mul]; exact Nat.pow_lt_pow_right (by omega) (Nat.mod_lt _ (by omega))
      exact Nat.or_lt_two_pow (n := 64) hy h1
    · simp at hi; subst hi; exact hy
theorem invS_lt (l : List Nat) : ∀ x ∈ invS l, x < 18446744073709551616 := by
  intro x hx
  obtain ⟨y, _, rfl⟩ := List.mem_map.1 hx
  omega
theorem addG_len (a b : Nat) : ∀ l : List Nat, (addG l a b).length = l.length := by
  unfold addG
  generalize List.range' a (b + 1 - a) = r
  induction r with
  | nil => intro l; rfl
  | cons x r ih => intro l; simp only [List.foldl_cons, ih, setBit_len]
theorem addG_lt (a b : Nat) : ∀ {l : List Nat}, (∀ x ∈ l, x < 18446744073709551616) → ∀ x ∈ addG l a b, x < 18446744073709551616 := by
  unfold addG
  generalize List.range' a (b + 1 - a) = r
  induction r with
  | nil => intro l h; exact h
  | cons x r ih => intro l h; exact ih (setBit_lt h x)
def W4 (l : List Nat) : Prop := l.length = 4 ∧ ∀ x ∈ l, x < 18446744073709551616
theorem W4.zero : W4 zero4 := ⟨rfl, by simp [zero4]⟩
theorem W4.bit {l : List Nat} (h : W4 l) (c : Nat) : W4 (setBit l c) := ⟨(setBit_len l c).trans h.1, setBit_lt h.2 c⟩
theorem W4.add {l : List Nat} (h : W4 l) (a b : Nat) : W4 (addG l a b) := ⟨(addG_len a b l).trans h.1, addG_lt a b h.2⟩
theorem W4.inv {l : List Nat} (h : W4 l) : W4 (invS l) := ⟨by simpa [invS] using h.1, invS_lt l⟩
def quotedS (c : Nat) : Bool := decide (c = 124 ∨ c = 42 ∨ c = 43 ∨ c = 63 ∨ c = 40 ∨ c = 41 ∨ c = 91 ∨ c = 93 ∨ c = 46 ∨ c = 92 ∨ c = 94 ∨ c = 45)
def signS (s : ByteArray) (i : Nat) : Option (Nat × Nat) := if i < s.size ∧ quotedS (b8 s i) = true then some (b8 s i, i + 1) else none
def memS (s : ByteArray) (i : Nat) : Option (Nat × Nat) :=
  if i < s.size then if b8 s i = 92 then signS s (i + 1) else if b8 s i = 93 ∨ b8 s i = 91 ∨ b8 s i = 94 ∨ b8 s i = 45 then none else some (b8 s i, i + 1) else none
def toS (s : ByteArray) (a i : Nat) : Option (Nat × Nat) := if i < s.size ∧ b8 s i = 45 then memS s (i + 1) else some (a, i)
def clsL (s : ByteArray) : Nat → Nat → List Nat → Option (List Nat × Nat)
  | 0, _, _ => none
  | n + 1, i, set => if i < s.size then if b8 s i = 93 then some (set, i + 1) else
      match memS s i with
      | none => none
      | some (a, i1) => match toS s a i1 with
        | none => none
        | some (b, i2) => if b < a then none else clsL s n i2 (addG set a b)
    else none
def notS (s : ByteArray) (i : Nat) : Bool := decide (i < s.size ∧ b8 s i = 94)
def clsB (s : ByteArray) (no : Bool) (i : Nat) : Option (List Nat × Nat) :=
  if i < s.size ∧ b8 s i = 93 then none else match clsL s (s.size + 1) i zero4 with
    | none => none
    | some (set, j) => some (if no then invS set else set, j)
def clsS (s : ByteArray) (i : Nat) : Option (List Nat × Nat) := clsB s (notS s i) (if notS s i then i + 1 else i)
theorem signS_adv {s : ByteArray} {i b j : Nat} (h : signS s i = some (b, j)) : i < j ∧ j ≤ s.size ∧ b < 256 := by
  unfold signS at h
  split at h
  · simp at h; have := b8_lt s i; omega
  · cases h
theorem memS_adv {s : ByteArray} {i b j : Nat} (h : memS s i = some (b, j)) : i < j ∧ j ≤ s.size ∧ b < 256 := by
  unfold memS at h
  split at h
  · split at h
    · have := signS_adv h; omega
    · split at h
      · cases h
      · simp at h; have := b8_lt s i; omega
  · cases h
theorem toS_adv {s : ByteArray} {a i b j : Nat} (h : toS s a i = some (b, j)) (hi : i ≤ s.size) (ha : a < 256) : i ≤ j ∧ j ≤ s.size ∧ b < 256 := by
  unfold toS at h
  split at h
  · have := memS_adv h; omega
  · simp at h; omega
theorem clsL_adv {s : ByteArray} : ∀ {n i : Nat} {set t : List Nat} {j : Nat}, clsL s n i set = some (t, j) → W4 set → i < j ∧ j ≤ s.size ∧ W4 t
  | 0, _, _, _, _, h, _ => by simp [clsL] at h
  | n + 1, i, set, t, j, h, hw => by
    unfold clsL at h
    split at h
    · split at h
      · simp at h; obtain ⟨rfl, rfl⟩ := h; exact ⟨by omega, by omega, hw⟩
      · cases hm : memS s i with
        | none => rw [hm] at h; cases h
        | some p =>
          obtain ⟨a, i1⟩ := p
          rw [hm] at h
          simp only at h
          have h1 := memS_adv hm
          cases ht : toS s a i1 with
          | none => rw [ht] at h; cases h
          | some q =>
            obtain ⟨b, i2⟩ := q
            rw [ht] at h
            simp only at h
            have h2 := toS_adv ht h1.2.1 h1.2.2
            split at h
            · cases h
            · have h3 := clsL_adv h (hw.add a b)
              exact ⟨by omega, h3.2⟩
    · cases h
theorem clsB_adv {s : ByteArray} {no : Bool} {i : Nat} {t : List Nat} {j : Nat} (h : clsB s no i = some (t, j)) : i < j ∧ j ≤ s.size ∧ W4 t := by
  unfold clsB at h
  split at h
  · cases h
  · cases hc : clsL s (s.size + 1) i zero4 with
    | none => rw [hc] at h; cases h
    | some p =>
      obtain ⟨u, k⟩ := p
      rw [hc] at h
      simp only [Option.some.injEq, Prod.mk.injEq] at h
      obtain ⟨rfl, rfl⟩ := h
      have h1 := clsL_adv hc W4.zero
      refine ⟨h1.1, h1.2.1, ?_⟩
      split
      · exact h1.2.2.inv
      · exact h1.2.2
theorem clsS_adv {s : ByteArray} {i : Nat} {t : List Nat} {j : Nat} (h : clsS s i = some (t, j)) : i < j ∧ j ≤ s.size ∧ W4 t := by
  have h1 := clsB_adv h
  refine ⟨?_, h1.2⟩
  have := h1.1
  split at this <;> omega
def lstS : List Rx → Rx
  | [] => .nil
  | x :: l => .cons x (lstS l)
def mkN (op : Nat) : List Rx → Rx
  | [x] => x
  | l => .node op (lstS l)
def onlyS (op : Nat) (x : Rx) : Rx := .node op (.cons x .nil)
def grpS (s : ByteArray) : Option (Rx × Nat) → Option (Rx × Nat)
  | some (x, j) => if j < s.size ∧ b8 s j = 41 then some (x, j + 1) else none
  | none => none
def atomS (s : ByteArray) (g : Nat → Option (Rx × Nat)) (i : Nat) : Option (Rx × Nat) :=
  if b8 s i = 40 then grpS s (g (i + 1)) else if b8 s i = 91 then (clsS s (i + 1)).map (fun p => (.set p.1, p.2))
  else if b8 s i = 46 then some (.set (invS zero4), i + 1) else if b8 s i = 92 then (signS s (i + 1)).map (fun p => (.set (setBit zero4 p.1), p.2))
  else if b8 s i = 42 ∨ b8 s i = 43 ∨ b8 s i = 63 ∨ b8 s i = 93 then none else some (.set (setBit zero4 (b8 s i)), i + 1)
def oftS (s : ByteArray) (x : Rx) (j : Nat) : Rx × Nat :=
  if j < s.size then if b8 s j = 42 then (onlyS 4 x, j + 1) else if b8 s j = 43 then (onlyS 5 x, j + 1) else if b8 s j = 63 then (onlyS 6 x, j + 1) else (x, j) else (x, j)
def factorS (s : ByteArray) (g : Nat → Option (Rx × Nat)) (i : Nat) : Option (Rx × Nat) := (atomS s g i).map fun p => oftS s p.1 p.2
def goesS (s : ByteArray) (i : Nat) : Bool := decide (i < s.size ∧ b8 s i ≠ 124 ∧ b8 s i ≠ 41)
def wayL (s : ByteArray) (g : Nat → Option (Rx × Nat)) : Nat → Nat → List Rx → Option (List Rx × Nat)
  | 0, _, _ => none
  | n + 1, i, acc => if goesS s i then match factorS s g i with
      | none => none
      | some (x, j) => wayL s g n j (acc ++ [x])
    else some (acc, i)
def wayS (s : ByteArray) (g : Nat → Option (Rx × Nat)) (i : Nat) : Option (Rx × Nat) := (wayL s g (s.size + 1) i []).map fun p => (mkN 2 p.1, p.2)
def barS (s : ByteArray) (i : Nat) : Bool := decide (i < s.size ∧ b8 s i = 124)
def waysL (s : ByteArray) (g : Nat → Option (Rx × Nat)) : Nat → Nat → List Rx → Option (List Rx × Nat)
  | 0, _, _ => none
  | n + 1, i, acc => if barS s i then match wayS s g (i + 1) with
      | none => none
      | some (x, j) => waysL s g n j (acc ++ [x])
    else some (acc, i)
def waysS (s : ByteArray) (g : Nat → Option (Rx × Nat)) (i : Nat) : Option (Rx × Nat) := match wayS s g i with
  | none => none
  | some (x, j) => (waysL s g (s.size + 1) j [x]).map fun p => (mkN 3 p.1, p.2)
def par (s : ByteArray) : Nat → Nat → Option (Rx × Nat)
  | 0, i => waysS s (fun _ => none) i
  | r + 1, i => waysS s (par s r) i
def parseS (s : ByteArray) : Option Rx := if 40 < s.size then none else match par s 8 0 with
  | some (x, j) => if j < s.size then none else some x
  | none => none
end Go.Rex
set_option linter.unusedVariables false
set_option linter.unusedSimpArgs false
set_option maxHeartbeats 400000
namespace Go.Rex
open Go.X
def Tr : Bool → Rx → Prop
  | false, .set s => W4 s
  | false, .node op l => (op = 2 ∨ op = 3 ∧ cnt l ≠ 0 ∨ (op = 4 ∨ op = 5 ∨ op = 6) ∧ cnt l = 1) ∧ Tr true l
  | true, .nil => True
  | true, .cons x l => Tr false x ∧ Tr true l
  | true, .set _ => False
  | true, .node _ _ => False
  | false, .nil => False
  | false, .cons _ _ => False
theorem tr_wf : ∀ (x : Rx) (b : Bool), Tr b x → Wf x ∧ Wl x ∧ (b = true → Ls x)
  | .set s, true, h => h.elim
  | .set s, false, h => ⟨trivial, trivial, fun h => by cases h⟩
  | .node op l, true, h => h.elim
  | .node op l, false, h => by
    obtain ⟨h1, h2⟩ := h
    obtain ⟨a, b, c⟩ := tr_wf l true h2
    exact ⟨⟨a, fun e => by subst e; simp at h1; exact h1⟩, ⟨c rfl, b⟩, fun h => by cases h⟩
  | .nil, true, _ => ⟨trivial, trivial, fun _ => trivial⟩
  | .nil, false, h => h.elim
  | .cons x l, false, h => h.elim
  | .cons x l, true, h => by
    obtain ⟨h1, h2⟩ := h
    obtain ⟨a, b, c⟩ := tr_wf l true h2
    obtain ⟨a', b', _⟩ := tr_wf x false h1
    exact ⟨⟨a', a⟩, ⟨b', b, c rfl⟩, fun _ => c rfl⟩
theorem cnt_lst : ∀ l : List Rx, cnt (lstS l) = l.length
  | [] => rfl
  | x :: l => by simp [lstS, cnt, cnt_lst l]
theorem tr_lst : ∀ l : List Rx, (∀ x ∈ l, Tr false x) → Tr true (lstS l)
  | [], _ => trivial
  | x :: l, h => ⟨h x (by simp), tr_lst l fun y hy => h y (by simp [hy])⟩
theorem tr_mk {op : Nat} {l : List Rx} (h : ∀ x ∈ l, Tr false x) (ho : op = 2 ∨ op = 3 ∧ l ≠ []) : Tr false (mkN op l) := by
  match l, h, ho with
  | [], h, ho => exact ⟨by rcases ho with rfl | ⟨_, h⟩; exact .inl rfl; exact absurd rfl h, trivial⟩
  | [x], h, _ => exact h x (by simp)
  | x :: y :: l, h, ho => exact ⟨by rcases ho with rfl | ⟨rfl, _⟩; exact .inl rfl; exact .inr (.inl ⟨rfl, by simp [lstS, cnt]⟩), tr_lst _ h⟩
def GoodG (g : Nat → Option (Rx × Nat)) : Prop := ∀ i x j, g i = some (x, j) → Tr false x
theorem tr_only {op : Nat} {x : Rx} (h : Tr false x) (ho : op = 4 ∨ op = 5 ∨ op = 6) : Tr false (onlyS op x) := ⟨.inr (.inr ⟨ho, rfl⟩), h, trivial⟩
theorem factor_tr {s : ByteArray} {g : Nat → Option (Rx × Nat)} (hg : GoodG g) : GoodG (factorS s g) := by
  have ha : GoodG (atomS s g) := by
    intro i x j h
    unfold atomS at h
    split at h
    · cases hgi : g (i + 1) with
      | none => rw [hgi] at h; cases h
      | some q =>
        obtain ⟨y, k⟩ := q
        rw [hgi] at h
        have h' : (if k < s.size ∧ b8 s k = 41 then some (y, k + 1) else none) = some (x, j) := h
        split at h'
        · simp at h'; obtain ⟨rfl, _⟩ := h'; exact hg _ _ _ hgi
        · cases h'
    · split at h
      · cases hc : clsS s (i + 1) with
        | none => rw [hc] at h; cases h
        | some q => rw [hc] at h; simp at h; obtain ⟨rfl, _⟩ := h; exact (clsS_adv (t := q.1) (j := q.2) hc).2.2
      · split at h
        · simp at h; obtain ⟨rfl, _⟩ := h; exact W4.zero.inv
        · split at h
          · cases hc : signS s (i + 1) with
            | none => rw [hc] at h; cases h
            | some q => rw [hc] at h; simp at h; obtain ⟨rfl, _⟩ := h; exact W4.zero.bit _
          · split at h
            · cases h
            · simp at h; obtain ⟨rfl, _⟩ := h; exact W4.zero.bit _
  intro i x j h
  unfold factorS at h
  cases hat : atomS s g i with
  | none => rw [hat] at h; cases h
  | some q =>
    obtain ⟨y, k⟩ := q
    have h1 := ha _ _ _ hat
    rw [hat] at h
    simp only [Option.map_some, Option.some.injEq] at h
    unfold oftS at h
    split at h
    · split at h
      · simp at h; obtain ⟨rfl, _⟩ := h; exact tr_only h1 (.inl rfl)
      · split at h
        · simp at h; obtain ⟨rfl, _⟩ := h; exact tr_only h1 (.inr (.inl rfl))
        · split at h
          · simp at h; obtain ⟨rfl, _⟩ := h; exact tr_only h1 (.inr (.inr rfl))
          · simp at h; obtain ⟨rfl, _⟩ := h; exact h1
    · simp at h; obtain ⟨rfl, _⟩ := h; exact h1
theorem wayL_tr {s : ByteArray} {g : Nat → Option (Rx × Nat)} (hg : GoodG g) : ∀ {n i : Nat} {acc xs : List Rx} {j : Nat}, (∀ x ∈ acc, Tr false x) → wayL s g n i acc = some (xs, j) → ∀ x ∈ xs, Tr false x
  | 0, _, _, _, _, _, h => by simp [wayL] at h
  | n + 1, i, acc, xs, j, ha, h => by
    unfold wayL at h
    split at h
    · cases hf : factorS s g i with
      | none => rw [hf] at h; cases h
      | some q =>
        obtain ⟨x, k⟩ := q
        rw [hf] at h
        exact wayL_tr hg (n := n) (i := k) (fun y hy => by
          rcases List.mem_append.1 hy with h1 | h1
          · exact ha y h1
          · simp at h1; subst h1; exact factor_tr hg _ _ _ hf) h
    · simp at h; obtain ⟨rfl, _⟩ := h; exact ha
theorem way_tr {s : ByteArray} {g : Nat → Option (Rx × Nat)} (hg : GoodG g) : GoodG (wayS s g) := by
  intro i x j h
  unfold wayS at h
  cases hw : wayL s g (s.size + 1) i [] with
  | none => rw [hw] at h; cases h
  | some q =>
    rw [hw] at h
    simp at h
    obtain ⟨rfl, _⟩ := h
    exact tr_mk (wayL_tr hg (acc := []) (by simp) (xs := q.1) (j := q.2) hw) (.inl rfl)
theorem waysL_tr {s : ByteArray} {g : Nat → Option (Rx × Nat)} (hg : GoodG g) : ∀ {n i : Nat} {acc xs : List Rx} {j : Nat}, acc ≠ [] → (∀ x ∈ acc, Tr false x) → waysL s g n i acc = some (xs, j) → xs ≠ [] ∧ ∀ x ∈ xs, Tr false x
  | 0, _, _, _, _, _, _, h => by simp [waysL] at h
  | n + 1, i, acc, xs, j, hne, ha, h => by
    unfold waysL at h
    split at h
    · cases hf : wayS s g (i + 1) with
      | none => rw [hf] at h; cases h
      | some q =>
        obtain ⟨x, k⟩ := q
        rw [hf] at h
        exact waysL_tr hg (n := n) (i := k) (by simp) (fun y hy => by
          rcases List.mem_append.1 hy with h1 | h1
          · exact ha y h1
          · simp at h1; subst h1; exact way_tr hg _ _ _ hf) h
    · simp at h; obtain ⟨rfl, _⟩ := h; exact ⟨hne, ha⟩
theorem ways_tr {s : ByteArray} {g : Nat → Option (Rx × Nat)} (hg : GoodG g) : GoodG (waysS s g) := by
  intro i x j h
  unfold waysS at h
  cases hw : wayS s g i with
  | none => rw [hw] at h; cases h
  | some q =>
    obtain ⟨y, k⟩ := q
    rw [hw] at h
    have h1 := way_tr hg _ _ _ hw
    simp only at h
    cases hl : waysL s g (s.size + 1) k [y] with
    | none => rw [hl] at h; cases h
    | some q2 =>
      rw [hl] at h
      simp at h
      obtain ⟨rfl, _⟩ := h
      have h2 := waysL_tr hg (acc := [y]) (by simp) (by simpa using h1) (xs := q2.1) (j := q2.2) hl
      exact tr_mk h2.2 (.inr ⟨rfl, h2.1⟩)
theorem par_tr (s : ByteArray) : ∀ r, GoodG (par s r)
  | 0 => ways_tr fun _ _ _ h => by cases h
  | r + 1 => ways_tr (par_tr s r)
theorem parse_tr {s : ByteArray} {x : Rx} (h : parseS s = some x) : Tr false x := by
  unfold parseS at h
  split at h
  · cases h
  · cases hp : par s 8 0 with
    | none => rw [hp] at h; cases h
    | some q =>
      obtain ⟨y, j⟩ := q
      rw [hp] at h
      simp only at h
      split at h
      · cases h
      · cases h; exact par_tr s 8 _ _ _ hp
def kidsR : Rx → List Rx
  | .cons x l => x :: kidsR l
  | _ => []
theorem kids_len : ∀ l : Rx, (kidsR l).length = cnt l
  | .cons x l => by simp [kidsR, cnt, kids_len l]
  | .set _ => rfl
  | .node _ _ => rfl
  | .nil => rfl
theorem kids_tr : ∀ {l : Rx}, Tr true l → ∀ x ∈ kidsR l, Tr false x
  | .cons x l, h, y, hy => by
    simp only [kidsR, List.mem_cons] at hy
    rcases hy with rfl | hy
    · exact h.1
    · exact kids_tr h.2 y hy
  | .nil, _, y, hy => by simp [kidsR] at hy
  | .set _, h, _, _ => h.elim
  | .node _ _, h, _, _ => h.elim
theorem lst_kids : ∀ {l : Rx}, Tr true l → lstS (kidsR l) = l
  | .cons x l, h => by simp [kidsR, lstS, lst_kids h.2]
  | .nil, _ => rfl
  | .set _, h => h.elim
  | .node _ _, h => h.elim
def hiR : Rx → Nat
  | .set _ => 1
  | .node _ l => hiR l + 1
  | .nil => 0
  | .cons x l => max (hiR x) (hiR l)
theorem hiR_kid : ∀ {l : Rx} {x : Rx}, x ∈ kidsR l → hiR x ≤ hiR l
  | .cons y l, x, h => by
    simp only [kidsR, List.mem_cons] at h
    simp only [hiR]
    rcases h with rfl | h
    · omega
    · have := hiR_kid h; omega
  | .nil, _, h => by simp [kidsR] at h
  | .set _, _, h => by simp [kidsR] at h
  | .node _ _, _, h => by simp [kidsR] at h
theorem sz_cons : ∀ l : Rx, Tr true l → sz l = ((kidsR l).map sz).sum
  | .cons x l, h => by simp [kidsR, sz, sz_cons l h.2]
  | .nil, _ => rfl
  | .set _, h => h.elim
  | .node _ _, h => h.elim
section
variable (H : List Nat → Nat → Prop)
end
def Endz (R : Nat → Nat → Prop) (n : Nat) (f o : List Bool) : Prop := o.length = n + 1 ∧ ∀ j, o[j]? = some true ↔ j ≤ n ∧ ∃ i, f[i]? = some true ∧ R i j
theorem Endz.id {n : Nat} {f : List Bool} (h : f.length = n + 1) : Endz (· = ·) n f f := by
  refine ⟨h, fun j => ?_⟩
  constructor
  · intro hj; have := (List.getElem?_eq_some_iff.1 hj).1; exact ⟨by omega, j, hj, rfl⟩
  · rintro ⟨_, i, h1, rfl⟩; exact h1
end Go.Rex
set_option linter.unusedVariables false
set_option linter.unusedSimpArgs false
set_option maxHeartbeats 400000
namespace Go.Rex
open Go.X
def SmallG (g : Nat → Option (Rx × Nat)) : Prop := ∀ i x j, g i = some (x, j) → sz x + 2 * i ≤ 2 * j
theorem sz_snoc : ∀ (l : List Rx) (x : Rx), sz (lstS (l ++ [x])) = sz (lstS l) + sz x
  | [], x => by simp [lstS, sz]
  | y :: l, x => by simp [lstS, sz, sz_snoc l x]; omega
theorem sz_mk {op : Nat} {l : List Rx} (ho : op = 2 ∨ op = 3) : sz (mkN op l) ≤ sz (lstS l) + (if op = 3 then 2 * (l.length - 1) else 0) := by
  match l with
  | [] => rcases ho with rfl | rfl <;> simp [mkN, sz, lstS, cnt]
  | [x] => rcases ho with rfl | rfl <;> simp [mkN, sz, lstS]
  | x :: y :: l => rcases ho with rfl | rfl <;> simp [mkN, sz, lstS, cnt, cnt_lst]
theorem factor_sz {s : ByteArray} {g : Nat → Option (Rx × Nat)} (hg : SmallG g) : SmallG (factorS s g) := by
  have ha : SmallG (atomS s g) := by
    intro i x j h
    unfold atomS at h
    split at h
    · cases hgi : g (i + 1) with
      | none => rw [hgi] at h; cases h
      | some q =>
        obtain ⟨y, k⟩ := q
        rw [hgi] at h
        have h' : (if k < s.size ∧ b8 s k = 41 then some (y, k + 1) else none) = some (x, j) := h
        split at h'
        · simp at h'; obtain ⟨rfl, rfl⟩ := h'; have := hg _ _ _ hgi; omega
        · cases h'
    · split at h
      · cases hc : clsS s (i + 1) with
        | none => rw [hc] at h; cases h
        | some q => rw [hc] at h; simp at h; obtain ⟨rfl, rfl⟩ := h; have := (clsS_adv (t := q.1) (j := q.2) hc).1; simp only [sz]; omega
      · split at h
        · simp at h; obtain ⟨rfl, rfl⟩ := h; simp only [sz]; omega
        · split at h
          · cases hc : signS s (i + 1) with
            | none => rw [hc] at h; cases h
            | some q => rw [hc] at h; simp at h; obtain ⟨rfl, rfl⟩ := h; have := (signS_adv (b := q.1) (j := q.2) hc).1; simp only [sz]; omega
          · split at h
            · cases h
            · simp at h; obtain ⟨rfl, rfl⟩ := h; simp only [sz]; omega
  intro i x j h
  unfold factorS at h
  cases hat : atomS s g i with
  | none => rw [hat] at h; cases h
  | some q =>
    obtain ⟨y, k⟩ := q
    have h1 := ha _ _ _ hat
    rw [hat] at h
    simp only [Option.map_some, Option.some.injEq] at h
    unfold oftS at h
    split at h
    · split at h
      · simp at h; obtain ⟨rfl, rfl⟩ := h; simp [onlyS, sz]; omega
      · split at h
        · simp at h; obtain ⟨rfl, rfl⟩ := h; simp [onlyS, sz]; omega
        · split at h
          · simp at h; obtain ⟨rfl, rfl⟩ := h; simp [onlyS, sz]; omega
          · simp at h; obtain ⟨rfl, rfl⟩ := h; exact h1
    · simp at h; obtain ⟨rfl, rfl⟩ := h; exact h1
theorem wayL_sz {s : ByteArray} {g : Nat → Option (Rx × Nat)} (hg : SmallG g) {i0 : Nat} : ∀ {n i : Nat} {acc xs : List Rx} {j : Nat}, sz (lstS acc) + 2 * i0 ≤ 2 * i → wayL s g n i acc = some (xs, j) → sz (lstS xs) + 2 * i0 ≤ 2 * j
  | 0, _, _, _, _, _, h => by simp [wayL] at h
  | n + 1, i, acc, xs, j, ha, h => by
    unfold wayL at h
    split at h
    · cases hf : factorS s g i with
      | none => rw [hf] at h; cases h
      | some q =>
        obtain ⟨x, k⟩ := q
        rw [hf] at h
        exact wayL_sz hg (n := n) (i := k) (by rw [sz_snoc]; have := factor_sz hg _ _ _ hf; omega) h
    · simp at h; obtain ⟨rfl, rfl⟩ := h; exact ha
theorem way_sz {s : ByteArray} {g : Nat → Option (Rx × Nat)} (hg : SmallG g) : SmallG (wayS s g) := by
  intro i x j h
  unfold wayS at h
  cases hw : wayL s g (s.size + 1) i [] with
  | none => rw [hw] at h; cases h
  | some q =>
    rw [hw] at h
    simp at h
    obtain ⟨rfl, rfl⟩ := h
    have h1 := wayL_sz hg (i0 := i) (by simp [lstS, sz]) (xs := q.1) (j := q.2) hw
    have h2 := sz_mk (op := 2) (l := q.1) (.inl rfl)
    simp at h2
    omega
theorem waysL_sz {s : ByteArray} {g : Nat → Option (Rx × Nat)} (hg : SmallG g) {i0 : Nat} : ∀ {n i : Nat} {acc xs : List Rx} {j : Nat}, acc ≠ [] → sz (lstS acc) + 2 * (acc.length - 1) + 2 * i0 ≤ 2 * i → waysL s g n i acc = some (xs, j) → sz (lstS xs) + 2 * (xs.length - 1) + 2 * i0 ≤ 2 * j
  | 0, _, _, _, _, _, _, h => by simp [waysL] at h
  | n + 1, i, acc, xs, j, hne, ha, h => by
    unfold waysL at h
    split at h
    · cases hf : wayS s g (i + 1) with
      | none => rw [hf] at h; cases h
      | some q =>
        obtain ⟨x, k⟩ := q
        rw [hf] at h
        have hl : 0 < acc.length := List.length_pos_iff.2 hne
        exact waysL_sz hg (n := n) (i := k) (by simp) (by rw [sz_snoc]; have := way_sz hg _ _ _ hf; simp; omega) h
    · simp at h; obtain ⟨rfl, rfl⟩ := h; exact ha
theorem ways_sz {s : ByteArray} {g : Nat → Option (Rx × Nat)} (hg : SmallG g) : SmallG (waysS s g) := by
  intro i x j h
  unfold waysS at h
  cases hw : wayS s g i with
  | none => rw [hw] at h; cases h
  | some q =>
    obtain ⟨y, k⟩ := q
    rw [hw] at h
    have h1 := way_sz hg _ _ _ hw
    simp only at h
    cases hl : waysL s g (s.size + 1) k [y] with
    | none => rw [hl] at h; cases h
    | some q2 =>
      rw [hl] at h
      simp at h
      obtain ⟨rfl, rfl⟩ := h
      have h2 := waysL_sz hg (i0 := i) (acc := [y]) (by simp) (by simpa [lstS, sz] using h1) (xs := q2.1) (j := q2.2) hl
      have h3 := sz_mk (op := 3) (l := q2.1) (.inr rfl)
      simp at h3
      omega
theorem par_sz (s : ByteArray) : ∀ r, SmallG (par s r)
  | 0 => ways_sz fun _ _ _ h => by cases h
  | r + 1 => ways_sz (par_sz s r)
theorem parse_sz {s : ByteArray} (hadv : ∀ x j, par s 8 0 = some (x, j) → j ≤ s.size) {x : Rx} (h : parseS s = some x) : sz x ≤ 80 := by
  unfold parseS at h
  split at h
  · cases h
  · cases hp : par s 8 0 with
    | none => rw [hp] at h; cases h
    | some q =>
      obtain ⟨y, j⟩ := q
      rw [hp] at h
      simp only at h
      split at h
      · cases h
      · cases h
        have := par_sz s 8 _ _ _ hp
        have := hadv _ _ hp
        omega
theorem kid_sz : ∀ {l : Rx} {x : Rx}, Tr true l → x ∈ kidsR l → sz x ≤ sz l
  | .cons y l, x, h, hx => by
    simp only [kidsR, List.mem_cons] at hx
    simp only [sz]
    rcases hx with rfl | hx
    · omega
    · have := kid_sz h.2 hx; omega
  | .nil, _, _, h => by simp [kidsR] at h
  | .set _, _, h, _ => h.elim
  | .node _ _, _, h, _ => h.elim
theorem sum_take {l : List Rx} {k : Nat} {x : Rx} (hx : l[k]? = some x) : ((l.take (k + 1)).map sz).sum = ((l.take k).map sz).sum + sz x := by
  have hk := (List.getElem?_eq_some_iff.1 hx).1
  rw [List.take_succ_eq_append_getElem hk, (List.getElem?_eq_some_iff.1 hx).2]
  simp
theorem sum_take_le (l : List Rx) : ∀ k, ((l.take k).map sz).sum ≤ (l.map sz).sum := by
  induction l with
  | nil => intro k; simp
  | cons y l ih =>
    intro k
    cases k with
    | zero => simp
    | succ k => simp only [List.take_succ_cons, List.map_cons, List.sum_cons]; have := ih k; omega
end Go.Rex
set_option linter.unusedVariables false
set_option linter.unusedSimpArgs false
namespace Go.X
open Go Go.RowKit
section
variable {P : Program} {n : Nat} {e : Env} {w : World} {C : World → Prop}
theorem Yld.indexArr {d : Option Tmp} {t len el sz : Nat} {x i : Operand} {ty : TypeId} {pos : String} {af : Array Edge} {g : Option (Nat × Bool)} (hT : P.underlying t = some (.array len el)) {z : Value} {by' : Nat} (hE : TI P el z sz by') {b o : Nat} {k : IntKind} {q : Nat}
    (hx : ev e x = some (.pointer (some ⟨b, o, none⟩))) (hi : ev e i = some (.int k (q : Int))) (h1 : q < len) :
    Yld P n C e ⟨d, .indexAddr t x i, ty, pos, af, g⟩ (.pointer (some ⟨b, o + q * sz, none⟩)) := by
  intro a ha w _
  have h2 : (0 : Int) ≤ q := by omega
  have h3 : (q : Int) < len := by omega
  have h4 : ¬ len ≤ q := by omega
  simp [execOp, ha.ev hx, ha.ev hi, Instr.indexAt, run_underlying hT, asIntOf, hE.sizeOf w, h2, h3, add_none, Instr.sureAddr, h4, h1]
end
end Go.X
