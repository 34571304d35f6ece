/- What the claim stands on, part 7. Of own lemmas only those that it reaches. -/
import Derived.Test.YthbjfhhiajihfaaGreatKf6
set_option linter.unusedVariables false
set_option linter.unusedSimpArgs false
set_option maxHeartbeats 400000
set_option maxRecDepth 100000
namespace Go.Proofs.YthbjfhhiajihfaaGreat
open Go Go.X
end Go.Proofs.YthbjfhhiajihfaaGreat
set_option linter.unusedVariables false
set_option linter.unusedSimpArgs false
set_option maxHeartbeats 400000
set_option maxRecDepth 100000
namespace Go.Proofs.YthbjfhhiajihfaaGreat
open Go Go.X
abbrev Ris (l : List Int) : Prop := l.Pairwise fun x y => x < y
theorem Ris.nodup {l : List Int} (h : Ris l) : l.Nodup := List.Pairwise.imp (fun h e => by omega) h
theorem ext_ris {l1 l2 : List Int} (h1 : Ris l1) (h2 : Ris l2) (h : ∀ x, x ∈ l1 ↔ x ∈ l2) : l1 = l2 := by
 have hp : l1.Perm l2 := (List.perm_ext_iff_of_nodup h1.nodup h2.nodup).2 h
 exact List.Perm.eq_of_pairwise (le := fun a b => a < b) (fun a b _ _ h1 h2 => by omega) h1 h2 hp
theorem compactUpTo_mem (d : Array Int) : ∀ m, m ≤ d.size → ∀ x, x ∈ Lib.compactUpTo d m ↔ ∃ j, j < m ∧ d[j]! = x := by
 intro m
 induction m with
 | zero => intro _ x; simp [Lib.compactUpTo]
 | succ m ih =>
  intro hm x
  rw [Lib.compactUpTo_succ, List.mem_append, ih (by omega)]
  constructor
  ·rintro (⟨j, hj, e⟩ | h)
   ·exact ⟨j, by omega, e⟩
   ·split at h
    ·simp at h; exact ⟨m, by omega, h.symm⟩
    ·simp at h
  ·rintro ⟨j, hj, e⟩
   by_cases hjm : j = m
   ·subst hjm
    cases hk : Lib.keeps d j with
    | true => right; simp [e]
    | false =>
     left
     simp only [Lib.keeps, decide_eq_false_iff_not, not_or, Decidable.not_not] at hk
     exact ⟨j - 1, by omega, by rw [← hk.2]; exact e⟩
   ·exact .inl ⟨j, by omega, e⟩
theorem mem_compact (zs : List Int) (x : Int) : x ∈ Lib.compact zs ↔ x ∈ zs := by
 unfold Lib.compact
 rw [compactUpTo_mem _ _ (by simp)]
 constructor
 ·rintro ⟨j, hj, e⟩
  have : zs.toArray[j]! = zs[j] := by simp [hj]
  rw [this] at e; subst e; exact List.getElem_mem _
 ·intro h
  obtain ⟨j, hj, e⟩ := List.getElem_of_mem h
  exact ⟨j, hj, by simp [hj, e]⟩
theorem compact_ris (zs : List Int) (h : zs.Pairwise fun x y => x ≤ y) : Ris (Lib.compact zs) := by
 unfold Lib.compact
 have key : ∀ m, m ≤ zs.length → Ris (Lib.compactUpTo zs.toArray m) := by
  intro m
  induction m with
  | zero => intro _; simp [Lib.compactUpTo]
  | succ m ih =>
   intro hm
   rw [Lib.compactUpTo_succ]
   refine List.pairwise_append.2 ⟨ih (by omega), by split <;> simp, fun a ha b hb => ?_⟩
   obtain ⟨j, hj, rfl⟩ := (compactUpTo_mem _ m (by simp; omega) a).1 ha
   split at hb
   ·rename_i hk
    have hb := List.mem_singleton.1 hb
    subst hb
    simp only [Lib.keeps, decide_eq_true_eq] at hk
    have e1 : ∀ i, (hi : i < zs.length) → zs.toArray[i]! = zs[i] := fun i hi => by simp [hi]
    rcases hk with rfl | hk
    ·omega
    ·rw [e1 m (by omega), e1 (m - 1) (by omega)] at hk
     rw [e1 j (by omega), e1 m (by omega)]
     have hle := List.pairwise_iff_getElem.1 h
     have h2 := hle (m - 1) m (by omega) (by omega) (by omega)
     by_cases hjm : j = m - 1
     ·subst hjm; omega
     ·have h3 := hle j (m - 1) (by omega) (by omega) (by omega)
      omega
   ·simp at hb
 exact key _ (Nat.le_refl _)
theorem sortI_le (xs : List Int) : (sortI xs).Pairwise fun x y => x ≤ y := by
 have := List.pairwise_mergeSort (le := fun x y : Int => decide (x ≤ y)) (fun a b c h1 h2 => by simp only [decide_eq_true_eq] at *; omega) (fun a b => by simp only [Bool.or_eq_true, decide_eq_true_eq]; omega) xs
 exact this.imp fun h => by simpa using h
theorem mem_mkRow {xs : List Int} {x : Int} : x ∈ mkRow xs ↔ x ∈ xs := by
 unfold mkRow
 rw [mem_compact]
 simp [sortI]
theorem mkRow_ris (xs : List Int) : Ris (mkRow xs) := compact_ris _ (sortI_le xs)
theorem mkRow_id {xs : List Int} (h : Ris xs) : mkRow xs = xs := ext_ris (mkRow_ris xs) h fun _ => mem_mkRow
end Go.Proofs.YthbjfhhiajihfaaGreat
set_option linter.unusedVariables false
set_option linter.unusedSimpArgs false
set_option maxHeartbeats 400000
set_option maxRecDepth 100000
namespace Go.Proofs.YthbjfhhiajihfaaGreat
open Go Go.X
def cutRow (row : List Int) (id : Int) : List Int := (mkRow row).filter fun y => decide (y ≠ id)
theorem mem_cutRow {row : List Int} {id x : Int} : x ∈ cutRow row id ↔ x ∈ row ∧ x ≠ id := by simp [cutRow, mem_mkRow]
theorem cutRow_ris (row : List Int) (id : Int) : Ris (cutRow row id) := (mkRow_ris row).sublist List.filter_sublist
def cutRow1 (id : Int) (r : List (LabK × List Int)) (x : Lab) : List (LabK × List Int) :=
 if cutRow ((lookM r (labK x)).getD []) id = [] then cutM (putM r (labK x) (cutRow ((lookM r (labK x)).getD []) id)) (labK x) else putM r (labK x) (cutRow ((lookM r (labK x)).getD []) id)
def dropRows (rows : List (LabK × List Int)) (id : Int) (ls : List Lab) : List (LabK × List Int) := ls.foldl (cutRow1 id) rows
theorem dropRows_snoc (rows : List (LabK × List Int)) (id : Int) (ls : List Lab) (x : Lab) : dropRows rows id (ls ++ [x]) = cutRow1 id (dropRows rows id ls) x := by simp [dropRows]
theorem cutRow_le (row : List Int) (id : Int) : (cutRow row id).length ≤ row.length := Nat.le_trans (List.length_filter_le _ _) (mkRow_le row)
theorem mem_cutM' {κ α : Type} [DecidableEq κ] {k : κ} {l : List (κ × α)} {t : κ × α} (h : t ∈ cutM l k) : t ∈ l := (cutM_sub k l).mem h
theorem cutRow1_bound {r : List (LabK × List Int)} {B : Nat} (h : ∀ t ∈ r, t.2.length ≤ B) (id : Int) (x : Lab) : ∀ t ∈ cutRow1 id r x, t.2.length ≤ B := by
 have hput : ∀ t ∈ putM r (labK x) (cutRow ((lookM r (labK x)).getD []) id), t.2.length ≤ B := fun t ht => by
  rcases mem_putM ht with h1 | rfl
  ·exact h t h1
  ·exact Nat.le_trans (cutRow_le _ _) (look_bound h (labK x))
 intro t ht
 unfold cutRow1 at ht
 split at ht
 ·exact hput t (mem_cutM' ht)
 ·exact hput t ht
theorem dropRows_bound {r : List (LabK × List Int)} {B : Nat} (h : ∀ t ∈ r, t.2.length ≤ B) (id : Int) (ls : List Lab) : ∀ t ∈ dropRows r id ls, t.2.length ≤ B := by
 induction ls generalizing r with
 | nil => exact h
 | cons x ls ih => exact ih (cutRow1_bound h id x)
structure RowsOk (rows : List (LabK × List Int)) : Prop where
 nd : (rows.map (·.1)).Nodup
 row : ∀ t ∈ rows, Ris t.2 ∧ t.2 ≠ []
theorem mkRow_ne {xs : List Int} {x : Int} (h : x ∈ xs) : mkRow xs ≠ [] := fun e => by
 have := mem_mkRow.2 h
 rw [e] at this
 cases this
theorem RowsOk.add1 {rows : List (LabK × List Int)} (h : RowsOk rows) (id : Int) (x : Lab) : RowsOk (addRow1 id rows x) := by
 refine ⟨putM_nodup h.nd, fun t ht => ?_⟩
 rcases mem_putM ht with h1 | rfl
 ·exact h.row t h1
 ·exact ⟨mkRow_ris _, mkRow_ne (x := id) (by simp)⟩
theorem RowsOk.cut1 {rows : List (LabK × List Int)} (h : RowsOk rows) (id : Int) (x : Lab) : RowsOk (cutRow1 id rows x) := by
 unfold cutRow1
 have hp := putM_nodup (k := labK x) (v := cutRow ((lookM rows (labK x)).getD []) id) h.nd
 split
 ·refine ⟨cutM_nodup hp, fun t ht => ?_⟩
  obtain ⟨h1, h2⟩ := (mem_cutM hp).1 ht
  rcases mem_putM h1 with h3 | rfl
  ·exact h.row t h3
  ·exact absurd rfl h2
 ·rename_i hne
  refine ⟨hp, fun t ht => ?_⟩
  rcases mem_putM ht with h3 | rfl
  ·exact h.row t h3
  ·exact ⟨cutRow_ris _ _, hne⟩
theorem look_add1 (rows : List (LabK × List Int)) (id : Int) (x : Lab) (k : LabK) (j : Int) : j ∈ (lookM (addRow1 id rows x) k).getD [] ↔ j ∈ (lookM rows k).getD [] ∨ j = id ∧ labK x = k := by
 unfold addRow1
 rw [lookM_putM]
 by_cases hk : k = labK x
 ·subst hk
  simp [mem_mkRow]
 ·rw [if_neg hk]
  simp [Ne.symm hk]
theorem look_cut1 {rows : List (LabK × List Int)} (h : RowsOk rows) (id : Int) (x : Lab) (k : LabK) (j : Int) : j ∈ (lookM (cutRow1 id rows x) k).getD [] ↔ j ∈ (lookM rows k).getD [] ∧ ¬ (j = id ∧ labK x = k) := by
 have hp := putM_nodup (k := labK x) (v := cutRow ((lookM rows (labK x)).getD []) id) h.nd
 have e : (lookM (cutRow1 id rows x) k).getD [] = if k = labK x then cutRow ((lookM rows (labK x)).getD []) id else (lookM rows k).getD [] := by
  unfold cutRow1
  split
  ·rename_i h0
   rw [lookM_cutM hp, lookM_putM]
   split
   ·simp [h0]
   ·rfl
  ·rw [lookM_putM]
   split <;> rfl
 rw [e]
 by_cases hk : k = labK x
 ·subst hk
  simp [mem_cutRow]
 ·rw [if_neg hk]
  simp [Ne.symm hk]
theorem add_spec (id : Int) (ls : List Lab) : ∀ {rows : List (LabK × List Int)}, RowsOk rows → RowsOk (addRows rows id ls) ∧ ∀ k j, j ∈ (lookM (addRows rows id ls) k).getD [] ↔ j ∈ (lookM rows k).getD [] ∨ j = id ∧ ∃ x ∈ ls, labK x = k := by
 induction ls with
 | nil => intro rows h; exact ⟨h, by simp [addRows]⟩
 | cons x ls ih =>
  intro rows h
  obtain ⟨h1, h2⟩ := ih (h.add1 id x)
  refine ⟨h1, fun k j => ?_⟩
  have := h2 k j
  rw [look_add1] at this
  rw [show addRows rows id (x :: ls) = addRows (addRow1 id rows x) id ls from rfl, this]
  constructor
  ·rintro ((h | ⟨rfl, h⟩) | ⟨rfl, y, hy, h⟩)
   ·exact .inl h
   ·exact .inr ⟨rfl, x, by simp, h⟩
   ·exact .inr ⟨rfl, y, by simp [hy], h⟩
  ·rintro (h | ⟨rfl, y, hy, h⟩)
   ·exact .inl (.inl h)
   ·rcases List.mem_cons.1 hy with rfl | hy
    ·exact .inl (.inr ⟨rfl, h⟩)
    ·exact .inr ⟨rfl, y, hy, h⟩
theorem drop_spec (id : Int) (ls : List Lab) : ∀ {rows : List (LabK × List Int)}, RowsOk rows → RowsOk (dropRows rows id ls) ∧ ∀ k j, j ∈ (lookM (dropRows rows id ls) k).getD [] ↔ j ∈ (lookM rows k).getD [] ∧ ¬ (j = id ∧ ∃ x ∈ ls, labK x = k) := by
 induction ls with
 | nil => intro rows h; exact ⟨h, by simp [dropRows]⟩
 | cons x ls ih =>
  intro rows h
  obtain ⟨h1, h2⟩ := ih (h.cut1 id x)
  refine ⟨h1, fun k j => ?_⟩
  have := h2 k j
  rw [look_cut1 h] at this
  rw [show dropRows rows id (x :: ls) = dropRows (cutRow1 id rows x) id ls from rfl, this]
  constructor
  ·rintro ⟨⟨a, b⟩, c⟩
   refine ⟨a, ?_⟩
   rintro ⟨rfl, y, hy, h⟩
   rcases List.mem_cons.1 hy with rfl | hy
   ·exact b ⟨rfl, h⟩
   ·exact c ⟨rfl, y, hy, h⟩
  ·rintro ⟨a, b⟩
   exact ⟨⟨a, fun ⟨e, h⟩ => b ⟨e, x, by simp, h⟩⟩, fun ⟨e, y, hy, h⟩ => b ⟨e, y, by simp [hy], h⟩⟩
structure IxI (has : List (Int × List Lab)) (rows : List (LabK × List Int)) : Prop where
 nd : (has.map (·.1)).Nodup
 ok : RowsOk rows
 mem : ∀ k id, id ∈ (lookM rows k).getD [] ↔ ∃ ls, (id, ls) ∈ has ∧ ∃ x ∈ ls, labK x = k
theorem IxI.nil : IxI [] [] := ⟨by simp, ⟨by simp, by simp⟩, by simp [lookM, placeM]⟩
theorem IxI.add {has : List (Int × List Lab)} {rows : List (LabK × List Int)} (h : IxI has rows) {id : Int} (hn : lookM has id = none) (ls : List Lab) : IxI (putM has id ls) (addRows rows id ls) := by
 obtain ⟨h1, h2⟩ := add_spec id ls h.ok
 refine ⟨putM_nodup h.nd, h1, fun k j => ?_⟩
 rw [h2, h.mem, putM_new hn]
 simp only [List.mem_append, List.mem_singleton, Prod.mk.injEq]
 constructor
 ·rintro (⟨l, a, b⟩ | ⟨rfl, b⟩)
  ·exact ⟨l, .inl a, b⟩
  ·exact ⟨ls, .inr ⟨rfl, rfl⟩, b⟩
 ·rintro ⟨l, a | ⟨rfl, rfl⟩, b⟩
  ·exact .inl ⟨l, a, b⟩
  ·exact .inr ⟨rfl, b⟩
theorem IxI.drop {has : List (Int × List Lab)} {rows : List (LabK × List Int)} (h : IxI has rows) (id : Int) : IxI (cutM has id) (dropRows rows id ((lookM has id).getD [])) := by
  obtain ⟨h1, h2⟩ := drop_spec id ((lookM has id).getD []) h.ok
  refine ⟨cutM_nodup h.nd, h1, fun k j => ?_⟩
  rw [h2, h.mem]
  constructor
  · rintro ⟨⟨l, a, b⟩, c⟩
    refine ⟨l, (mem_cutM h.nd).2 ⟨a, fun e => c ⟨e, ?_⟩⟩, b⟩
    simp only at e
    subst e
    rw [(lookM_iff h.nd).2 a]
    exact b
  · rintro ⟨l, a, b⟩
    obtain ⟨a1, a2⟩ := (mem_cutM h.nd).1 a
    exact ⟨⟨l, a1, b⟩, fun c => a2 c.1⟩
theorem IxI.keys {has : List (Int × List Lab)} {rows : List (LabK × List Int)} (h : IxI has rows) (k : LabK) : k ∈ rows.map (·.1) ↔ ∃ t ∈ has, ∃ x ∈ t.2, labK x = k := by
 constructor
 ·intro hk
  obtain ⟨t, ht, rfl⟩ := List.mem_map.1 hk
  obtain ⟨_, hne⟩ := h.ok.row t ht
  obtain ⟨id, hid⟩ := List.exists_mem_of_ne_nil _ hne
  have hl : lookM rows t.1 = some t.2 := (lookM_iff h.ok.nd).2 ht
  obtain ⟨ls, a, b⟩ := (h.mem t.1 id).1 (by rw [hl]; exact hid)
  exact ⟨(id, ls), a, b⟩
 ·rintro ⟨t, ht, hx⟩
  have hm := (h.mem k t.1).2 ⟨t.2, ht, hx⟩
  refine Classical.byContradiction fun hk => ?_
  rw [lookM_none.2 hk] at hm
  cases hm
theorem IxI.len {has : List (Int × List Lab)} {rows : List (LabK × List Int)} (h : IxI has rows) {D : List Lab} (hD : D.Nodup) (hm : ∀ x, x ∈ D ↔ ∃ t ∈ has, x ∈ t.2) : rows.length = D.length := by
 have hinj : ∀ x y : Lab, labK x = labK y → x = y := fun x y e => by
  cases x; cases y
  simp only [labK, Prod.mk.injEq] at e
  obtain ⟨rfl, rfl⟩ := e
  rfl
 have hD' : (D.map labK).Nodup := by
  refine List.pairwise_map.2 (hD.imp fun {a b} hne e => hne (hinj a b e))
 have hp : (rows.map (·.1)).Perm (D.map labK) := (List.perm_ext_iff_of_nodup h.ok.nd hD').2 fun k => by
  rw [h.keys, List.mem_map]
  constructor
  ·rintro ⟨t, ht, x, hx, e⟩
   exact ⟨x, (hm x).2 ⟨t, ht, hx⟩, e⟩
  ·rintro ⟨x, hx, e⟩
   obtain ⟨t, ht, hx'⟩ := (hm x).1 hx
   exact ⟨t, ht, x, hx', e⟩
 simpa using hp.length_eq
end Go.Proofs.YthbjfhhiajihfaaGreat
set_option linter.unusedVariables false
set_option linter.unusedSimpArgs false
set_option maxHeartbeats 1000000
set_option maxRecDepth 100000
namespace Go.Proofs.YthbjfhhiajihfaaGreat
open Go Go.X
theorem value2_ok (s : ByteArray) (w : World) : Fx Tryz.prog 204 [.string s] w (fun v w' => v = .bool (valS s) ∧ w = w') := by
 refine enter Tryz.func204 rfl rfl rfl _ (Pick.sub (l := [0]) (.cons rfl .nil)) ?_
 refine GG ?_
 refine QQ (Yld.lenStr u9 rfl) ?_
 refine GG ?_
 refine SP 6 (fun h6 => ?_) (fun h6 => ?_)
 ·refine QQ (Yld.pure rfl) ?_
  refine QQ (Yld.lenStr u9 rfl) ?_
  refine QQ (Yld.pure rfl) ?_
  refine GG ?_
  refine RK.ret_of Tryz.func204 (res1 rfl rfl) ?_ _
  exact ⟨_, rfl, congrArg _ (by rw [Bool.eq_iff_iff]; simp [valS]; omega), rfl⟩
 ·iterate 3 refine RL.no (.no rfl rfl rfl rfl) rfl rfl ?_
  refine GG ?_
  refine RK.ret_of Tryz.func204 (res1 rfl rfl) ?_ _
  exact ⟨_, rfl, congrArg _ (by rw [Bool.eq_iff_iff]; simp [valS]; omega), rfl⟩
def NmTo (s : ByteArray) (k : Nat) : Prop := (∀ i, i < k → chS (bt s i).toNat = true) ∧ (0 < k → letS (bt s 0).toNat = true)
theorem NmTo.no {s : ByteArray} {k : Nat} (hk : k < s.size) (h : letS (bt s k).toNat = false) (h' : k = 0 ∨ ¬ (48 ≤ ((bt s k).toNat : Int) ∧ ((bt s k).toNat : Int) ≤ 57)) : nameS s = false := by
 rcases h' with rfl | h'
 ·exact name_no2 h
 ·exact name_no3 hk (by simp [chS, h]; omega)
theorem NmTo.step {s : ByteArray} {k : Nat} (h : NmTo s k) (h' : letS (bt s k).toNat = true ∨ k ≠ 0 ∧ 48 ≤ ((bt s k).toNat : Int) ∧ ((bt s k).toNat : Int) ≤ 57) : NmTo s (k + 1) := by
 refine ⟨fun i hi => ?_, fun _ => ?_⟩
 ·by_cases e : i = k
  ·subst e
   rcases h' with h' | h'
   ·simp [chS, h']
   ·simp [chS]; exact .inr (by omega)
  ·exact h.1 i (by omega)
 ·by_cases e : k = 0
  ·subst e
   rcases h' with h' | h'
   ·exact h'
   ·exact absurd rfl h'.1
  ·exact h.2 (by omega)
theorem NmTo.end {s : ByteArray} {k : Nat} (h : NmTo s k) (hk : k = s.size) : nameS s = decide (1 ≤ s.size ∧ s.size ≤ 12) := by
 subst hk
 by_cases hs : 1 ≤ s.size ∧ s.size ≤ 12
 ·rw [decide_eq_true hs]
  exact name_yes hs.1 hs.2 (h.2 (by omega)) h.1
 ·rw [decide_eq_false hs]
  exact name_no1 hs
theorem name2_ok (s : ByteArray) (hsz : s.size ≤ 9223372036854775807) (w : World) : Fx Tryz.prog 81 [.string s] w (fun v w' => v = .bool (nameS s) ∧ w = w') := by
 refine enter Tryz.func81 rfl rfl rfl _ (Pick.sub (l := [0]) (.cons rfl .nil)) ?_
 refine GG ?_
 refine RK.loop (fun k : Nat => [(0, .string s), (3, .int .i64 k)]) (fun k w' => w = w' ∧ k ≤ s.size ∧ NmTo s k) (fun k => s.size - k) 0 ⟨rfl, rfl, trivial⟩ ⟨rfl, by omega, fun i hi => by omega, fun h => by omega⟩ (fun k w' hI ih => ?_)
 obtain ⟨rfl, hk, hn⟩ := hI
 refine GG ?_
 refine QQ (Yld.lenStr u9 rfl) ?_
 refine GG ?_
 refine CD (fun h9 => ?_) (fun h9 => ?_)
 ·refine GG ?_
  refine QQ (Yld.idxStrN u9 rfl rfl (by omega)) ?_
  refine GG ?_
  refine SP 17 (fun h17 => ?_) (fun h17 => ?_)
  ·iterate 2 refine QQ (Yld.pure rfl) ?_
   refine GG ?_
   refine SP 21 (fun h21 => ?_) (fun h21 => ?_)
   ·iterate 6 refine RL.no (.no rfl rfl rfl rfl) rfl rfl ?_
    refine GG ?_
    iterate 2 refine RL.no (.no rfl rfl rfl rfl) rfl rfl ?_
    refine GG ?_
    iterate 10 refine RL.no (.no rfl rfl rfl rfl) rfl rfl ?_
    refine GG ?_
    refine RK.condF rfl ?_
    refine RK.skip ?_
    refine RK.inBlock ?_
    refine RK.region ?_
    iterate 2 refine RL.p rfl rfl ?_
    refine RL.re (d := 11) rfl rfl (succ_i64 (by omega)) ?_
    refine GG ?_
    exact RK.back (ih (k + 1) _ ⟨rfl, by omega, hn.step (by first | exact .inl (by simp [letS]; omega) | exact .inr (by omega))⟩ (by omega)) ⟨rfl, rfl, trivial⟩
   ·iterate 3 refine QQ (Yld.pure rfl) ?_
    refine SP 24 (fun h24 => ?_) (fun h24 => ?_)
    ·iterate 3 refine QQ (Yld.pure rfl) ?_
     refine GG ?_
     refine SP 29 (fun h29 => ?_) (fun h29 => ?_)
     ·iterate 2 refine RL.no (.no rfl rfl rfl rfl) rfl rfl ?_
      refine GG ?_
      iterate 10 refine RL.no (.no rfl rfl rfl rfl) rfl rfl ?_
      refine GG ?_
      refine RK.condF rfl ?_
      refine RK.skip ?_
      refine RK.inBlock ?_
      refine RK.region ?_
      iterate 2 refine RL.p rfl rfl ?_
      refine RL.re (d := 11) rfl rfl (succ_i64 (by omega)) ?_
      refine GG ?_
      exact RK.back (ih (k + 1) _ ⟨rfl, by omega, hn.step (by first | exact .inl (by simp [letS]; omega) | exact .inr (by omega))⟩ (by omega)) ⟨rfl, rfl, trivial⟩
     ·iterate 2 refine QQ (Yld.pure rfl) ?_
      refine GG ?_
      refine SP 35 (fun h35 => ?_) (fun h35 => ?_)
      ·iterate 3 refine QQ (Yld.pure rfl) ?_
       refine SP 38 (fun h38 => ?_) (fun h38 => ?_)
       ·iterate 2 refine RL.no (.no rfl rfl rfl rfl) rfl rfl ?_
        iterate 2 refine QQ (Yld.pure rfl) ?_
        iterate 2 refine RL.no (.no rfl rfl rfl rfl) rfl rfl ?_
        refine QQ (Yld.pure rfl) ?_
        refine GG ?_
        refine RK.condT rfl ?_
        refine GG ?_
        refine RK.ret_of Tryz.func81 (res1 rfl rfl) ?_ _
        exact ⟨_, rfl, congrArg _ (by first
          | exact (NmTo.no (k := k) (by omega) (by simp [letS]; omega) (by omega)).symm
          | (rw [hn.end (by omega)]; rw [Bool.eq_iff_iff]; simp; omega)), rfl⟩
       ·iterate 4 refine QQ (Yld.pure rfl) ?_
        refine SP 42 (fun h42 => ?_) (fun h42 => ?_)
        ·iterate 2 refine RL.no (.no rfl rfl rfl rfl) rfl rfl ?_
         refine QQ (Yld.pure rfl) ?_
         refine GG ?_
         refine RK.condT rfl ?_
         refine GG ?_
         refine RK.ret_of Tryz.func81 (res1 rfl rfl) ?_ _
         exact ⟨_, rfl, congrArg _ (by first
           | exact (NmTo.no (k := k) (by omega) (by simp [letS]; omega) (by omega)).symm
           | (rw [hn.end (by omega)]; rw [Bool.eq_iff_iff]; simp; omega)), rfl⟩
        ·iterate 3 refine QQ (Yld.pure rfl) ?_
         refine GG ?_
         refine CD (fun h46 => ?_) (fun h46 => ?_)
         ·refine GG ?_
          refine RK.ret_of Tryz.func81 (res1 rfl rfl) ?_ _
          exact ⟨_, rfl, congrArg _ (by first
            | exact (NmTo.no (k := k) (by omega) (by simp [letS]; omega) (by omega)).symm
            | (rw [hn.end (by omega)]; rw [Bool.eq_iff_iff]; simp; omega)), rfl⟩
         ·refine RK.skip ?_
          refine RK.inBlock ?_
          refine RK.region ?_
          iterate 2 refine RL.p rfl rfl ?_
          refine RL.re (d := 11) rfl rfl (succ_i64 (by omega)) ?_
          refine GG ?_
          exact RK.back (ih (k + 1) _ ⟨rfl, by omega, hn.step (by first | exact .inl (by simp [letS]; omega) | exact .inr (by omega))⟩ (by omega)) ⟨rfl, rfl, trivial⟩
      ·iterate 10 refine RL.no (.no rfl rfl rfl rfl) rfl rfl ?_
       refine GG ?_
       refine RK.condF rfl ?_
       refine RK.skip ?_
       refine RK.inBlock ?_
       refine RK.region ?_
       iterate 2 refine RL.p rfl rfl ?_
       refine RL.re (d := 11) rfl rfl (succ_i64 (by omega)) ?_
       refine GG ?_
       exact RK.back (ih (k + 1) _ ⟨rfl, by omega, hn.step (by first | exact .inl (by simp [letS]; omega) | exact .inr (by omega))⟩ (by omega)) ⟨rfl, rfl, trivial⟩
    ·iterate 2 refine RL.no (.no rfl rfl rfl rfl) rfl rfl ?_
     refine QQ (Yld.pure rfl) ?_
     refine GG ?_
     iterate 2 refine QQ (Yld.pure rfl) ?_
     refine GG ?_
     refine SP 35 (fun h35 => ?_) (fun h35 => ?_)
     ·iterate 3 refine QQ (Yld.pure rfl) ?_
      refine SP 38 (fun h38 => ?_) (fun h38 => ?_)
      ·iterate 2 refine RL.no (.no rfl rfl rfl rfl) rfl rfl ?_
       iterate 2 refine QQ (Yld.pure rfl) ?_
       iterate 2 refine RL.no (.no rfl rfl rfl rfl) rfl rfl ?_
       refine QQ (Yld.pure rfl) ?_
       refine GG ?_
       refine RK.condT rfl ?_
       refine GG ?_
       refine RK.ret_of Tryz.func81 (res1 rfl rfl) ?_ _
       exact ⟨_, rfl, congrArg _ (by first
         | exact (NmTo.no (k := k) (by omega) (by simp [letS]; omega) (by omega)).symm
         | (rw [hn.end (by omega)]; rw [Bool.eq_iff_iff]; simp; omega)), rfl⟩
      ·iterate 4 refine QQ (Yld.pure rfl) ?_
       refine SP 42 (fun h42 => ?_) (fun h42 => ?_)
       ·iterate 2 refine RL.no (.no rfl rfl rfl rfl) rfl rfl ?_
        refine QQ (Yld.pure rfl) ?_
        refine GG ?_
        refine RK.condT rfl ?_
        refine GG ?_
        refine RK.ret_of Tryz.func81 (res1 rfl rfl) ?_ _
        exact ⟨_, rfl, congrArg _ (by first
          | exact (NmTo.no (k := k) (by omega) (by simp [letS]; omega) (by omega)).symm
          | (rw [hn.end (by omega)]; rw [Bool.eq_iff_iff]; simp; omega)), rfl⟩
       ·iterate 3 refine QQ (Yld.pure rfl) ?_
        refine GG ?_
        refine CD (fun h46 => ?_) (fun h46 => ?_)
        ·refine GG ?_
         refine RK.ret_of Tryz.func81 (res1 rfl rfl) ?_ _
         exact ⟨_, rfl, congrArg _ (by first
           | exact (NmTo.no (k := k) (by omega) (by simp [letS]; omega) (by omega)).symm
           | (rw [hn.end (by omega)]; rw [Bool.eq_iff_iff]; simp; omega)), rfl⟩
        ·refine RK.skip ?_
         refine RK.inBlock ?_
         refine RK.region ?_
         iterate 2 refine RL.p rfl rfl ?_
         refine RL.re (d := 11) rfl rfl (succ_i64 (by omega)) ?_
         refine GG ?_
         exact RK.back (ih (k + 1) _ ⟨rfl, by omega, hn.step (by first | exact .inl (by simp [letS]; omega) | exact .inr (by omega))⟩ (by omega)) ⟨rfl, rfl, trivial⟩
     ·iterate 10 refine RL.no (.no rfl rfl rfl rfl) rfl rfl ?_
      refine GG ?_
      refine RK.condF rfl ?_
      refine RK.skip ?_
      refine RK.inBlock ?_
      refine RK.region ?_
      iterate 2 refine RL.p rfl rfl ?_
      refine RL.re (d := 11) rfl rfl (succ_i64 (by omega)) ?_
      refine GG ?_
      exact RK.back (ih (k + 1) _ ⟨rfl, by omega, hn.step (by first | exact .inl (by simp [letS]; omega) | exact .inr (by omega))⟩ (by omega)) ⟨rfl, rfl, trivial⟩
  ·iterate 2 refine RL.no (.no rfl rfl rfl rfl) rfl rfl ?_
   refine GG ?_
   iterate 3 refine QQ (Yld.pure rfl) ?_
   refine SP 24 (fun h24 => ?_) (fun h24 => ?_)
   ·iterate 3 refine QQ (Yld.pure rfl) ?_
    refine GG ?_
    refine SP 29 (fun h29 => ?_) (fun h29 => ?_)
    ·iterate 2 refine RL.no (.no rfl rfl rfl rfl) rfl rfl ?_
     refine GG ?_
     iterate 10 refine RL.no (.no rfl rfl rfl rfl) rfl rfl ?_
     refine GG ?_
     refine RK.condF rfl ?_
     refine RK.skip ?_
     refine RK.inBlock ?_
     refine RK.region ?_
     iterate 2 refine RL.p rfl rfl ?_
     refine RL.re (d := 11) rfl rfl (succ_i64 (by omega)) ?_
     refine GG ?_
     exact RK.back (ih (k + 1) _ ⟨rfl, by omega, hn.step (by first | exact .inl (by simp [letS]; omega) | exact .inr (by omega))⟩ (by omega)) ⟨rfl, rfl, trivial⟩
    ·iterate 2 refine QQ (Yld.pure rfl) ?_
     refine GG ?_
     refine SP 35 (fun h35 => ?_) (fun h35 => ?_)
     ·iterate 3 refine QQ (Yld.pure rfl) ?_
      refine SP 38 (fun h38 => ?_) (fun h38 => ?_)
      ·iterate 2 refine RL.no (.no rfl rfl rfl rfl) rfl rfl ?_
       iterate 2 refine QQ (Yld.pure rfl) ?_
       iterate 2 refine RL.no (.no rfl rfl rfl rfl) rfl rfl ?_
       refine QQ (Yld.pure rfl) ?_
       refine GG ?_
       refine RK.condT rfl ?_
       refine GG ?_
       refine RK.ret_of Tryz.func81 (res1 rfl rfl) ?_ _
       exact ⟨_, rfl, congrArg _ (by first
         | exact (NmTo.no (k := k) (by omega) (by simp [letS]; omega) (by omega)).symm
         | (rw [hn.end (by omega)]; rw [Bool.eq_iff_iff]; simp; omega)), rfl⟩
      ·iterate 4 refine QQ (Yld.pure rfl) ?_
       refine SP 42 (fun h42 => ?_) (fun h42 => ?_)
       ·iterate 2 refine RL.no (.no rfl rfl rfl rfl) rfl rfl ?_
        refine QQ (Yld.pure rfl) ?_
        refine GG ?_
        refine RK.condT rfl ?_
        refine GG ?_
        refine RK.ret_of Tryz.func81 (res1 rfl rfl) ?_ _
        exact ⟨_, rfl, congrArg _ (by first
          | exact (NmTo.no (k := k) (by omega) (by simp [letS]; omega) (by omega)).symm
          | (rw [hn.end (by omega)]; rw [Bool.eq_iff_iff]; simp; omega)), rfl⟩
       ·iterate 3 refine QQ (Yld.pure rfl) ?_
        refine GG ?_
        refine CD (fun h46 => ?_) (fun h46 => ?_)
        ·refine GG ?_
         refine RK.ret_of Tryz.func81 (res1 rfl rfl) ?_ _
         exact ⟨_, rfl, congrArg _ (by first
           | exact (NmTo.no (k := k) (by omega) (by simp [letS]; omega) (by omega)).symm
           | (rw [hn.end (by omega)]; rw [Bool.eq_iff_iff]; simp; omega)), rfl⟩
        ·refine RK.skip ?_
         refine RK.inBlock ?_
         refine RK.region ?_
         iterate 2 refine RL.p rfl rfl ?_
         refine RL.re (d := 11) rfl rfl (succ_i64 (by omega)) ?_
         refine GG ?_
         exact RK.back (ih (k + 1) _ ⟨rfl, by omega, hn.step (by first | exact .inl (by simp [letS]; omega) | exact .inr (by omega))⟩ (by omega)) ⟨rfl, rfl, trivial⟩
     ·iterate 10 refine RL.no (.no rfl rfl rfl rfl) rfl rfl ?_
      refine GG ?_
      refine RK.condF rfl ?_
      refine RK.skip ?_
      refine RK.inBlock ?_
      refine RK.region ?_
      iterate 2 refine RL.p rfl rfl ?_
      refine RL.re (d := 11) rfl rfl (succ_i64 (by omega)) ?_
      refine GG ?_
      exact RK.back (ih (k + 1) _ ⟨rfl, by omega, hn.step (by first | exact .inl (by simp [letS]; omega) | exact .inr (by omega))⟩ (by omega)) ⟨rfl, rfl, trivial⟩
   ·iterate 2 refine RL.no (.no rfl rfl rfl rfl) rfl rfl ?_
    refine QQ (Yld.pure rfl) ?_
    refine GG ?_
    iterate 2 refine QQ (Yld.pure rfl) ?_
    refine GG ?_
    refine SP 35 (fun h35 => ?_) (fun h35 => ?_)
    ·iterate 3 refine QQ (Yld.pure rfl) ?_
     refine SP 38 (fun h38 => ?_) (fun h38 => ?_)
     ·iterate 2 refine RL.no (.no rfl rfl rfl rfl) rfl rfl ?_
      iterate 2 refine QQ (Yld.pure rfl) ?_
      iterate 2 refine RL.no (.no rfl rfl rfl rfl) rfl rfl ?_
      refine QQ (Yld.pure rfl) ?_
      refine GG ?_
      refine RK.condT rfl ?_
      refine GG ?_
      refine RK.ret_of Tryz.func81 (res1 rfl rfl) ?_ _
      exact ⟨_, rfl, congrArg _ (by first
        | exact (NmTo.no (k := k) (by omega) (by simp [letS]; omega) (by omega)).symm
        | (rw [hn.end (by omega)]; rw [Bool.eq_iff_iff]; simp; omega)), rfl⟩
     ·iterate 4 refine QQ (Yld.pure rfl) ?_
      refine SP 42 (fun h42 => ?_) (fun h42 => ?_)
      ·iterate 2 refine RL.no (.no rfl rfl rfl rfl) rfl rfl ?_
       refine QQ (Yld.pure rfl) ?_
       refine GG ?_
       refine RK.condT rfl ?_
       refine GG ?_
       refine RK.ret_of Tryz.func81 (res1 rfl rfl) ?_ _
       exact ⟨_, rfl, congrArg _ (by first
         | exact (NmTo.no (k := k) (by omega) (by simp [letS]; omega) (by omega)).symm
         | (rw [hn.end (by omega)]; rw [Bool.eq_iff_iff]; simp; omega)), rfl⟩
      ·iterate 3 refine QQ (Yld.pure rfl) ?_
       refine GG ?_
       refine CD (fun h46 => ?_) (fun h46 => ?_)
       ·refine GG ?_
        refine RK.ret_of Tryz.func81 (res1 rfl rfl) ?_ _
        exact ⟨_, rfl, congrArg _ (by first
          | exact (NmTo.no (k := k) (by omega) (by simp [letS]; omega) (by omega)).symm
          | (rw [hn.end (by omega)]; rw [Bool.eq_iff_iff]; simp; omega)), rfl⟩
       ·refine RK.skip ?_
        refine RK.inBlock ?_
        refine RK.region ?_
        iterate 2 refine RL.p rfl rfl ?_
        refine RL.re (d := 11) rfl rfl (succ_i64 (by omega)) ?_
        refine GG ?_
        exact RK.back (ih (k + 1) _ ⟨rfl, by omega, hn.step (by first | exact .inl (by simp [letS]; omega) | exact .inr (by omega))⟩ (by omega)) ⟨rfl, rfl, trivial⟩
    ·iterate 10 refine RL.no (.no rfl rfl rfl rfl) rfl rfl ?_
     refine GG ?_
     refine RK.condF rfl ?_
     refine RK.skip ?_
     refine RK.inBlock ?_
     refine RK.region ?_
     iterate 2 refine RL.p rfl rfl ?_
     refine RL.re (d := 11) rfl rfl (succ_i64 (by omega)) ?_
     refine GG ?_
     exact RK.back (ih (k + 1) _ ⟨rfl, by omega, hn.step (by first | exact .inl (by simp [letS]; omega) | exact .inr (by omega))⟩ (by omega)) ⟨rfl, rfl, trivial⟩
 ·refine RK.exit rfl ?_
  refine GG ?_
  refine QQ (Yld.lenStr u9 rfl) ?_
  refine GG ?_
  refine SP 50 (fun h50 => ?_) (fun h50 => ?_)
  ·refine QQ (Yld.pure rfl) ?_
   refine QQ (Yld.lenStr u9 rfl) ?_
   refine QQ (Yld.pure rfl) ?_
   refine GG ?_
   refine RK.ret_of Tryz.func81 (res1 rfl rfl) ?_ _
   exact ⟨_, rfl, congrArg _ (by first
     | exact (NmTo.no (k := k) (by omega) (by simp [letS]; omega) (by omega)).symm
     | (rw [hn.end (by omega)]; rw [Bool.eq_iff_iff]; simp; omega)), rfl⟩
  ·iterate 3 refine RL.no (.no rfl rfl rfl rfl) rfl rfl ?_
   refine GG ?_
   refine RK.ret_of Tryz.func81 (res1 rfl rfl) ?_ _
   exact ⟨_, rfl, congrArg _ (by first
     | exact (NmTo.no (k := k) (by omega) (by simp [letS]; omega) (by omega)).symm
     | (rw [hn.end (by omega)]; rw [Bool.eq_iff_iff]; simp; omega)), rfl⟩
theorem isSet_ok (M : Nat → Prop) (ls : List Lab) (hsz : ∀ x ∈ ls, x.name.size ≤ 9223372036854775807) (v : Value) (w : World) (hv : SlL M w v ls) : Fx Tryz.prog 149 [v] w (fun u w' => u = .bool (isS ls) ∧ Grow w w') := by
  obtain ⟨ad, c, rfl⟩ := hv.shape
  have hbig := hv.big
  refine enter Tryz.func149 rfl rfl rfl _ (Pick.sub (l := [0]) (.cons rfl .nil)) ?_
  refine RK.seq ?_
  refine RK.region ?_
  refine RL.p rfl rfl ?_
  refine RL.done ?_
  iterate 2 refine RK.seq ?_
  refine RK.region ?_
  refine RL.p rfl rfl ?_
  refine RL.q (.free rfl) rfl rfl (Yld.lenSl u33 rfl) ?_
  iterate 2 refine RL.p rfl rfl ?_
  first | refine RL.splitD (d := 7) rfl rfl (fun h7 => ?_) (fun h7 => ?_) | refine RL.splitN (d := 7) rfl rfl (fun h7 => ?_) (fun h7 => ?_) | refine RL.split (d := 7) rfl rfl (fun h7 => ?_) (fun h7 => ?_)
  · iterate 3 refine RL.no (.no rfl rfl rfl rfl) rfl rfl ?_
    refine RL.p rfl rfl ?_
    refine RL.done ?_
    refine RK.condT rfl ?_
    refine RK.seq ?_
    refine RK.region ?_
    refine RL.p rfl rfl ?_
    refine RL.done ?_
    refine RK.ret_of Tryz.func149 (res1 rfl rfl) ?_ _
    exact ⟨_, rfl, congrArg _ (by first
        | exact (is_no1 (by omega)).symm
        | exact (is_no2 (i := k) (by omega) (okAt_no1 hx (by simpa using h25))).symm
        | exact (is_no2 (i := k) (by omega) (okAt_no2 hx (by simpa using h34))).symm
        | exact (is_no2 (i := k) (by omega) (okAt_no3 hx hj hy h51)).symm
        | exact (is_yes (by omega) (by omega) fun i hi => hall i (by omega)).symm), by first
        | exact Mod.refl _ _
        | exact hg.trans (Mod.drew _ _)
        | exact hg⟩
  · refine RL.q (.yes rfl rfl rfl) rfl rfl (Yld.pure rfl) ?_
    refine RL.q (.yes rfl rfl rfl) rfl rfl (Yld.lenSl u33 rfl) ?_
    refine RL.q (.yes rfl rfl rfl) rfl rfl (Yld.pure rfl) ?_
    refine RL.p rfl rfl ?_
    refine RL.done ?_
    first | refine RK.condD rfl (fun h11 => ?_) (fun h11 => ?_) | refine RK.condN rfl (fun h11 => ?_) (fun h11 => ?_) | refine RK.cond rfl (fun h11 => ?_) (fun h11 => ?_)
    · refine RK.seq ?_
      refine RK.region ?_
      refine RL.p rfl rfl ?_
      refine RL.done ?_
      refine RK.ret_of Tryz.func149 (res1 rfl rfl) ?_ _
      exact ⟨_, rfl, congrArg _ (by first
          | exact (is_no1 (by omega)).symm
          | exact (is_no2 (i := k) (by omega) (okAt_no1 hx (by simpa using h25))).symm
          | exact (is_no2 (i := k) (by omega) (okAt_no2 hx (by simpa using h34))).symm
          | exact (is_no2 (i := k) (by omega) (okAt_no3 hx hj hy h51)).symm
          | exact (is_yes (by omega) (by omega) fun i hi => hall i (by omega)).symm), by first
          | exact Mod.refl _ _
          | exact hg.trans (Mod.drew _ _)
          | exact hg⟩
    · refine RK.skip ?_
      iterate 2 refine RK.seq ?_
      refine RK.region ?_
      refine RL.p rfl rfl ?_
      refine RL.done ?_
      refine RK.block ?_
      refine RK.loop (fun k : Nat => [(0, .slice ad ls.length c), (3, .int .i64 k)]) (fun k w' => Grow w w' ∧ k ≤ ls.length ∧ ∀ i, i < k → okAt ls i = true) (fun k => ls.length - k) 0 ⟨rfl, rfl, trivial⟩ ⟨Mod.refl _ _, by omega, fun i hi => by omega⟩ (fun k w' hI ih => ?_)
      obtain ⟨hg, hk, hall⟩ := hI
      iterate 2 refine RK.seq ?_
      refine RK.region ?_
      iterate 2 refine RL.p rfl rfl ?_
      refine RL.q (.free rfl) rfl rfl (Yld.lenSl u33 rfl) ?_
      refine RL.p rfl rfl ?_
      refine RL.done ?_
      first | refine RK.condD rfl (fun h15 => ?_) (fun h15 => ?_) | refine RK.condN rfl (fun h15 => ?_) (fun h15 => ?_) | refine RK.cond rfl (fun h15 => ?_) (fun h15 => ?_)
      · obtain ⟨x, hx⟩ : ∃ x, ls[k]? = some x := ⟨ls[k]'(by omega), List.getElem?_eq_getElem (by omega)⟩
        obtain ⟨b, o, c', he, hb, hkl, hcell⟩ := hv.elem labC_len hx
        cases he
        refine RK.skip ?_
        refine RK.seq ?_
        refine RK.block ?_
        refine RK.seq ?_
        refine RK.drawM No [(0, false), (1, false), (2, false), (3, false), (4, false), (5, true), (6, false), (7, false), (8, false), (9, false), (10, false), (11, false), (12, false), (13, true), (14, false), (15, false), (16, false), (17, false), (18, false), (19, false), (20, false), (21, false), (22, false), (23, false), (24, false), (25, false), (26, false), (27, false), (28, false), (29, false), (30, false), (31, false), (32, false), (33, false)] [] mixed (by kernel_rfl) ?_
        iterate 2 refine DL.p rfl rfl rfl ?_
        refine DL.qf rfl (.free rfl) rfl rfl (Yld.indexAddrN u33 i79 rfl rfl (by omega)) ?_
        refine DL.qf rfl (.free rfl) rfl rfl (Yld.fieldAddr fo79_0 rfl) ?_
        refine DL.q rfl (.free rfl) rfl rfl rfl (Yld.load p9 rfl (atM (hg.cell (hcell 0 _ rfl) (fun h => h)) (fun h => h))) (Mod.drew _ _) ?_
        refine DL.op rfl (.free rfl) rfl rfl (Does.call rfl e81 (name2_ok _ (hsz x (List.mem_of_getElem? hx)) _)) ?_
        rintro _ _ ⟨rfl, rfl⟩
        refine ⟨Mod.drew _ _, ?_⟩
        iterate 2 refine DL.p rfl rfl rfl ?_
        first | refine DL.splitD (d := 25) rfl rfl (fun h25 => ?_) (fun h25 => ?_) | refine DL.splitN (d := 25) rfl rfl (fun h25 => ?_) (fun h25 => ?_) | refine DL.split (d := 25) rfl rfl (fun h25 => ?_) (fun h25 => ?_)
        · iterate 5 refine DL.no rfl (.no rfl rfl rfl rfl) rfl rfl ?_
          refine DL.lno rfl (.no rfl rfl rfl rfl) rfl rfl ?_
          refine DL.no rfl (.no rfl rfl rfl rfl) rfl rfl ?_
          iterate 2 refine DL.p rfl rfl rfl ?_
          iterate 16 refine DL.no rfl (.no rfl rfl rfl rfl) rfl rfl ?_
          refine DL.p rfl rfl rfl ?_
          refine DL.done ?_
          refine RK.condT rfl ?_
          refine RK.seq ?_
          refine RK.region ?_
          refine RL.p rfl rfl ?_
          refine RL.done ?_
          refine RK.ret_of Tryz.func149 (res1 rfl rfl) ?_ _
          exact ⟨_, rfl, congrArg _ (by first
              | exact (is_no1 (by omega)).symm
              | exact (is_no2 (i := k) (by omega) (okAt_no1 hx (by simpa using h25))).symm
              | exact (is_no2 (i := k) (by omega) (okAt_no2 hx (by simpa using h34))).symm
              | exact (is_no2 (i := k) (by omega) (okAt_no3 hx hj hy h51)).symm
              | exact (is_yes (by omega) (by omega) fun i hi => hall i (by omega)).symm), by first
              | exact Mod.refl _ _
              | exact hg.trans (Mod.drew _ _)
              | exact hg⟩
        · iterate 2 refine DL.qf rfl (.yes rfl rfl rfl) rfl rfl (Yld.pure rfl) ?_
          refine DL.qf rfl (.yes rfl rfl rfl) rfl rfl (Yld.indexAddrN u33 i79 rfl rfl (by omega)) ?_
          refine DL.qf rfl (.yes rfl rfl rfl) rfl rfl (Yld.fieldAddr fo79_1 rfl) ?_
          refine DL.q rfl (.yes rfl rfl rfl) rfl rfl rfl (Yld.load p9 rfl (atM (hg.cell (hcell 1 _ rfl) (fun h => h)) (fun h => h))) (Mod.drew _ _) ?_
          refine DL.op rfl (.yes rfl rfl rfl) rfl rfl (Does.call rfl e204 (value2_ok _ _)) ?_
          rintro _ _ ⟨rfl, rfl⟩
          refine ⟨Mod.drew _ _, ?_⟩
          refine DL.qf rfl (.yes rfl rfl rfl) rfl rfl (Yld.pure rfl) ?_
          iterate 2 refine DL.p rfl rfl rfl ?_
          first | refine DL.splitD (d := 34) rfl rfl (fun h34 => ?_) (fun h34 => ?_) | refine DL.splitN (d := 34) rfl rfl (fun h34 => ?_) (fun h34 => ?_) | refine DL.split (d := 34) rfl rfl (fun h34 => ?_) (fun h34 => ?_)
          · iterate 16 refine DL.no rfl (.no rfl rfl rfl rfl) rfl rfl ?_
            refine DL.p rfl rfl rfl ?_
            refine DL.done ?_
            refine RK.condT rfl ?_
            refine RK.seq ?_
            refine RK.region ?_
            refine RL.p rfl rfl ?_
            refine RL.done ?_
            refine RK.ret_of Tryz.func149 (res1 rfl rfl) ?_ _
            exact ⟨_, rfl, congrArg _ (by first
                | exact (is_no1 (by omega)).symm
                | exact (is_no2 (i := k) (by omega) (okAt_no1 hx (by simpa using h25))).symm
                | exact (is_no2 (i := k) (by omega) (okAt_no2 hx (by simpa using h34))).symm
                | exact (is_no2 (i := k) (by omega) (okAt_no3 hx hj hy h51)).symm
                | exact (is_yes (by omega) (by omega) fun i hi => hall i (by omega)).symm), by first
                | exact Mod.refl _ _
                | exact hg.trans (Mod.drew _ _)
                | exact hg⟩
          · iterate 3 refine DL.qf rfl (.yes rfl rfl rfl) rfl rfl (Yld.pure rfl) ?_
            first | refine DL.splitD (d := 37) rfl rfl (fun h37 => ?_) (fun h37 => ?_) | refine DL.splitN (d := 37) rfl rfl (fun h37 => ?_) (fun h37 => ?_) | refine DL.split (d := 37) rfl rfl (fun h37 => ?_) (fun h37 => ?_)
            · obtain ⟨j, hj⟩ : ∃ j, k = j + 1 := ⟨k - 1, by omega⟩
              obtain ⟨y, hy⟩ : ∃ y, ls[j]? = some y := ⟨ls[j]'(by omega), List.getElem?_eq_getElem (by omega)⟩
              obtain ⟨b', o', c', he, hb', hkl', hcell'⟩ := hv.elem labC_len hy
              cases he
              iterate 2 refine DL.qf rfl (.yes rfl rfl rfl) rfl rfl (Yld.pure rfl) ?_
              refine DL.qf rfl (.yes rfl rfl rfl) rfl rfl (Yld.indexAddrN u33 i79 rfl rfl (by omega)) ?_
              refine DL.qf rfl (.yes rfl rfl rfl) rfl rfl (Yld.fieldAddr fo79_0 rfl) ?_
              refine DL.q rfl (.yes rfl rfl rfl) rfl rfl rfl (Yld.load p9 rfl (atM (hg.cell (hcell 0 _ rfl) (fun h => h)) (fun h => h))) (Mod.drew _ _) ?_
              iterate 3 refine DL.qf rfl (.yes rfl rfl rfl) rfl rfl (Yld.pure rfl) ?_
              refine DL.re (d := 45) rfl rfl (sub_i64 (z := (j : Int)) (by omega) (by omega) (by omega)) ?_
              refine DL.qf rfl (.yes rfl rfl rfl) rfl rfl (Yld.indexAddrN u33 i79 rfl rfl (by omega)) ?_
              refine DL.qf rfl (.yes rfl rfl rfl) rfl rfl (Yld.fieldAddr fo79_0 rfl) ?_
              refine DL.q rfl (.yes rfl rfl rfl) rfl rfl rfl (Yld.load p9 rfl (atM (hg.cell (hcell' 0 _ rfl) (fun h => h)) (fun h => h))) (Mod.drew _ _) ?_
              iterate 2 refine DL.qf rfl (.yes rfl rfl rfl) rfl rfl (Yld.pure rfl) ?_
              refine DL.p rfl rfl rfl ?_
              refine DL.done ?_
              first | refine RK.condD rfl (fun h51 => ?_) (fun h51 => ?_) | refine RK.condN rfl (fun h51 => ?_) (fun h51 => ?_) | refine RK.cond rfl (fun h51 => ?_) (fun h51 => ?_)
              · refine RK.seq ?_
                refine RK.region ?_
                refine RL.p rfl rfl ?_
                refine RL.done ?_
                refine RK.ret_of Tryz.func149 (res1 rfl rfl) ?_ _
                exact ⟨_, rfl, congrArg _ (by first
                    | exact (is_no1 (by omega)).symm
                    | exact (is_no2 (i := k) (by omega) (okAt_no1 hx (by simpa using h25))).symm
                    | exact (is_no2 (i := k) (by omega) (okAt_no2 hx (by simpa using h34))).symm
                    | exact (is_no2 (i := k) (by omega) (okAt_no3 hx hj hy h51)).symm
                    | exact (is_yes (by omega) (by omega) fun i hi => hall i (by omega)).symm), by first
                    | exact Mod.refl _ _
                    | exact hg.trans (Mod.drew _ _)
                    | exact hg⟩
              · refine RK.skip ?_
                refine RK.inBlock ?_
                refine RK.region ?_
                iterate 2 refine RL.p rfl rfl ?_
                refine RL.re (d := 17) rfl rfl (succ_i64 (by omega)) ?_
                refine RL.p rfl rfl ?_
                refine RL.done ?_
                exact RK.back (ih (k + 1) _ ⟨hg.trans (Mod.drew _ _), by omega, ok_snoc hall (by first | exact okAt_yes1 hx (by simpa using h25) (by simpa using h34) hj hy h51 | exact okAt_yes0 hx (by simpa using h25) (by simpa using h34) (by omega))⟩ (by omega)) ⟨rfl, rfl, trivial⟩
            · iterate 12 refine DL.no rfl (.no rfl rfl rfl rfl) rfl rfl ?_
              refine DL.qf rfl (.yes rfl rfl rfl) rfl rfl (Yld.pure rfl) ?_
              refine DL.p rfl rfl rfl ?_
              refine DL.done ?_
              refine RK.condF rfl ?_
              refine RK.skip ?_
              refine RK.inBlock ?_
              refine RK.region ?_
              iterate 2 refine RL.p rfl rfl ?_
              refine RL.re (d := 17) rfl rfl (succ_i64 (by omega)) ?_
              refine RL.p rfl rfl ?_
              refine RL.done ?_
              exact RK.back (ih (k + 1) _ ⟨hg.trans (Mod.drew _ _), by omega, ok_snoc hall (by first | exact okAt_yes1 hx (by simpa using h25) (by simpa using h34) hj hy h51 | exact okAt_yes0 hx (by simpa using h25) (by simpa using h34) (by omega))⟩ (by omega)) ⟨rfl, rfl, trivial⟩
      · refine RK.exit rfl ?_
        refine RK.seq ?_
        refine RK.region ?_
        refine RL.p rfl rfl ?_
        refine RL.done ?_
        refine RK.ret_of Tryz.func149 (res1 rfl rfl) ?_ _
        exact ⟨_, rfl, congrArg _ (by first
            | exact (is_no1 (by omega)).symm
            | exact (is_no2 (i := k) (by omega) (okAt_no1 hx (by simpa using h25))).symm
            | exact (is_no2 (i := k) (by omega) (okAt_no2 hx (by simpa using h34))).symm
            | exact (is_no2 (i := k) (by omega) (okAt_no3 hx hj hy h51)).symm
            | exact (is_yes (by omega) (by omega) fun i hi => hall i (by omega)).symm), by first
            | exact Mod.refl _ _
            | exact hg.trans (Mod.drew _ _)
            | exact hg⟩
end Go.Proofs.YthbjfhhiajihfaaGreat
set_option linter.unusedVariables false
set_option linter.unusedSimpArgs false
set_option maxHeartbeats 400000
set_option maxRecDepth 100000
namespace Go.Proofs.YthbjfhhiajihfaaGreat
open Go Go.X
def PredI (w : World) (fv : Value) (p : Int → Bool) : Prop := ∃ g cap, fv = .func (.func g) #[] cap ∧ Go.Proofs.Enters Tryz.prog g ∧ ∀ (n : Int) w', Grow w w' → Fx Tryz.prog g ([.int .i64 n] ++ cap.toList) w' (fun u w'' => u = .bool (p n) ∧ Grow w' w'')
theorem PredI.grow {w w' : World} {fv : Value} {p : Int → Bool} (h : PredI w fv p) (hg : Grow w w') : PredI w' fv p := by
 obtain ⟨g, cap, h1, h2, h3⟩ := h
 exact ⟨g, cap, h1, h2, fun n w'' h => h3 n w'' (hg.trans h)⟩
def ixF (p : Int → Bool) (xs : List Int) : Int := optI (xs.findIdx? p)
theorem indexFuncI_ok (M : Nat → Prop) (xs : List Int) (v fv : Value) (p : Int → Bool) (w : World) (hv : Sl M w v 1 xs.length (ints xs)) (hp : PredI w fv p) :
  Fx Tryz.prog 236 [v, fv] w (fun u w' => u = .int .i64 (ixF p xs) ∧ Grow w w') := by
 obtain ⟨ad, c, rfl⟩ := hv.shape
 obtain ⟨g, cap, rfl, hE, hp⟩ := hp
 have hbig := hv.big
 refine enter Tryz.func236 rfl rfl rfl _ (Pick.sub (l := [0, 1]) (.cons rfl (.cons rfl .nil))) ?_
 refine GG ?_
 refine QQ (Yld.lenSl u37 rfl) ?_
 refine GG ?_
 refine RK.loop (fun k : Nat => [(0, .slice ad xs.length c), (1, .func (.func g) #[] cap), (7, .int .i64 xs.length), (8, .int .i64 k)]) (fun k w' => Grow w w' ∧ k ≤ xs.length ∧ ∀ i a, i < k → xs[i]? = some a → p a = false) (fun k => xs.length - k) 0 ⟨rfl, rfl, rfl, rfl, trivial⟩ ⟨Mod.refl _ _, by omega, fun i a h => by omega⟩ (fun k w' hI ih => ?_)
 obtain ⟨hg, hk, hno⟩ := hI
 refine GG ?_
 refine CD (fun h9 => ?_) (fun h9 => ?_)
 ·obtain ⟨x, hx⟩ : ∃ x, xs[k]? = some x := ⟨xs[k]'(by omega), List.getElem?_eq_getElem (by omega)⟩
  obtain ⟨b1, o1, c1', he1, _, _, hc1⟩ := hv.elem1 (k := k) (u := .int .i64 x) (by simp [hx])
  cases he1
  refine GG ?_
  refine QQ (Yld.indexAddrN u37 i3 rfl rfl (by omega)) ?_
  refine QQ (Yld.load p3 rfl (at1 (hg.cell (hc1 k (.int .i64 x) (by simp [hx])) (fun h => h)))) ?_
  refine OP (Does.callv rfl rfl (by assumption) (hp x _ hg)) ?_
  rintro _ w2 ⟨rfl, hg2⟩
  refine RL.done ?_
  refine CD (fun h16 => ?_) (fun h16 => ?_)
  ·refine GG ?_
   refine RK.ret_of Tryz.func236 (res1 rfl rfl) ?_ _
   exact ⟨_, rfl, congrArg _ (by
     have : xs.findIdx? p = some k := by
      rw [List.findIdx?_eq_some_iff_getElem]
      refine ⟨by omega, ?_, ?_⟩
      ·rw [(List.getElem?_eq_some_iff.1 hx).2]; exact h16
      ·intro j hj
       simpa using hno j (xs[j]'(by omega)) hj (List.getElem?_eq_getElem (by omega))
     unfold ixF; rw [this]; rfl), hg.trans hg2⟩
  ·refine RK.skip ?_
   refine RK.inBlock ?_
   refine RK.region ?_
   refine RL.p rfl rfl ?_
   refine RL.re (d := 18) rfl rfl (succ_i64 (by omega)) ?_
   refine GG ?_
   exact RK.back (ih (k + 1) _ ⟨hg.trans hg2, by omega, fun i a' hi ha' => by by_cases e : i = k; (subst e; rw [hx] at ha'; cases ha'; exact h16); exact hno i a' (by omega) ha'⟩ (by omega)) ⟨rfl, rfl, rfl, rfl, trivial⟩
 ·refine RK.exit rfl ?_
  refine GG ?_
  refine RK.ret_of Tryz.func236 (res1 rfl rfl) ?_ _
  exact ⟨_, rfl, congrArg _ (by
    have : xs.findIdx? p = none := by
     rw [List.findIdx?_eq_none_iff]
     intro x hx
     obtain ⟨i, hi⟩ := List.getElem?_of_mem hx
     have hil := (List.getElem?_eq_some_iff.1 hi).1
     exact hno i x (by omega) hi
    unfold ixF; rw [this]; rfl), hg⟩
def keepI (p : Int → Bool) (xs : List Int) : List Int := xs.filter fun x => !p x
theorem keep_snoc (p : Int → Bool) {xs : List Int} {k : Nat} {x : Int} (hx : xs[k]? = some x) : keepI p (xs.take (k + 1)) = keepI p (xs.take k) ++ (if p x then [] else [x]) := by
 have hk := (List.getElem?_eq_some_iff.1 hx).1
 unfold keepI
 rw [List.take_succ_eq_append_getElem hk, (List.getElem?_eq_some_iff.1 hx).2, List.filter_append]
 cases h : p x <;> simp [h]
theorem set_snoc {cs : List Value} {i : Nat} {ys : List Int} {x : Int} (h : cs.take i = ints ys) (hi : i < cs.length) : (cs.set i (.int .i64 x)).take (i + 1) = ints (ys ++ [x]) := by
 have e : (cs.set i (.int .i64 x)).length = cs.length := List.length_set
 rw [List.take_succ_eq_append_getElem (by omega), List.getElem_set_self]
 have : (cs.set i (Value.int .i64 x)).take i = cs.take i := by
  apply List.ext_getElem?
  intro j
  simp only [List.getElem?_take]
  split
  ·rw [List.getElem?_set_ne (by omega)]
  ·rfl
 rw [this, h]
 simp [ints]
theorem deleteFuncI_ok (w0 : World) (xs : List Int) (v fv : Value) (p : Int → Bool) (w : World) (hv : Row w 3 1 v xs.length (ints xs)) (hf : Fresh w0.heap.size v) (hg0 : Grow w0 w) (hp : PredI w0 fv p) :
  Fx Tryz.prog 192 [v, fv] w (fun u w' => Row w' 3 1 u (keepI p xs).length (ints (keepI p xs)) ∧ u.ownBlock = v.ownBlock ∧ Mod (fun b => v.ownBlock = some b) w w') := by
 have hcall := indexFuncI_ok No xs v fv p w (Sl.own hv (fun _ _ h => h)) (hp.grow hg0)
 obtain ⟨g, cap, rfl, hE, hp⟩ := hp
 have hbig : xs.length ≤ 9223372036854775807 := (Sl.own (M := No) hv (fun _ _ h => h)).big
 by_cases hn : xs.findIdx? p = none
 ·have hix : ixF p xs = -1 := by unfold ixF; rw [hn]; rfl
  rw [hix] at hcall
  have hkeep : keepI p xs = xs := List.filter_eq_self.2 fun x hx => by simp [List.findIdx?_eq_none_iff.1 hn x hx]
  refine enter Tryz.func192 rfl rfl rfl _ (Pick.sub (l := [0, 1]) (.cons rfl (.cons rfl .nil))) ?_
  refine GG ?_
  refine OP (Does.call rfl e236 (hcall)) ?_
  rintro _ w2 ⟨rfl, hg2⟩
  refine GG ?_
  refine RK.condT (hcT rfl (decide_eq_true rfl)) ?_
  refine GG ?_
  refine RK.ret_of Tryz.func192 (res1 rfl rfl) ?_ _
  exact ⟨_, rfl, by rw [hkeep]; exact hv.mod hg2 (fun _ _ h => h), rfl, Mod.any' hg2⟩
 ·obtain ⟨i0, hi0⟩ : ∃ i, xs.findIdx? p = some i := by cases h : xs.findIdx? p with | none => exact absurd h hn | some i => exact ⟨i, rfl⟩
  have hix : ixF p xs = (i0 : Int) := by unfold ixF; rw [hi0]; rfl
  rw [hix] at hcall
  obtain ⟨hi0l, hpi0, hlt0⟩ := List.findIdx?_eq_some_iff_getElem.1 hi0
  have hx0 : xs[i0]? = some xs[i0] := List.getElem?_eq_getElem hi0l
  have hk0 : keepI p (xs.take i0) = xs.take i0 := List.filter_eq_self.2 fun x hx => by
   obtain ⟨j, hj, rfl⟩ := List.getElem_of_mem hx
   simp at hj
   rw [List.getElem_take]
   simpa using hlt0 j (by omega)
  have hk1 : keepI p (xs.take (i0 + 1)) = xs.take i0 := by rw [keep_snoc p hx0, hk0]; simp [hpi0]
  obtain ⟨gb, cp, cs, rfl, hb, hl, hkc, hcm, htk⟩ := hv.whole (by omega)
  rw [Nat.mul_one] at hl htk
  have hgb : w0.heap.size ≤ gb := hf gb rfl
  refine enter Tryz.func192 rfl rfl rfl _ (Pick.sub (l := [0, 1]) (.cons rfl (.cons rfl .nil))) ?_
  refine GG ?_
  refine OP (Does.call rfl e236 (hcall)) ?_
  rintro _ w2 ⟨rfl, hg2⟩
  refine GG ?_
  refine RK.condF (hcF rfl (decide_eq_false (by omega))) ?_
  refine RK.skip ?_
  iterate 2 refine RK.seq ?_
  refine RK.region ?_
  iterate 2 refine RL.p rfl rfl ?_
  refine RL.re (d := 15) rfl rfl (add_i64 (z := ((i0 + 1 : Nat) : Int)) (by simp) (by omega) (by omega)) ?_
  refine GG ?_
  refine RK.loop (fun s : Nat × Nat => [(0, .slice (some ⟨gb, 0, none⟩) xs.length cp), (1, .func (.func g) #[] cap), (5, .int .i64 (s.1 : Int)), (6, .int .i64 (s.2 : Int))]) (fun s w' => Mod (· = gb) w w' ∧ s.1 < s.2 ∧ s.2 ≤ xs.length ∧ s.1 = (keepI p (xs.take s.2)).length ∧ ∃ cs', Blk w' gb 3 cs' ∧ cs'.length = cp ∧ cs'.take s.1 = ints (keepI p (xs.take s.2)) ∧ ∀ t x, s.2 ≤ t → xs[t]? = some x → cs'[t]? = some (.int .i64 x)) (fun s => xs.length - s.2) (i0, i0 + 1) ⟨rfl, rfl, rfl, rfl, trivial⟩ ⟨Mod.any' hg2, by omega, by simp only; omega, by rw [hk1]; simp; omega, cs, hb.mod hg2 (fun h => h), hl, by rw [hk1]; simp only; have := congrArg (List.take i0) htk; rw [List.take_take, Nat.min_eq_left (by omega)] at this; rw [this]; simp [ints, List.map_take], fun t x ht hx => by have hxl := (List.getElem?_eq_some_iff.1 hx).1; have := congrArg (fun l => l[t]?) htk; simp only [List.getElem?_take, if_pos hxl] at this; rw [this]; simp [hx]⟩ (fun s w' hI ih => ?_)
  obtain ⟨i, j⟩ := s
  obtain ⟨hm, hij, hj, hic, cs1, hb1, hl1, ht1, hr1⟩ := hI
  simp only at hm hij hj hic ht1 hr1
  refine GG ?_
  refine QQ (Yld.lenSl u37 rfl) ?_
  refine GG ?_
  refine CD (fun h19 => ?_) (fun h19 => ?_)
  ·obtain ⟨x, hx⟩ : ∃ x, xs[j]? = some x := ⟨xs[j]'(by omega), List.getElem?_eq_getElem (by omega)⟩
   have hks := keep_snoc p hx
   refine GG ?_
   refine QQ (Yld.indexAddrN u37 i3 rfl rfl (by omega)) ?_
   refine QQ (Yld.load p3 rfl (at1 (hb1.at1 (hr1 j x (Nat.le_refl _) hx)))) ?_
   refine GG ?_
   refine OP (Does.callv rfl rfl (by assumption) (hp x _ (hg0.then hm (fun b hb e => by have e' : b = gb := e; omega)))) ?_
   rintro _ w3 ⟨rfl, hg3⟩
   have hm3 : Mod (· = gb) w w3 := hm.trans (Mod.any' hg3)
   have hb3 := hb1.mod hg3 (fun h => h)
   refine GG ?_
   refine CD (fun h29 => ?_) (fun h29 => ?_)
   ·have hpx : p x = false := by simpa using h29
    refine GG ?_
    refine QQ (Yld.indexAddrN u37 i3 rfl rfl (by omega)) ?_
    refine OQ (Does.store i3 rfl rfl rfl hb3 (SetAt.of (by omega))) ?_
    rintro _ w4 ⟨hb4, hm4, _⟩
    have hil : i < cs1.length := by omega
    have e0 : 0 + i * 1 = i := by omega
    rw [e0] at hb4
    refine RL.done ?_
    refine RK.region ?_
    iterate 2 refine RL.p rfl rfl ?_
    refine RL.re (d := 35) rfl rfl (succ_i64 (by omega)) ?_
    refine RL.p rfl rfl ?_
    refine RL.done ?_
    refine RK.inBlock ?_
    refine RK.region ?_
    iterate 2 refine RL.p rfl rfl ?_
    refine RL.re (d := 21) rfl rfl (succ_i64 (by omega)) ?_
    refine GG ?_
    exact RK.back (ih (i + 1, j + 1) _ ⟨hm3.trans hm4, by omega, by simp only; omega, by rw [hks, hpx]; simpa using hic, _, hb4, by simpa using hl1, by rw [hks, hpx]; simp only [Bool.false_eq_true, if_false]; exact set_snoc ht1 hil, fun t y ht hy => by rw [List.getElem?_set_ne (by simp only at ht; omega)]; exact hr1 t y (by simp only at ht; omega) hy⟩ (by simp only; omega)) ⟨rfl, rfl, rfl, rfl, trivial⟩
   ·have hpx : p x = true := by simpa using h29
    refine RK.skip ?_
    refine RK.inBlock ?_
    refine RK.region ?_
    iterate 2 refine RL.p rfl rfl ?_
    refine RL.re (d := 21) rfl rfl (succ_i64 (by omega)) ?_
    refine GG ?_
    exact RK.back (ih (i, j + 1) _ ⟨hm3, by omega, by simp only; omega, by rw [hks, hpx]; simpa using hic, cs1, hb3, hl1, by rw [hks, hpx]; simpa using ht1, fun t y ht hy => hr1 t y (by simp only at ht; omega) hy⟩ (by simp only; omega)) ⟨rfl, rfl, rfl, rfl, trivial⟩
  ·have ek : xs.take j = xs := List.take_of_length_le (by omega)
   rw [ek] at hic ht1
   refine RK.exit rfl ?_
   refine GG ?_
   refine QQ (Yld.sliceFrom u37 i3 rfl rfl (by omega)) ?_
   refine OQ (Does.clear u37 i3 (cap := cp) (lo := i) (m := xs.length - i) rfl (by simp [Value.cells, Value.oneCell']) rfl hb1 (by rw [Nat.mul_one]; exact hl1) (by omega)) ?_
   rintro _ w5 ⟨⟨cs5, hb5, hl5, ht5⟩, hm5, hs5⟩
   refine GG ?_
   refine QQ (Yld.sliceHi u37 i3 rfl rfl (by omega)) ?_
   refine GG ?_
   refine RK.ret_of Tryz.func192 (res1 rfl rfl) ?_ _
   exact ⟨_, rfl, by have h9 := Row.shut (sz := 1) (k := i) hb5 (by rw [hl5, hl1, Nat.mul_one]) (by omega) hcm; rw [ht5] at h9; rw [Nat.mul_one, ht1] at h9; rw [← hic]; exact h9, rfl, (hm.trans hm5).mono fun b _ e => congrArg some e.symm⟩
theorem kept1_ok (w : World) (b : Nat) (fv : Value) (p : Int → Bool) (hb : Blk w b 172 [fv]) (hp : PredI w fv p) (n : Int) : Fx Tryz.prog 251 [.int .i64 n, pp b] w (fun u w' => u = .bool (!p n) ∧ Grow w w') := by
 obtain ⟨g, cap, rfl, hE, hp⟩ := hp
 refine enter Tryz.func251 rfl rfl rfl _ (Pick.sub (l := [0, 1]) (.cons rfl (.cons rfl .nil))) ?_
 refine GG ?_
 refine QQ (Yld.load p172 rfl (at1 (hb.cell rfl))) ?_
 refine RL.p rfl rfl ?_
 refine OP (Does.callv rfl rfl (by assumption) (hp n _ (Mod.refl _ _))) ?_
 rintro _ w2 ⟨rfl, hg2⟩
 refine GG ?_
 refine RK.ret_of Tryz.func251 (res1 rfl rfl) ?_ _
 exact ⟨_, rfl, rfl, hg2⟩
theorem kept_ok (M : Nat → Prop) (xs : List Int) (v fv : Value) (p : Int → Bool) (w : World) (hv : Sl M w v 1 xs.length (ints xs)) (hb : xs.length * 8 ≤ 140737488355328) (hp : PredI w fv p) :
  Fx Tryz.prog 201 [v, fv] w (fun u w' => Row w' 3 1 u ((mkRow xs).filter p).length (ints ((mkRow xs).filter p)) ∧ Fresh w.heap.size u ∧ Grow w w') := by
 obtain ⟨g, cap, rfl, hE, hp0⟩ := id hp
 have he : keepI (fun n => !p n) (mkRow xs) = (mkRow xs).filter p := by unfold keepI; simp
 refine enter Tryz.func201 rfl rfl rfl _ (Pick.sub (l := [0, 1]) (.cons rfl (.cons rfl .nil))) ?_
 refine GG ?_
 refine OP (Does.box rfl) ?_
 rintro _ w1 ⟨b1, rfl, hn1⟩
 refine GG ?_
 refine OP (Does.call rfl e78 (make_ok No xs v _ (hv.mod (Mod.any' hn1.grow)).noM hb)) ?_
 rintro u2 w2 ⟨hr2, hf2, hg2⟩
 refine RL.p rfl rfl ?_
 refine OP (Does.call rfl e192 (deleteFuncI_ok w1 (mkRow xs) u2 _ (fun n => !p n) _ hr2 hf2 hg2 ⟨_, _, rfl, e251, fun n w' hg => kept1_ok w' b1 _ p (hn1.blk.mod hg (fun h => h)) (hp.grow (hn1.grow.trans hg)) n⟩)) ?_
 rintro u3 w3 ⟨hr3, hu3, hm3⟩
 refine GG ?_
 refine RK.ret_of Tryz.func201 (res1 rfl rfl) ?_ _
 exact ⟨_, rfl, he ▸ hr3, fun b hb => by rw [hu3] at hb; have := hf2 b hb; have := hn1.grow.size; omega, (hn1.grow.trans hg2).then hm3 (fun x hx e => by have := hf2 x e; have := hn1.grow.size; omega)⟩
theorem contains_ok (M : Nat → Prop) (xs : List Int) (v : Value) (x : Int) (w : World) (hv : Sl M w v 1 xs.length (ints xs)) : Fx Tryz.prog 252 [v, .int .i64 x] w (fun u w' => u = .bool (xs.contains x) ∧ w = w') := by
 obtain ⟨ad, c, b, o, rfl, hf⟩ := hv.open
 by_cases h0 : xs.length = 0
 ·have : xs = [] := List.eq_nil_of_length_eq_zero h0
  subst this
  refine Calls.mono (Tryz.slices_Contains_int_empty ad c x w) ?_
  rintro e w' ⟨rfl, rfl⟩
  exact ⟨_, rfl, rfl, rfl⟩
 ·obtain ⟨rfl, _, hc⟩ := hf (by omega)
  refine Calls.mono (Tryz.slices_Contains_int b o xs.length c xs x w (Nat.le_refl _) hv.big (fun j hj => hc j _ (by simp [hj]))) ?_
  rintro e w' ⟨rfl, rfl⟩
  exact ⟨_, rfl, by rw [List.take_length], rfl⟩
theorem has_ok (M : Nat → Prop) (xs : List Int) (v : Value) (x : Int) (w : World) (hv : Sl M w v 1 xs.length (ints xs)) : Fx Tryz.prog 203 [v, .int .i64 x] w (fun u w' => u = .bool (xs.contains x) ∧ w = w') := by
 refine enter Tryz.func203 rfl rfl rfl _ (Pick.sub (l := [0, 1]) (.cons rfl (.cons rfl .nil))) ?_
 refine GG ?_
 refine OP (Does.call rfl e252 (contains_ok M xs v x _ hv)) ?_
 rintro _ _ ⟨rfl, rfl⟩
 refine GG ?_
 refine RK.ret_of Tryz.func203 (res1 rfl rfl) ?_ _
 exact ⟨_, rfl, rfl, rfl⟩
theorem not1_ok (M : Nat → Prop) (w : World) (b : Nat) (ys : List Int) (vb : Value) (hb : Blk w b 37 [vb]) (hv : Sl M w vb 1 ys.length (ints ys)) (n : Int) : Fx Tryz.prog 202 [.int .i64 n, pp b] w (fun u w' => u = .bool (!ys.contains n) ∧ Grow w w') := by
 refine enter Tryz.func202 rfl rfl rfl _ (Pick.sub (l := [0, 1]) (.cons rfl (.cons rfl .nil))) ?_
 refine GG ?_
 refine QQ (Yld.load p37 rfl (at1 (hb.cell rfl))) ?_
 refine RL.p rfl rfl ?_
 refine OP (Does.call rfl e203 (has_ok M ys vb n _ hv)) ?_
 rintro _ _ ⟨rfl, rfl⟩
 refine GG ?_
 refine RK.ret_of Tryz.func202 (res1 rfl rfl) ?_ _
 exact ⟨_, rfl, rfl, Mod.refl _ _⟩
theorem not_ok (M : Nat → Prop) (xs ys : List Int) (va vb : Value) (w : World) (ha : Sl M w va 1 xs.length (ints xs)) (hvb : Sl M w vb 1 ys.length (ints ys)) (hb : xs.length * 8 ≤ 140737488355328) :
  Fx Tryz.prog 148 [va, vb] w (fun u w' => Row w' 3 1 u ((mkRow xs).filter fun n => !ys.contains n).length (ints ((mkRow xs).filter fun n => !ys.contains n)) ∧ Fresh w.heap.size u ∧ Grow w w') := by
 obtain ⟨ad', c', rfl⟩ := hvb.shape
 refine enter Tryz.func148 rfl rfl rfl _ (Pick.sub (l := [0, 1]) (.cons rfl (.cons rfl .nil))) ?_
 refine GG ?_
 refine OP (Does.box rfl) ?_
 rintro _ w1 ⟨b1, rfl, hn1⟩
 refine GG ?_
 refine OP (Does.call rfl e201 (kept_ok No xs va _ (fun n => !ys.contains n) _ (ha.mod (Mod.any' hn1.grow)).noM hb ⟨_, _, rfl, e202, fun n w' hg => not1_ok No w' b1 ys _ (hn1.blk.mod hg (fun h => h)) (hvb.noM.mod (hn1.grow.trans hg)) n⟩)) ?_
 rintro u2 w2 ⟨hr2, hf2, hg2⟩
 refine GG ?_
 refine RK.ret_of Tryz.func148 (res1 rfl rfl) ?_ _
 exact ⟨_, rfl, hr2, fun b hb => by have := hf2 b hb; have := hn1.grow.size; omega, hn1.grow.trans hg2⟩
theorem cut_ok (M : Nat → Prop) (xs : List Int) (x : Int) (v : Value) (w : World) (hv : Sl M w v 1 xs.length (ints xs)) (hb : xs.length * 8 ≤ 140737488355328) :
  Fx Tryz.prog 82 [v, .int .i64 x] w (fun u w' => Row w' 3 1 u (cutRow xs x).length (ints (cutRow xs x)) ∧ Fresh w.heap.size u ∧ Grow w w') := by
 have he : (mkRow xs).filter (fun n => ![x].contains n) = cutRow xs x := by
  unfold cutRow
  apply List.filter_congr
  intro y _
  by_cases h : y = x <;> simp [h]
 refine enter Tryz.func82 rfl rfl rfl _ (Pick.sub (l := [0, 1]) (.cons rfl (.cons rfl .nil))) ?_
 refine GG ?_
 refine OP (Does.slice1 u37 i3 rfl rfl rfl rfl rfl) ?_
 rintro _ w1 ⟨b1, rfl, hn1⟩
 refine OP (Does.call rfl e148 (not_ok No xs [x] v _ _ (hv.mod (Mod.any' hn1.grow)).noM (Sl.new hn1 1 1 rfl (by omega) (fun h => h)) hb)) ?_
 rintro u2 w2 ⟨hr2, hf2, hg2⟩
 refine GG ?_
 refine RK.ret_of Tryz.func82 (res1 rfl rfl) ?_ _
 exact ⟨_, rfl, by rw [he] at hr2; exact hr2, fun b hb => by have := hf2 b hb; have := hn1.grow.size; omega, hn1.grow.trans hg2⟩
theorem and1_ok (M : Nat → Prop) (w : World) (b : Nat) (ys : List Int) (vb : Value) (hb : Blk w b 37 [vb]) (hv : Sl M w vb 1 ys.length (ints ys)) (n : Int) : Fx Tryz.prog 235 [.int .i64 n, pp b] w (fun u w' => u = .bool (ys.contains n) ∧ Grow w w') := by
 refine enter Tryz.func235 rfl rfl rfl _ (Pick.sub (l := [0, 1]) (.cons rfl (.cons rfl .nil))) ?_
 refine GG ?_
 refine QQ (Yld.load p37 rfl (at1 (hb.cell rfl))) ?_
 refine RL.p rfl rfl ?_
 refine OP (Does.call rfl e203 (has_ok M ys vb n _ hv)) ?_
 rintro _ _ ⟨rfl, rfl⟩
 refine GG ?_
 refine RK.ret_of Tryz.func235 (res1 rfl rfl) ?_ _
 exact ⟨_, rfl, rfl, Mod.refl _ _⟩
theorem and_ok (M : Nat → Prop) (xs ys : List Int) (va vb : Value) (w : World) (ha : Sl M w va 1 xs.length (ints xs)) (hvb : Sl M w vb 1 ys.length (ints ys)) (hb : xs.length * 8 ≤ 140737488355328) :
  Fx Tryz.prog 190 [va, vb] w (fun u w' => Row w' 3 1 u ((mkRow xs).filter fun n => ys.contains n).length (ints ((mkRow xs).filter fun n => ys.contains n)) ∧ Fresh w.heap.size u ∧ Grow w w') := by
 obtain ⟨ad', c', rfl⟩ := hvb.shape
 refine enter Tryz.func190 rfl rfl rfl _ (Pick.sub (l := [0, 1]) (.cons rfl (.cons rfl .nil))) ?_
 refine GG ?_
 refine OP (Does.box rfl) ?_
 rintro _ w1 ⟨b1, rfl, hn1⟩
 refine GG ?_
 refine OP (Does.call rfl e201 (kept_ok No xs va _ (fun n => ys.contains n) _ (ha.mod (Mod.any' hn1.grow)).noM hb ⟨_, _, rfl, e235, fun n w' hg => and1_ok No w' b1 ys _ (hn1.blk.mod hg (fun h => h)) (hvb.noM.mod (hn1.grow.trans hg)) n⟩)) ?_
 rintro u2 w2 ⟨hr2, hf2, hg2⟩
 refine GG ?_
 refine RK.ret_of Tryz.func190 (res1 rfl rfl) ?_ _
 exact ⟨_, rfl, hr2, fun b hb => by have := hf2 b hb; have := hn1.grow.size; omega, hn1.grow.trans hg2⟩
end Go.Proofs.YthbjfhhiajihfaaGreat
set_option linter.unusedVariables false
set_option linter.unusedSimpArgs false
set_option maxHeartbeats 800000
set_option maxRecDepth 100000
namespace Go.Proofs.YthbjfhhiajihfaaGreat
open Go Go.X
theorem drop_ok (M : Nat → Prop) (w : World) (ix mh mr : Nat) (has : List (Int × List Lab)) (rows : List (LabK × List Int)) (h : IdxAt M w ix mh mr has rows) (hMh : M mh) (hMr : M mr) (hM : ∀ b, M b → b < w.heap.size) (id : Int)
  (hB : ∀ t ∈ rows, t.2.length ≤ 1000000000000) :
  Fx Tryz.prog 183 [pp ix, .int .i64 id] w (fun u w' => u = .bool (lookM has id).isSome ∧ IdxAt M w' ix mh mr (cutM has id) (dropRows rows id ((lookM has id).getD [])) ∧ Mod (fun b => b = mh ∨ b = mr) w w') := by
 obtain ⟨l, hl1, hl2, hl3⟩ := h.hl
 have n1 : ix ≠ mh := h.blk.ty.nem hl2.mp
 have n2 : ix ≠ mr := by obtain ⟨r, _, hr2, _⟩ := h.rl; exact h.blk.ty.nem hr2.mp
 obtain ⟨ls, hls⟩ : ∃ ls, (lookM has id).getD [] = ls := ⟨_, rfl⟩
 rw [hls]
 obtain ⟨vl, hvl, hv⟩ : ∃ vl, (lookM (l.map fun t => (t.1, t.2.2)) id).getD (.slice none 0 0) = vl ∧ SlL M w vl ls := by
  have e1 := lookM_map (fun a : List Lab × Value => a.1) id l
  have e2 := lookM_map (fun a : List Lab × Value => a.2) id l
  rw [hl1] at e1
  rw [e1] at hls
  rw [e2]
  cases hh : lookM l id with
  | none => rw [hh] at hls; simp at hls; subst hls; exact ⟨_, rfl, Sl.nil _ _ _ _ _⟩
  | some a => rw [hh] at hls; simp at hls; subst hls; exact ⟨_, rfl, hl3 _ (lookM_mem hh)⟩
 have hsome : (lookM (l.map fun t => (t.1, t.2.2)) id).isSome = (lookM has id).isSome := by
  have e1 := lookM_map (fun a : List Lab × Value => a.1) id l
  have e2 := lookM_map (fun a : List Lab × Value => a.2) id l
  rw [hl1] at e1
  rw [e1, e2]; simp
 obtain ⟨ad, c, rfl⟩ := hv.shape
 have hbig := hv.big
 refine enter Tryz.func183 rfl rfl rfl _ (Pick.sub (l := [0, 1]) (.cons rfl (.cons rfl .nil))) ?_
 refine GG ?_
 refine QQ (Yld.fieldAddr fo240_0 rfl) ?_
 refine QQ (Yld.load p237 rfl (at1 (h.blk.cell rfl))) ?_
 refine RL.p rfl rfl ?_
 refine QQ (Yld.lookup Tryz.underlying237 key3 i33 rfl rfl (fun w' e => e ▸ hl2)) ?_
 refine RL.re (d := 15) rfl rfl (show _ = Value.tuple #[.slice ad ls.length c, .bool (lookM has id).isSome] by rw [hvl, hsome]; rfl) ?_
 refine GG ?_
 refine QQ (Yld.lenSl u33 rfl) ?_
 refine GG ?_
 refine RK.loop (fun k : Nat => [(0, pp ix), (1, .int .i64 id), (18, .slice ad ls.length c), (19, .int .i64 ls.length), (20, .int .i64 k), (6, .bool (lookM has id).isSome)]) (fun k w' => IdxAt M w' ix mh mr has (dropRows rows id (ls.take k)) ∧ Mod (fun b => b = mh ∨ b = mr) w w' ∧ k ≤ ls.length) (fun k => ls.length - k) 0 ⟨rfl, rfl, rfl, rfl, rfl, rfl, trivial⟩ ⟨by simpa [dropRows] using h, Mod.refl _ _, by omega⟩ (fun k w' hI ih => ?_)
 obtain ⟨hi, hmod, hk⟩ := hI
 refine GG ?_
 refine CD (fun h21 => ?_) (fun h21 => ?_)
 ·obtain ⟨x, hx⟩ : ∃ x, ls[k]? = some x := ⟨ls[k]'(by omega), List.getElem?_eq_getElem (by omega)⟩
  obtain ⟨bx, ox, cx, he, hbM, hkl, hcell⟩ := hv.elem labC_len hx
  cases he
  obtain ⟨r, hr1, hr2, hr3⟩ := hi.rl
  have hmodM : Mod M w w' := hmod.mono fun b _ e => by rcases e with rfl | rfl <;> assumption
  have htk : ls.take (k + 1) = ls.take k ++ [x] := by rw [List.take_succ_eq_append_getElem (by omega)]; congr 2; exact (List.getElem?_eq_some_iff.1 hx).2
  have hbnd : ((lookM (dropRows rows id (ls.take k)) (labK x)).getD []).length ≤ 1000000000000 := look_bound (dropRows_bound hB id (ls.take k)) (labK x)
  obtain ⟨row0, hrow0⟩ : ∃ row0, (lookM (dropRows rows id (ls.take k)) (labK x)).getD [] = row0 := ⟨_, rfl⟩
  rw [hrow0] at hbnd
  obtain ⟨vv, hval, hsl⟩ : ∃ vv, (lookM (r.map fun t => (t.1, t.2.2)) (labK x)).getD (.slice none 0 0) = vv ∧ Sl M w' vv 1 row0.length (ints row0) := by
    rw [← hrow0]
    have e1 := lookM_map (fun a : List Int × Value => a.1) (labK x) r
    have e2 := lookM_map (fun a : List Int × Value => a.2) (labK x) r
    rw [hr1] at e1
    rw [e1, e2]
    cases hh : lookM r (labK x) with
    | none => exact ⟨_, rfl, Sl.nil _ _ _ _ _⟩
    | some a => exact ⟨_, rfl, hr3 _ (lookM_mem hh)⟩
  refine GG ?_
  refine QQ (Yld.indexAddrN u33 i79 rfl rfl (by omega)) ?_
  refine QQ (Yld.loadN (cs := [.string x.name, .string x.value]) a79 rfl (atN (fun j u hj => hmodM.cell (hcell j u hj) hbM))) ?_
  refine OP (Does.alloc i79) ?_
  rintro _ w5 ⟨b1, rfl, hn1⟩
  refine OQ (Does.storeN i79 rfl rfl rfl rfl hn1.blk (Nat.le_refl 2)) ?_
  rintro _ w6 ⟨hb6, hm6, _⟩
  have hB6 : Blk w6 b1 79 [.string x.name, .string x.value] := hb6
  have hg6 : Grow w' w6 := hn1.grow.then hm6 (fun y hy e => by have e' : y = b1 := e; have := hn1.at_; omega)
  refine GG ?_
  refine RK.drawM No [(0, false), (1, false), (2, false), (3, false), (4, false), (5, false), (6, false), (7, false), (8, false), (9, false), (10, false), (11, false), (12, true), (13, true)] [13] mixed (by kernel_rfl) ?_
  refine GG ?_
  refine DF (Yld.fieldAddr fo240_1 rfl) ?_
  refine DQ (Yld.load p238 rfl (atM ((hi.blk.mod hg6 (fun h => h)).cell rfl) (fun h => h))) (Mod.drew _ _) ?_
  refine DQ (Yld.loadN (cs := [.string x.name, .string x.value]) a79 rfl (atNM (fun j u hj => by rw [Nat.zero_add]; exact hB6.cell' hj) (fun h => h))) (Mod.drew _ _) ?_
  refine GG ?_
  refine DF (Yld.fieldAddr fo240_1 rfl) ?_
  refine DQ (Yld.load p238 rfl (atM ((hi.blk.mod hg6 (fun h => h)).cell rfl) (fun h => h))) (Mod.drew _ _) ?_
  refine DQ (Yld.loadN (cs := [.string x.name, .string x.value]) a79 rfl (atNM (fun j u hj => by rw [Nat.zero_add]; exact hB6.cell' hj) (fun h => h))) (Mod.drew _ _) ?_
  refine DQ (Yld.lookup Tryz.underlying238 key79 i37 (k := labK x) rfl rfl (fun w' hm => (hr2.mod hg6 (fun h => h)).mod hm (fun h => h))) (Mod.drew _ _) ?_
  refine DL.re (d := 34) rfl rfl (hval) ?_
  refine DL.p rfl rfl rfl ?_
  refine OD (Does.call rfl e82 (cut_ok M row0 id vv _ ((hsl.mod (Mod.any' hg6)).mod (Mod.drew M _)) (by omega))) ?_
  rintro u7 w7 ⟨hr7, hf7, hg7⟩
  refine ⟨(Mod.drew _ _).trans hg7, ?_⟩
  have hg07 : Grow w' w7 := (hg6.trans (Mod.drew _ _)).trans hg7
  refine DL.opT rfl (.free rfl) rfl rfl (Does.mapUpdate Tryz.underlying238 key79 (k := labK x) rfl rfl rfl (hr2.mod hg07 (fun h => h))) ?_
  rintro _ w8 ⟨hm8, hmod8, hs8⟩
  obtain ⟨ad7, c7, rfl⟩ := hr7.slice
  have hmodk : Mod (· = mr) w' w8 := (Mod.any' hg07).trans hmod8
  have hb1r : b1 ≠ mr := hB6.ty.nem (hr2.mod hg6 (fun h => h)).mp
  have hB8 : Blk w8 b1 79 [.string x.name, .string x.value] := (hB6.mod ((Mod.drew No _).trans hg7) (fun h => h)).mod hmod8 hb1r
  have hu7 : Sl M w8 (.slice ad7 (cutRow row0 id).length c7) 1 (cutRow row0 id).length (ints (cutRow row0 id)) := (Sl.own hr7 (fun b e hb => by have h1 := hf7 b e; have h2 := hM b hb; have h3 := hg6.size; have h4 := hmod.size; simp only [World.drew] at h1; omega)).mod (hmod8.mono fun b _ e => e ▸ hMr)
  have hI8 : ∀ w9, Mod (· = mr) w8 w9 → ∀ r9 : List (LabK × (List Int × Value)), (∀ t ∈ r9, t ∈ putM r (labK x) (cutRow row0 id, .slice ad7 (cutRow row0 id).length c7)) → MapAt pairV w9 mr (r9.map fun t => (t.1, t.2.2)) → r9.map (fun t => (t.1, t.2.1)) = dropRows rows id (ls.take (k + 1)) → IdxAt M w9 ix mh mr has (dropRows rows id (ls.take (k + 1))) := by
    intro w9 h9 r9 hsub hmap hrows
    obtain ⟨l', hl1', hl2', hl3'⟩ := hi.hl
    have hm9 := hmodk.trans h9
    refine ⟨hi.blk.mod hm9 n2, hi.ne, ⟨l', hl1', hl2'.mod hm9 hi.ne, fun t ht => (hl3' t ht).mod (hm9.mono fun b _ e => e ▸ hMr)⟩, ⟨r9, hrows, hmap, fun t ht => ?_⟩⟩
    rcases mem_putM (hsub t ht) with h1 | rfl
    ·exact (hr3 t h1).mod (hm9.mono fun b _ e => e ▸ hMr)
    ·exact hu7.mod (h9.mono fun b _ e => e ▸ hMr)
  have hput : (putM r (labK x) (cutRow row0 id, Value.slice ad7 (cutRow row0 id).length c7)).map (fun t => (t.1, t.2.1)) = putM (dropRows rows id (ls.take k)) (labK x) (cutRow row0 id) := by
    rw [← hr1]; exact (putM_map (fun a : List Int × Value => a.1) (labK x) (_, Value.slice ad7 (cutRow row0 id).length c7) r).symm
  have hput2 : MapAt pairV w8 mr ((putM r (labK x) (cutRow row0 id, Value.slice ad7 (cutRow row0 id).length c7)).map fun t => (t.1, t.2.2)) := by
    rw [← putM_map (fun a : List Int × Value => a.2) (labK x) (_, Value.slice ad7 (cutRow row0 id).length c7) r]; exact hm8
  have hlk8 : (lookM ((putM r (labK x) (cutRow row0 id, Value.slice ad7 (cutRow row0 id).length c7)).map fun t => (t.1, t.2.2)) (labK x)).getD (.slice none 0 0) = .slice ad7 (cutRow row0 id).length c7 := by
    rw [lookM_map (fun a : List Int × Value => a.2), lookM_putM]; simp
  refine GG ?_
  refine RK.drawM No [(0, false), (1, false), (2, false), (3, false), (4, false), (5, false), (6, false), (7, false)] [] mixed (by kernel_rfl) ?_
  refine GG ?_
  refine DF (Yld.fieldAddr fo240_1 rfl) ?_
  refine DQ (Yld.load p238 rfl (atM ((hi.blk.mod hmodk n2).cell rfl) (fun h => h))) (Mod.drew _ _) ?_
  refine DQ (Yld.loadN (cs := [.string x.name, .string x.value]) a79 rfl (atNM (fun j u hj => by rw [Nat.zero_add]; exact hB8.cell' hj) (fun h => h))) (Mod.drew _ _) ?_
  refine DQ (Yld.lookup Tryz.underlying238 key79 i37 (k := labK x) rfl rfl (fun w' hm => hput2.mod hm (fun h => h))) (Mod.drew _ _) ?_
  refine DL.re (d := 42) rfl rfl (hlk8) ?_
  refine DQ (Yld.lenSl u37 rfl) (Mod.drew _ _) ?_
  refine GG ?_
  refine CD (fun h44 => ?_) (fun h44 => ?_)
  ·have hemp : cutRow row0 id = [] := List.eq_nil_of_length_eq_zero (by omega)
   have hstep : cutM (putM (dropRows rows id (ls.take k)) (labK x) (cutRow row0 id)) (labK x) = dropRows rows id (ls.take (k + 1)) := by rw [htk, dropRows_snoc, cutRow1, hrow0, if_pos hemp]
   have hput3 := hput2.mod (Mod.drew No w8) (fun h => h)
   refine RK.drawM No [(0, false), (1, false), (2, false), (3, false), (4, false), (5, true)] [5] mixed (by kernel_rfl) ?_
   refine GG ?_
   refine DF (Yld.fieldAddr fo240_1 rfl) ?_
   refine DQ (Yld.load p238 rfl (atM ((hi.blk.mod (hmodk.trans (Mod.drew _ _)) n2).cell rfl) (fun h => h))) (Mod.drew _ _) ?_
   refine DQ (Yld.loadN (cs := [.string x.name, .string x.value]) a79 rfl (atNM (fun j u hj => by rw [Nat.zero_add]; exact (hB8.mod (Mod.drew No _) (fun h => h)).cell' hj) (fun h => h))) (Mod.drew _ _) ?_
   refine DL.opT rfl (.free rfl) rfl rfl (Does.delete Tryz.underlying238 key79 (k := labK x) rfl rfl ((hput2.mod (Mod.drew No w8) (fun h => h)).mod (Mod.drew No _) (fun h => h))) ?_
   rintro _ w9 ⟨hm9, hmod9, hs9⟩
   have hmod89 : Mod (· = mr) w8 w9 := ((Mod.drew _ _).trans (Mod.drew _ _)).trans hmod9
   have hidx9 := hI8 w9 hmod89 (cutM (putM r (labK x) (cutRow row0 id, Value.slice ad7 (cutRow row0 id).length c7)) (labK x)) (fun t ht => mem_cutM' ht) (by rw [← cutM_map (fun a : List Int × Value => a.2) (labK x)]; exact hm9) (by rw [← hstep, ← hput]; exact (cutM_map (fun a : List Int × Value => a.1) (labK x) _).symm)
   refine DL.done ?_
   refine RK.inBlock ?_
   refine RK.region ?_
   refine RL.p rfl rfl ?_
   refine RL.re (d := 50) rfl rfl (succ_i64 (by omega)) ?_
   refine GG ?_
   exact RK.back (ih (k + 1) _ ⟨hidx9, hmod.trans ((hmodk.trans hmod89).mono fun b _ e => .inr e), by omega⟩ (by omega)) ⟨rfl, rfl, rfl, rfl, rfl, rfl, trivial⟩
  ·have hemp : ¬ cutRow row0 id = [] := fun e => h44 (by rw [e]; rfl)
   have hstep : putM (dropRows rows id (ls.take k)) (labK x) (cutRow row0 id) = dropRows rows id (ls.take (k + 1)) := by rw [htk, dropRows_snoc, cutRow1, hrow0, if_neg hemp]
   have hidx9 := hI8 w8.drew (Mod.drew _ _) _ (fun t ht => ht) (hput2.mod (Mod.drew No _) (fun h => h)) (hput.trans hstep)
   refine RK.skip ?_
   refine RK.inBlock ?_
   refine RK.region ?_
   refine RL.p rfl rfl ?_
   refine RL.re (d := 50) rfl rfl (succ_i64 (by omega)) ?_
   refine GG ?_
   exact RK.back (ih (k + 1) _ ⟨hidx9, hmod.trans ((hmodk.trans (Mod.drew _ _)).mono fun b _ e => .inr e), by omega⟩ (by omega)) ⟨rfl, rfl, rfl, rfl, rfl, rfl, trivial⟩
 ·have ek : ls.take k = ls := List.take_of_length_le (by omega)
  rw [ek] at hi
  obtain ⟨l', hl1', hl2', hl3'⟩ := hi.hl
  refine RK.exit rfl ?_
  refine GG ?_
  refine QQ (Yld.fieldAddr fo240_0 rfl) ?_
  refine QQ (Yld.load p237 rfl (at1 (hi.blk.cell rfl))) ?_
  refine RL.p rfl rfl ?_
  refine OQ (Does.delete Tryz.underlying237 key3 (k := id) rfl rfl hl2') ?_
  rintro _ w9 ⟨hm9, hmod9, hs9⟩
  refine GG ?_
  refine RK.ret_of Tryz.func183 (res1 rfl rfl) ?_ _
  exact ⟨_, rfl, rfl, by
    obtain ⟨r, hr1, hr2, hr3⟩ := hi.rl
    refine ⟨hi.blk.mod hmod9 n1, hi.ne, ⟨cutM l' id, ?_, ?_, fun t ht => ?_⟩, ⟨r, hr1, hr2.mod hmod9 hi.ne.symm, fun t ht => (hr3 t ht).mod (hmod9.mono fun b _ e => e ▸ hMh)⟩⟩
    ·rw [← hl1']; exact (cutM_map (fun a : List Lab × Value => a.1) id l').symm
    ·rw [← cutM_map (fun a : List Lab × Value => a.2) id l']; exact hm9
    ·exact (hl3' t (mem_cutM' ht)).mod (hmod9.mono fun b _ e => e ▸ hMh)
   , hmod.trans (hmod9.mono fun b _ e => .inl e)⟩
end Go.Proofs.YthbjfhhiajihfaaGreat
set_option linter.unusedVariables false
set_option linter.unusedSimpArgs false
set_option maxHeartbeats 400000
set_option maxRecDepth 100000
namespace Go.Proofs.YthbjfhhiajihfaaGreat
open Go Go.X
theorem poolHas_ok (w : World) (p : Nat) (most last : Int) (out : List Int) (v : Value) (id : Int) (hp : PoolAt w p most last out v) (hs : Ris out) (hb : out.length ≤ 1000000) :
  Fx Tryz.prog 162 [pp p, .int .i64 id] w (fun u w' => u = .bool (out.contains id) ∧ Grow w w') := by
 have hsl := Sl.own (M := No) hp.row (fun _ _ h => h)
 have hcall : Fx Tryz.prog 214 [v, .int .i64 id] w (fun u w' => ∃ i : Int, u = .tuple #[.int .i64 i, .bool (out.contains id)] ∧ Grow w w') := by
  obtain ⟨ad, c, b, o, rfl, hf⟩ := hsl.open
  by_cases h0 : out.length = 0
  ·have : out = [] := List.eq_nil_of_length_eq_zero h0
   subst this
   refine Calls.mono (Tryz.slices_BinarySearch_int_empty ad c id w) ?_
   rintro e w' ⟨rfl, rfl⟩
   exact ⟨_, rfl, 0, rfl, Mod.refl _ _⟩
  ·obtain ⟨rfl, _, hc⟩ := hf (by omega)
   refine Calls.mono (Tryz.slices_BinarySearch_int b o out.length c out id w (Nat.le_refl _) (by omega) (fun j hj => hc j _ (by simp [hj])) (by rw [List.take_length]; exact hs.imp fun h => by omega)) ?_
   rintro e w' ⟨rfl, q, rfl⟩
   exact ⟨_, rfl, _, by rw [List.take_length], Mod.drewN _ _ _⟩
 obtain ⟨ad, c, rfl⟩ := hp.row.slice
 refine enter Tryz.func162 rfl rfl rfl _ (Pick.sub (l := [0, 1]) (.cons rfl (.cons rfl .nil))) ?_
 refine GG ?_
 refine QQ (Yld.fieldAddr fo205_2 rfl) ?_
 refine QQ (Yld.load p37 rfl (at1 (hp.blk.cell rfl))) ?_
 refine RL.p rfl rfl ?_
 refine OP (Does.call rfl e214 (hcall)) ?_
 rintro _ w2 ⟨i, rfl, hg2⟩
 refine GG ?_
 refine RK.ret_of Tryz.func162 (res1 rfl rfl) ?_ _
 exact ⟨_, rfl, rfl, hg2⟩
def giveS (out : List Int) (id : Int) : List Int := if out.contains id then cutRow out id else out
theorem give_ok (w : World) (p : Nat) (most last : Int) (out : List Int) (v : Value) (id : Int) (hp : PoolAt w p most last out v) (hs : Ris out) (hb : out.length ≤ 1000000) :
  Fx Tryz.prog 110 [pp p, .int .i64 id] w (fun u w' => u = .bool (out.contains id) ∧ ∃ v', PoolAt w' p most last (giveS out id) v' ∧ Mod (· = p) w w' ∧ (∀ b, v'.ownBlock = some b → v.ownBlock = some b ∨ w.heap.size ≤ b)) := by
 have hcall := poolHas_ok w p most last out v id hp hs hb
 cases hc : out.contains id with
 | false =>
  have e : giveS out id = out := by unfold giveS; rw [hc]; rfl
  rw [hc] at hcall
  refine enter Tryz.func110 rfl rfl rfl _ (Pick.sub (l := [0, 1]) (.cons rfl (.cons rfl .nil))) ?_
  refine GG ?_
  refine OP (Does.call rfl e162 (hcall)) ?_
  rintro _ w2 ⟨rfl, hg2⟩
  refine GG ?_
  refine RK.condT (hcT rfl (rfl)) ?_
  refine GG ?_
  refine RK.ret_of Tryz.func110 (res1 rfl rfl) ?_ _
  exact ⟨_, rfl, rfl, v, e.symm ▸ ⟨hp.blk.mod hg2 (fun h => h), hp.row.mod hg2 (fun _ _ h => h), hp.ne⟩, Mod.any' hg2, fun b h => .inl h⟩
 | true =>
  have e : giveS out id = cutRow out id := by unfold giveS; rw [hc]; rfl
  rw [hc] at hcall
  obtain ⟨ad, c, rfl⟩ := hp.row.slice
  refine enter Tryz.func110 rfl rfl rfl _ (Pick.sub (l := [0, 1]) (.cons rfl (.cons rfl .nil))) ?_
  refine GG ?_
  refine OP (Does.call rfl e162 (hcall)) ?_
  rintro _ w2 ⟨rfl, hg2⟩
  refine GG ?_
  refine RK.condF (hcF rfl (rfl)) ?_
  refine GG ?_
  refine QQ (Yld.fieldAddr fo205_2 rfl) ?_
  refine QQ (Yld.load p37 rfl (at1 ((hp.blk.mod hg2 (fun h => h)).cell rfl))) ?_
  refine RL.p rfl rfl ?_
  refine OP (Does.call rfl e82 (cut_ok No out id _ _ (Sl.own (hp.row.mod hg2 (fun _ _ h => h)) (fun _ _ h => h)) (by omega))) ?_
  rintro u3 w3 ⟨hr3, hf3, hg3⟩
  obtain ⟨ad3, c3, rfl⟩ := hr3.slice
  have hg03 := hg2.trans hg3
  have hlt := hp.blk.lt
  have hs2 := hg2.size
  refine RL.p rfl rfl ?_
  refine QQ (Yld.fieldAddr fo205_2 rfl) ?_
  refine OQ (Does.store i37 rfl rfl rfl (hp.blk.mod hg03 (fun h => h)) (.s (.s .z))) ?_
  rintro _ w4 ⟨hb4, hm4, _⟩
  refine GG ?_
  refine RK.ret_of Tryz.func110 (res1 rfl rfl) ?_ _
  exact ⟨_, rfl, rfl, .slice ad3 (cutRow out id).length c3, by rw [e]; exact ⟨hb4, hr3.mod hm4 (fun b h e' => by have e' : b = p := e'; have := hf3 b h; omega), fun h => by have := hf3 p h; omega⟩, (Mod.any' hg03).trans hm4, fun b h => .inr (by have := hf3 b h; omega)⟩
theorem cmpInt_ok (x y : Int) (w : World) : Fx Tryz.prog 160 [.int .i64 x, .int .i64 y] w (fun u w' => u = .int .i64 (Lib.compareInt x y) ∧ w = w') := by
 refine Calls.mono (Tryz.cmp_Compare_int x y w) ?_
 rintro e w' ⟨rfl, rfl⟩
 exact ⟨_, rfl, rfl, rfl⟩
theorem find1_ok (a : Al) (ad : Option Addr) (n c : Nat) (ha : a.v = .slice ad n c) (id : Int) (w : World) : Fx Tryz.prog 227 [.agg #[.int .i64 a.id, a.v, .float .f64 a.val], .int .i64 id] w (fun u w' => u = .int .i64 (Lib.compareInt a.id id) ∧ Grow w w') := by
 obtain ⟨aid, als, val, va⟩ := a
 simp only at ha
 subst ha
 refine enter Tryz.func227 rfl rfl rfl _ (Pick.sub (l := [0, 1]) (.cons rfl (.cons rfl .nil))) ?_
 refine GG ?_
 refine OP (Does.box rfl) ?_
 rintro _ w1 ⟨bx, rfl, hbx⟩
 refine GG ?_
 refine QQ (Yld.fieldAddr fo35_0 rfl) ?_
 refine QQ (Yld.load p3 rfl (at1 (hbx.blk.cell rfl))) ?_
 refine RL.p rfl rfl ?_
 refine OP (Does.call rfl e160 (cmpInt_ok _ _ _)) ?_
 rintro _ _ ⟨rfl, rfl⟩
 refine GG ?_
 refine RK.ret_of Tryz.func227 (res1 rfl rfl) ?_ _
 exact ⟨_, rfl, rfl, hbx.grow⟩
theorem cmp_lt (x y : Int) : Lib.compareInt x y < 0 ↔ x < y := by unfold Lib.compareInt; split <;> (try split) <;> omega
theorem cmp_eq (x y : Int) : Lib.compareInt x y = 0 ↔ x = y := by unfold Lib.compareInt; split <;> (try split) <;> omega
theorem bsFunc_ok (al : List Al) (id : Int) (v : Value) (w : World) (hv : Sl No w v 3 al.length (al.flatMap alC)) (hsh : ∀ a ∈ al, ∃ ad n c, a.v = .slice ad n c) (hs : Ris (al.map (·.id))) (hb : al.length ≤ 1000000) :
  Fx Tryz.prog 226 [v, .int .i64 id, .func (.func 227) #[] #[]] w (fun u w' => (∃ i : Nat, i ≤ al.length ∧ (∀ t a, t < i → al[t]? = some a → a.id < id) ∧ (∀ t a, i ≤ t → al[t]? = some a → id ≤ a.id) ∧ u = .tuple #[.int .i64 i, .bool ((al.map (·.id))[i]? == some id)]) ∧ Grow w w') := by
 obtain ⟨ad, c, rfl⟩ := hv.shape
 have hris : ∀ (t t' : Nat) (a a' : Al), t < t' → al[t]? = some a → al[t']? = some a' → a.id < a'.id := fun t t' a a' h h1 h2 => by
  have h3 := (List.getElem?_eq_some_iff.1 h1).1
  have h4 := (List.getElem?_eq_some_iff.1 h2).1
  have := List.pairwise_iff_getElem.1 hs t t' (by simpa using h3) (by simpa using h4) h
  simp only [List.getElem_map, (List.getElem?_eq_some_iff.1 h1).2, (List.getElem?_eq_some_iff.1 h2).2] at this
  exact this
 refine enter Tryz.func226 rfl rfl rfl _ (Pick.sub (l := [0, 1, 2]) (.cons rfl (.cons rfl (.cons rfl .nil)))) ?_
 refine GG ?_
 refine QQ (Yld.lenSl u49 rfl) ?_
 refine GG ?_
 refine RK.loop (fun s : Nat × Nat => [(0, .slice ad al.length c), (1, .int .i64 id), (2, .func (.func 227) #[] #[]), (8, .int .i64 al.length), (9, .int .i64 (s.1 : Int)), (10, .int .i64 (s.2 : Int))]) (fun s w' => Grow w w' ∧ s.1 ≤ s.2 ∧ s.2 ≤ al.length ∧ (∀ t a, t < s.1 → al[t]? = some a → a.id < id) ∧ (∀ t a, s.2 ≤ t → al[t]? = some a → id ≤ a.id)) (fun s => s.2 - s.1) (0, al.length) ⟨rfl, rfl, rfl, rfl, rfl, rfl, trivial⟩ ⟨Mod.refl _ _, by simp, by simp, fun t a h => by simp only at h; omega, fun t a h h1 => by have := (List.getElem?_eq_some_iff.1 h1).1; simp only at h; omega⟩ (fun s w' hI ih => ?_)
 obtain ⟨i, j⟩ := s
 obtain ⟨hg, hij, hj, hlo, hhi⟩ := hI
 simp only at hij hj hlo hhi
 refine GG ?_
 refine CD (fun h17 => ?_) (fun h17 => ?_)
 ·obtain ⟨m, hm⟩ : ∃ m, m = (i + j) >>> 1 := ⟨_, rfl⟩
  have hm2 : m = (i + j) / 2 := by rw [hm, Nat.shiftRight_eq_div_pow]
  obtain ⟨a, ha⟩ : ∃ a, al[m]? = some a := ⟨al[m]'(by omega), List.getElem?_eq_getElem (by omega)⟩
  obtain ⟨ada, na, ca, hsa⟩ := hsh a (List.mem_of_getElem? ha)
  obtain ⟨b1, o1, c1', he1, _, _, hc1⟩ := hv.elem alC_len ha
  cases he1
  refine RK.skip ?_
  refine RK.block ?_
  refine RK.seq ?_
  refine RK.region ?_
  iterate 3 refine RL.p rfl rfl ?_
  refine RL.re (d := 20) rfl rfl (add_i64 (z := ((i + j : Nat) : Int)) (by simp) (by omega) (by omega)) ?_
  refine QQ (Yld.convI Tryz.underlying3 Tryz.underlying248 rfl) ?_
  refine RL.re (d := 21) rfl rfl (congrArg (Value.int .u64) (wrap_u64 (x := i + j) (by omega))) ?_
  refine QQ (Yld.shr (a := i + j) (s := 1) rfl rfl (by decide)) ?_
  refine QQ (Yld.convI Tryz.underlying248 Tryz.underlying3 rfl) ?_
  refine RL.re (d := 23) rfl rfl ((congrArg (Value.int .i64) (wrap_i64 (x := (((i + j) >>> 1 : Nat) : Int)) (by omega) (by rw [← hm]; omega))).trans (by rw [← hm])) ?_
  refine GG ?_
  refine QQ (Yld.indexAddrN u49 i35 rfl rfl (by omega)) ?_
  refine QQ (Yld.loadN (cs := [.int .i64 a.id, a.v, .float .f64 a.val]) a35 rfl (atN (fun q u hq => hg.cell (hc1 q u hq) (fun h => h)))) ?_
  refine RL.p rfl rfl ?_
  refine OP (Does.callv rfl rfl e227 (find1_ok a ada na ca hsa id _)) ?_
  rintro _ w2 ⟨rfl, hg2⟩
  refine GG ?_
  refine CD (fun h31 => ?_) (fun h31 => ?_)
  ·have hlt := (cmp_lt _ _).1 h31
   refine RK.region ?_
   iterate 2 refine RL.p rfl rfl ?_
   refine RL.re (d := 33) rfl rfl (succ_i64 (by omega)) ?_
   refine GG ?_
   exact RK.back (ih (m + 1, j) _ ⟨hg.trans hg2, by simp only; omega, hj, fun t a' ht hta => by simp only at ht; by_cases e : t = m; (subst e; rw [ha] at hta; cases hta; exact hlt); have := hris t m a' a (by omega) hta ha; omega, hhi⟩ (by simp only; omega)) ⟨rfl, rfl, rfl, rfl, rfl, rfl, trivial⟩
  ·have hge : ¬ a.id < id := fun h => h31 ((cmp_lt _ _).2 h)
   refine GG ?_
   exact RK.back (ih (i, m) _ ⟨hg.trans hg2, by simp only; omega, by simp only; omega, hlo, fun t a' ht hta => by simp only at ht; by_cases e : t = m; (subst e; rw [ha] at hta; cases hta; omega); have := hris m t a a' (by omega) ha hta; omega⟩ (by simp only; omega)) ⟨rfl, rfl, rfl, rfl, rfl, rfl, trivial⟩
 ·have hije : i = j := by omega
  refine RK.exit rfl ?_
  refine GG ?_
  refine SP 39 (fun h39 => ?_) (fun h39 => ?_)
  ·obtain ⟨a, ha⟩ : ∃ a, al[i]? = some a := ⟨al[i]'(by omega), List.getElem?_eq_getElem (by omega)⟩
   obtain ⟨ada, na, ca, hsa⟩ := hsh a (List.mem_of_getElem? ha)
   obtain ⟨b1, o1, c1', he1, _, _, hc1⟩ := hv.elem alC_len ha
   cases he1
   iterate 3 refine QQ (Yld.pure rfl) ?_
   refine QQ (Yld.indexAddrN u49 i35 rfl rfl (by omega)) ?_
   refine QQ (Yld.loadN (cs := [.int .i64 a.id, a.v, .float .f64 a.val]) a35 rfl (atN (fun q u hq => hg.cell (hc1 q u hq) (fun h => h)))) ?_
   refine QQ (Yld.pure rfl) ?_
   refine OP (Does.callv rfl rfl e227 (find1_ok a ada na ca hsa id _)) ?_
   rintro _ w2 ⟨rfl, hg2⟩
   refine QQ (Yld.pure rfl) ?_
   refine GG ?_
   refine RK.ret_of Tryz.func226 (res2 rfl rfl rfl) ?_ _
   exact ⟨_, rfl, ⟨i, by omega, hlo, by subst hije; exact hhi, by
     have e1 : ((al.map (·.id))[i]? == some id) = decide (Lib.compareInt a.id id = 0) := by
      rw [List.getElem?_map, ha, Bool.eq_iff_iff]
      simp [cmp_eq]
     rw [e1]⟩, hg.trans hg2⟩
  ·iterate 8 refine RL.no (.no rfl rfl rfl rfl) rfl rfl ?_
   refine GG ?_
   refine RK.ret_of Tryz.func226 (res2 rfl rfl rfl) ?_ _
   exact ⟨_, rfl, ⟨i, by omega, hlo, by subst hije; exact hhi, by
     have e1 : (al.map (·.id))[i]? = none := by rw [List.getElem?_eq_none_iff]; simp; omega
     rw [e1]; rfl⟩, hg⟩
end Go.Proofs.YthbjfhhiajihfaaGreat
set_option linter.unusedVariables false
set_option linter.unusedSimpArgs false
set_option maxHeartbeats 800000
set_option maxRecDepth 100000
namespace Go.Proofs.YthbjfhhiajihfaaGreat
open Go Go.X
theorem allOne_als {al : List Al} (h : ∀ a ∈ al, ∃ ad n c, a.v = .slice ad n c) : (al.flatMap alC).all (·.oneCell') = true := by
 rw [List.all_eq_true]
 intro u hu
 obtain ⟨a, ha, hu⟩ := List.mem_flatMap.1 hu
 obtain ⟨ad, n, c, e⟩ := h a ha
 simp only [alC, List.mem_cons, List.not_mem_nil, or_false] at hu
 rcases hu with rfl | rfl | rfl
 ·rfl
 ·rw [e]; rfl
 ·rfl
theorem deleteA_ok (al : List Al) (i : Nat) (v : Value) (w : World) (hv : Row w 35 3 v al.length (al.flatMap alC)) (hsh : ∀ a ∈ al, ∃ ad n c, a.v = .slice ad n c) (hi : i < al.length) (hb : al.length ≤ 1000000) :
    Fx Tryz.prog 182 [v, .int .i64 (i : Int), .int .i64 ((i + 1 : Nat) : Int)] w (fun u w' => Row w' 35 3 u (al.eraseIdx i).length ((al.eraseIdx i).flatMap alC) ∧ u.ownBlock = v.ownBlock ∧ Mod (fun b => v.ownBlock = some b) w w') := by
  obtain ⟨gb, cp, cs, rfl, hbk, hl, hkc, hcm, htk⟩ := hv.whole (by omega)
  have hmax : maxLen ≤ 9223372036854775807 := by decide
  have hnews : (cs.drop ((i + 1) * 3)).take ((al.length - (i + 1)) * 3) = (al.drop (i + 1)).flatMap alC := by
    rw [← flat_drop alC 3 alC_len, ← htk, List.drop_take]
    congr 1
    omega
  have hpre : cs.take (i * 3) = (al.take i).flatMap alC := by
    rw [← flat_take alC 3 alC_len, ← htk, List.take_take, Nat.min_eq_left (by omega)]
  have herase : (al.take i).flatMap alC ++ (al.drop (i + 1)).flatMap alC = (al.eraseIdx i).flatMap alC := by
    rw [List.eraseIdx_eq_take_drop_succ, List.flatMap_append]
  have hlen : (al.eraseIdx i).length = i + (al.length - (i + 1)) := by rw [List.length_eraseIdx]; simp [hi]; omega
  have hone : ((cs.drop ((i + 1) * 3)).take ((al.length - (i + 1)) * 3)).all (·.oneCell') = true := by
    rw [hnews]
    exact allOne_als fun a ha => hsh a (List.mem_of_mem_drop ha)
  have hbd : ∀ w', Grow w w' → Blk w' gb 35 cs := fun w' h => hbk.mod h (fun h => h)
  refine enter Tryz.func182 rfl rfl rfl _ (Pick.sub (l := [0, 1, 2]) (.cons rfl (.cons rfl (.cons rfl .nil)))) ?_
  refine RK.seq ?_
  refine RK.region ?_
  refine RL.p rfl rfl ?_
  refine RL.done ?_
  refine RK.seq ?_
  refine RK.region ?_
  iterate 4 refine RL.p rfl rfl ?_
  refine RL.q (.free rfl) rfl rfl (Yld.lenSl u49 rfl) ?_
  refine RL.q (.free rfl) rfl rfl (Yld.slice3 u49 i35 (lo := i) (hi := i + 1) (mx := al.length) rfl rfl rfl rfl (by omega) (by omega) hkc) ?_
  refine RL.done ?_
  iterate 2 refine RK.seq ?_
  refine RK.region ?_
  iterate 3 refine RL.p rfl rfl ?_
  refine RL.done ?_
  refine RK.condF (hcF rfl (decide_eq_false (by omega))) ?_
  refine RK.skip ?_
  refine RK.seq ?_
  refine RK.region ?_
  refine RL.p rfl rfl ?_
  refine RL.q (.free rfl) rfl rfl (Yld.lenSl u49 rfl) ?_
  refine RL.p rfl rfl ?_
  refine RL.done ?_
  refine RK.seq ?_
  refine RK.drawM (· = gb) [(0, false), (1, false), (2, false), (3, false), (4, false), (5, false), (6, true), (7, false)] [] mixed (by kernel_rfl) ?_
  iterate 2 refine DL.p rfl rfl rfl ?_
  refine DL.qf rfl (.free rfl) rfl rfl (Yld.sliceHi u49 i35 (m := i) rfl rfl (by omega)) ?_
  iterate 2 refine DL.p rfl rfl rfl ?_
  refine DL.qf rfl (.free rfl) rfl rfl (Yld.sliceFrom u49 i35 (m := i + 1) rfl rfl (by omega)) ?_
  refine DL.op rfl (.free rfl) rfl rfl (Does.appendIn u49 i35 (m := al.length - (i + 1)) rfl rfl (hbd _ (Mod.drew No _)) hl (Sl.ofBlk (hbd _ (Mod.drew No _)) hl (by omega) (fun h => h) (by omega)) hone (by omega)) ?_
  rintro _ w3 ⟨rfl, ⟨cs3, hb3, hl3, ht3⟩, hm3, hs3⟩
  refine ⟨(Mod.drew _ _).trans hm3, ?_⟩
  refine DL.p rfl rfl rfl ?_
  refine DL.done ?_
  refine RK.seq ?_
  refine RK.region ?_
  iterate 2 refine RL.p rfl rfl ?_
  refine RL.q (.free rfl) rfl rfl (Yld.lenSl u49 rfl) ?_
  refine RL.p rfl rfl ?_
  refine RL.q (.free rfl) rfl rfl (Yld.sliceLH u49 i35 (lo := i + (al.length - (i + 1))) (hi := al.length) rfl rfl rfl (by omega) (by omega)) ?_
  refine RL.op' (.free rfl) rfl (Does.clear u49 i35 (cap := cp) (lo := i + (al.length - (i + 1))) (m := al.length - (i + (al.length - (i + 1)))) rfl (by simp [Value.cells, Value.oneCell']) rfl hb3 (by rw [hl3, hl]) (by omega)) ?_
  rintro _ w4 ⟨⟨cs4, hb4, hl4, ht4⟩, hm4, hs4⟩
  refine RL.done ?_
  refine RK.seq ?_
  refine RK.region ?_
  iterate 2 refine RL.p rfl rfl ?_
  refine RL.done ?_
  refine RK.ret_of Tryz.func182 (res1 rfl rfl) ?_ _
  exact ⟨_, rfl, by
      rw [ht3, hpre, hnews, herase] at ht4
      rw [← ht4, hlen]
      exact Row.shut hb4 (by rw [hl4, hl3, hl]) (by omega) hcm, rfl, (((Mod.drew _ _).trans hm3).trans hm4).mono fun b _ e => congrArg some e.symm⟩
end Go.Proofs.YthbjfhhiajihfaaGreat
set_option linter.unusedVariables false
set_option linter.unusedSimpArgs false
set_option maxHeartbeats 800000
set_option maxRecDepth 100000
namespace Go.Proofs.YthbjfhhiajihfaaGreat
open Go Go.X
def placeS (s : St) (id : Int) : Option Nat := s.al.findIdx? fun a => decide (a.1 = id)
def resolveS (s : St) (id : Int) : St × Int :=
 match placeS s id with
 | none => (s, 5)
 | some i => ({ s with al := s.al.eraseIdx i, out := giveS s.out id, has := cutM s.has id, rows := dropRows s.rows id ((lookM s.has id).getD []) }, 0)
theorem placeS_eq (s : St) (id : Int) (i : Nat) (hs : Ris (s.al.map (·.1))) (hlo : ∀ (t : Nat) (x : Int), t < i → (s.al.map (·.1))[t]? = some x → x < id) (hhi : ∀ (t : Nat) (x : Int), i ≤ t → (s.al.map (·.1))[t]? = some x → id ≤ x) : placeS s id = if (s.al.map (·.1))[i]? = some id then some i else none := by
 have hget : ∀ t (ht : t < s.al.length), (s.al.map (·.1))[t]? = some s.al[t].1 := fun t ht => by rw [List.getElem?_map, List.getElem?_eq_getElem ht]; rfl
 unfold placeS
 split
 ·rename_i he
  have hil : i < s.al.length := by simpa using (List.getElem?_eq_some_iff.1 he).1
  rw [List.findIdx?_eq_some_iff_getElem]
  refine ⟨hil, ?_, fun j hj => ?_⟩
  ·rw [hget i hil] at he
   simpa using he
  ·have := hlo j _ hj (hget j (by omega))
   simp only [decide_eq_true_eq]
   omega
 ·rename_i he
  rw [List.findIdx?_eq_none_iff]
  intro x hx
  obtain ⟨t, ht, rfl⟩ := List.getElem_of_mem hx
  simp only [decide_eq_false_iff_not]
  intro e
  rcases Nat.lt_trichotomy t i with h1 | h1 | h1
  ·have := hlo t _ h1 (hget t ht); omega
  ·subst h1; exact he (by rw [hget t ht, e])
  ·have h2 := hhi i _ (Nat.le_refl _) (hget i (by omega))
   have h3 := List.pairwise_iff_getElem.1 hs i t (by simp; omega) (by simp; omega) h1
   simp only [List.getElem_map] at h3
   omega
theorem find_ok (w : World) (p : Nat) (s : St) (M : Nat → Prop) (q ix mh mr : Nat) (vo vl : Value) (al : List Al) (h : SA w p s M q ix mh mr vo vl al) (hs : Ris (s.al.map (·.1))) (hb : s.al.length ≤ 1000000) (id : Int) :
  Fx Tryz.prog 181 [pp p, .int .i64 id] w (fun u w' => (∃ i : Nat, i ≤ al.length ∧ u = .tuple #[.int .i64 i, .bool (placeS s id).isSome] ∧ (∀ j, placeS s id = some j → j = i ∧ i < al.length)) ∧ Grow w w') := by
 have hal : al.map (·.id) = s.al.map (·.1) := by rw [← h.als]; simp [pub]
 have hlen : al.length = s.al.length := by rw [← h.als]; simp
 obtain ⟨ad, c, rfl⟩ := h.row.slice
 have hcall := bsFunc_ok al id _ w (Sl.own h.row (fun _ _ h => h)) (fun a ha => by obtain ⟨ad, c, e⟩ := (h.sls a ha).shape; exact ⟨ad, _, c, e⟩) (by rw [hal]; exact hs) (by omega)
 refine enter Tryz.func181 rfl rfl rfl _ (Pick.sub (l := [0, 1]) (.cons rfl (.cons rfl .nil))) ?_
 refine GG ?_
 refine QQ (Yld.fieldAddr fo190_2 rfl) ?_
 refine QQ (Yld.load p49 rfl (at1 (h.blk.cell rfl))) ?_
 refine RL.p rfl rfl ?_
 refine OP (Does.call rfl e226 (hcall)) ?_
 rintro _ w2 ⟨⟨i, hi, hlo, hhi, rfl⟩, hg2⟩
 have hp := placeS_eq s id i hs (fun t x ht hx => by
   rw [← hal, List.getElem?_map] at hx
   cases ha : al[t]? with
   | none => rw [ha] at hx; cases hx
   | some a => rw [ha] at hx; cases hx; exact hlo t a ht ha) (fun t x ht hx => by
   rw [← hal, List.getElem?_map] at hx
   cases ha : al[t]? with
   | none => rw [ha] at hx; cases hx
   | some a => rw [ha] at hx; cases hx; exact hhi t a ht ha)
 rw [hal]
 refine GG ?_
 refine RK.ret_of Tryz.func181 (res2 rfl rfl rfl) ?_ _
 exact ⟨_, rfl, ⟨i, hi, by
   rw [hp]
   by_cases he : (s.al.map (·.1))[i]? = some id
   ·rw [if_pos he, he]; simp
   ·rw [if_neg he, beq_eq_false_iff_ne.2 he]; rfl
  , fun j hj => by
   rw [hp] at hj
   split at hj
   ·rename_i he
    cases hj
    have := (List.getElem?_eq_some_iff.1 he).1
    exact ⟨rfl, by rw [hlen]; simpa using this⟩
   ·cases hj
  ⟩, hg2⟩
theorem resolveX_ok (w : World) (p : Nat) (s : St) (O M : Nat → Prop) (h : StoreX O M w p s) (hs : Ris (s.al.map (·.1))) (ho : Ris s.out) (hb : s.al.length ≤ 1000000) (hbo : s.out.length ≤ 1000000) (hrows : ∀ t ∈ s.rows, t.2.length ≤ 1000000000000) (id : Int) :
  Fx Tryz.prog 133 [pp p, .int .i64 id] w (fun u w' => ∃ O', u = .int .i64 (resolveS s id).2 ∧ StoreX O' (fun b => M b ∨ O' b) w' p (resolveS s id).1 ∧ Mod O w w' ∧ ∀ b, O' b → O b ∨ w.heap.size ≤ b) := by
 have hself := h
 have hOM : ∀ b, O b → M b := fun b e => h.sub e
 obtain ⟨q, ix, mh, mr, vo, vl, al, hO, h⟩ := h
 have hlen : al.length = s.al.length := by rw [← h.als]; simp
 have hfind := find_ok w p s M q ix mh mr vo vl al h hs hb id
 cases hpl : placeS s id with
 | none =>
  have e : resolveS s id = (s, 5) := by unfold resolveS; rw [hpl]
  rw [hpl] at hfind
  rw [e]
  refine enter Tryz.func133 rfl rfl rfl _ (Pick.sub (l := [0, 1]) (.cons rfl (.cons rfl .nil))) ?_
  refine GG ?_
  refine OP (Does.call rfl e181 (hfind)) ?_
  rintro _ w2 ⟨⟨i, hi, rfl, _⟩, hg2⟩
  refine GG ?_
  refine RK.condT (hcT rfl (rfl)) ?_
  refine GG ?_
  refine RK.ret_of Tryz.func133 (res1 rfl rfl) ?_ _
  exact ⟨_, rfl, O, rfl, (hself.grow hg2).off (fun b e => .inr e) (fun b e => e.elim (fun h => h) (hOM b)), Mod.any' hg2, fun b hb => .inl hb⟩
 | some j =>
  have e : resolveS s id = ({ s with al := s.al.eraseIdx j, out := giveS s.out id, has := cutM s.has id, rows := dropRows s.rows id ((lookM s.has id).getD []) }, 0) := by unfold resolveS; rw [hpl]
  rw [hpl] at hfind
  rw [e]
  obtain ⟨ad, c, rfl⟩ := h.row.slice
  have hsh : ∀ a ∈ al, ∃ ad n c, a.v = .slice ad n c := fun a ha => by obtain ⟨ad, c, e⟩ := (h.sls a ha).shape; exact ⟨ad, _, c, e⟩
  obtain ⟨hp1, hp2, hp3, hp4, hp5⟩ := apart4 h.blk h.pool h.idx h.row
  have hOp : O p := (hO p).2 (.inl rfl)
  have hOq : O q := (hO q).2 (.inr (.inl rfl))
  have hOh : O mh := (hO mh).2 (.inr (.inr (.inl rfl)))
  have hOr : O mr := (hO mr).2 (.inr (.inr (.inr (.inl rfl))))
  have hOx : O ix := (hO ix).2 (.inr (.inr (.inr (.inr (.inr (.inr rfl))))))
  have hOo : ∀ b, vo.ownBlock = some b → O b := fun b e => (hO b).2 (.inr (.inr (.inr (.inr (.inl e)))))
  have hOl : ∀ b, (Value.slice ad al.length c).ownBlock = some b → O b := fun b e => (hO b).2 (.inr (.inr (.inr (.inr (.inr (.inl e))))))
  have hMp := hOM p hOp
  have hMq := hOM q hOq
  have hMh := hOM mh hOh
  have hMr := hOM mr hOr
  have hMl : ∀ b, (Value.slice ad al.length c).ownBlock = some b → M b := fun b e => hOM b (hOl b e)
  have hMlt : ∀ b, M b → b < w.heap.size := fun b hb => h.lt hb
  refine enter Tryz.func133 rfl rfl rfl _ (Pick.sub (l := [0, 1]) (.cons rfl (.cons rfl .nil))) ?_
  refine GG ?_
  refine OP (Does.call rfl e181 (hfind)) ?_
  rintro _ w2 ⟨⟨i, hi, rfl, hij⟩, hg2⟩
  obtain ⟨rfl, hil⟩ := hij j rfl
  refine GG ?_
  refine RK.condF (hcF rfl (rfl)) ?_
  refine GG ?_
  refine QQ (Yld.fieldAddr fo190_2 rfl) ?_
  refine QQ (Yld.load p49 rfl (at1 ((h.blk.mod hg2 (fun h => h)).cell rfl))) ?_
  iterate 3 refine RL.p rfl rfl ?_
  refine RL.re (d := 22) rfl rfl (succ_i64 (by omega)) ?_
  refine OP (Does.call rfl e182 (deleteA_ok al j _ _ (h.row.mod hg2 (fun _ _ h => h)) hsh hil (by omega))) ?_
  rintro u3 w3 ⟨hr3, hu3, hm3⟩
  have hm03 : Mod O w w3 := (Mod.any' hg2).trans (hm3.mono fun b _ e => hOl b e)
  have hB3 := (h.blk.mod hg2 (fun h => h)).mod hm3 (fun e => (hp5 p e).1 rfl)
  obtain ⟨ad3, c3, rfl⟩ := hr3.slice
  refine RL.p rfl rfl ?_
  refine QQ (Yld.fieldAddr fo190_2 rfl) ?_
  refine OQ (Does.store i49 rfl rfl rfl hB3 (.s (.s .z))) ?_
  rintro _ w4 ⟨hb4, hm4, hs4⟩
  have hm24 : Mod (fun b => (Value.slice ad al.length c).ownBlock = some b ∨ b = p) w2 w4 := (hm3.mono fun b _ e => .inl e).trans (hm4.mono fun b _ e => .inr e)
  have hm04 : Mod O w w4 := hm03.trans (hm4.mono fun b _ e => e ▸ hOp)
  have hI4 : IdxAt M w4 ix mh mr s.has s.rows := (h.idx.mod hg2 (fun _ _ h => h.elim) (fun h => h) (fun h => h) (fun h => h)).mod hm24 (fun b _ e => by rcases e with e | rfl; exact hMl b e; exact hMp) (by rintro (e | e); exact (hp5 ix e).2.2.1 rfl; exact hp1.2.1 e.symm) (by rintro (e | e); exact (hp5 mh e).2.2.2.1 rfl; exact hp1.2.2.1 e.symm) (by rintro (e | e); exact (hp5 mr e).2.2.2.2 rfl; exact hp1.2.2.2 e.symm)
  have hP4 : PoolAt w4 q s.most s.last s.out vo := (PoolAt.mod h.pool hg2 (fun h => h) (fun _ _ h => h)).mod hm24 (by rintro (e | e); exact (hp5 q e).2.1 rfl; exact hp1.1 e.symm) (fun b e => by rintro (e2 | e2); exact (hp4 b e).2.2.2.2.2 e2; exact (hp4 b e).1 e2)
  have hR4 : Row w4 35 3 (.slice ad3 (al.eraseIdx j).length c3) (al.eraseIdx j).length ((al.eraseIdx j).flatMap alC) := hr3.mod hm4 (fun b e e2 => (hp5 b (hu3 ▸ e)).1 e2)
  refine GG ?_
  refine QQ (Yld.fieldAddr fo190_1 rfl) ?_
  refine QQ (Yld.load p187 rfl (at1 (hb4.cell rfl))) ?_
  refine RL.p rfl rfl ?_
  refine OP (Does.call rfl e183 (drop_ok M _ ix mh mr _ _ hI4 hMh hMr (fun b hb => by have := hMlt b hb; have := hm04.size; omega) id hrows)) ?_
  rintro _ w5 ⟨rfl, hI5, hm5⟩
  have hB5 := hb4.mod hm5 (by rintro (e | e); exact hp1.2.2.1 e; exact hp1.2.2.2 e)
  have hP5 := hP4.mod hm5 (by rintro (e | e); exact hp2.2.1 e; exact hp2.2.2 e) (fun b e => by rintro (e2 | e2); exact (hp4 b e).2.2.2.1 e2; exact (hp4 b e).2.2.2.2.1 e2)
  have hR5 := hR4.mod hm5 (fun b e => by rintro (e2 | e2); exact (hp5 b (hu3 ▸ e)).2.2.2.1 e2; exact (hp5 b (hu3 ▸ e)).2.2.2.2 e2)
  have hm05 : Mod O w w5 := hm04.trans (hm5.mono fun b _ e => by rcases e with rfl | rfl; exact hOh; exact hOr)
  refine GG ?_
  refine QQ (Yld.fieldAddr fo190_0 rfl) ?_
  refine QQ (Yld.load p156 rfl (at1 (hB5.cell rfl))) ?_
  refine RL.p rfl rfl ?_
  refine OP (Does.call rfl e110 (give_ok _ q _ _ _ vo id hP5 ho hbo)) ?_
  rintro _ w6 ⟨rfl, vo', hP6, hm6, hvo'⟩
  have hs05 := hm05.size
  have hB6 := hB5.mod hm6 (fun e => hp1.1 e)
  have hR6 := hR5.mod hm6 (fun b e e2 => (hp5 b (hu3 ▸ e)).2.1 e2)
  have hm06 : Mod O w w6 := hm05.trans (hm6.mono fun b _ e => e ▸ hOq)
  have hown : ∀ b, own p q ix mh mr vo' (.slice ad3 (al.eraseIdx j).length c3) b → O b ∨ w5.heap.size ≤ b := fun b hb => by
    rcases hb with rfl | rfl | rfl | rfl | e | e | rfl
    ·exact .inl hOp
    ·exact .inl hOq
    ·exact .inl hOh
    ·exact .inl hOr
    ·rcases hvo' b e with h1 | h1
     ·exact .inl (hOo b h1)
     ·exact .inr h1
    ·exact .inl (hOl b (hu3 ▸ e))
    ·exact .inl hOx
  have hoff : ∀ b, b < w5.heap.size → (M b ∨ own p q ix mh mr vo' (.slice ad3 (al.eraseIdx j).length c3) b) → M b := fun b hb e => by
    rcases e with e | e
    ·exact e
    ·rcases hown b e with h1 | h1
     ·exact hOM b h1
     ·omega
  have hI6 := (hI5.off hoff).mod hm6 (fun b _ e => e ▸ .inr (.inr (.inl rfl))) (fun e => hp2.1 e.symm) (fun e => hp2.2.1 e.symm) (fun e => hp2.2.2 e.symm)
  have hlt6 : ∀ b, (M b ∨ own p q ix mh mr vo' (.slice ad3 (al.eraseIdx j).length c3) b) → b < w6.heap.size := fun b hb => by
    rcases hb with e | e
    ·have h1 := hMlt b e; have h2 := hm06.size; omega
    ·exact own_lt hB6 hP6 hI6 hR6 b e
  refine GG ?_
  refine RK.ret_of Tryz.func133 (res1 rfl rfl) ?_ _
  exact ⟨_, rfl, own p q ix mh mr vo' (.slice ad3 (al.eraseIdx j).length c3), rfl, ⟨q, ix, mh, mr, vo', _, al.eraseIdx j, fun _ => Iff.rfl, ⟨hB6, hP6, hI6, hR6, by rw [map_eraseIdx', h.als], fun a ha => (((h.sls a (List.mem_of_mem_eraseIdx ha)).mod (hm05.mono fun b _ e => hOM b e)).off (by omega) hoff).mod (hm6.mono fun b _ e => e ▸ .inr (.inr (.inl rfl))), fun _ e => .inr e, hlt6⟩⟩, hm06, fun b hb => by
    rcases hown b hb with h1 | h1
    ·exact .inl h1
    ·exact .inr (by omega)
   ⟩
theorem resolve_ok (w : World) (p : Nat) (s : St) (M : Nat → Prop) (h : StoreAt w p s M) (hs : Ris (s.al.map (·.1))) (ho : Ris s.out) (hb : s.al.length ≤ 1000000) (hbo : s.out.length ≤ 1000000) (hrows : ∀ t ∈ s.rows, t.2.length ≤ 1000000000000) (id : Int) :
  Fx Tryz.prog 133 [pp p, .int .i64 id] w (fun u w' => ∃ M', u = .int .i64 (resolveS s id).2 ∧ StoreAt w' p (resolveS s id).1 M' ∧ Mod M w w' ∧ ∀ b, M' b → M b ∨ w.heap.size ≤ b) :=
 Fx.mono (resolveX_ok w p s M M h hs ho hb hbo hrows id) fun u w' ⟨M', h1, h2, h3, h4⟩ => ⟨M', h1, h2.at_, h3, h4⟩
end Go.Proofs.YthbjfhhiajihfaaGreat
set_option linter.unusedVariables false
set_option linter.unusedSimpArgs false
set_option maxHeartbeats 800000
set_option maxRecDepth 100000
namespace Go.Proofs.YthbjfhhiajihfaaGreat
open Go Go.X
end Go.Proofs.YthbjfhhiajihfaaGreat
set_option linter.unusedVariables false
set_option linter.unusedSimpArgs false
set_option maxHeartbeats 400000
set_option maxRecDepth 100000
namespace Go.Proofs.YthbjfhhiajihfaaGreat
open Go Go.X
abbrev AlS := Int × List Lab × Nat
def hasOf (al : List AlS) : List (Int × List Lab) := al.map fun a => (a.1, a.2.1)
structure Gd (s : St) : Prop where
 ids : Ris (s.al.map (·.1))
 out : s.out = s.al.map (·.1)
 has : s.has = hasOf s.al
 ix : IxI s.has s.rows
 le : ∀ a ∈ s.al, 1 ≤ a.1 ∧ a.1 ≤ s.last
 sets : ∀ a ∈ s.al, isS a.2.1 = true
theorem Gd.new (m : Int) : Gd (St.new m) := ⟨by simp [St.new], rfl, rfl, IxI.nil, by simp [St.new], by simp [St.new]⟩
theorem map_modify_same {α β : Type} (f : α → β) (g : α → α) (h : ∀ x, f (g x) = f x) (l : List α) (i : Nat) : (l.modify i g).map f = l.map f := by
 apply List.ext_getElem?
 intro j
 simp only [List.getElem?_map, List.getElem?_modify]
 cases l[j]? with
 | none => rfl
 | some x => by_cases hj : i = j <;> simp [hj, h]
theorem mem_modify_or {α : Type} {g : α → α} {l : List α} {i : Nat} {x : α} (h : x ∈ l.modify i g) : x ∈ l ∨ ∃ y ∈ l, x = g y := by
 obtain ⟨j, hj⟩ := List.getElem?_of_mem h
 simp only [List.getElem?_modify] at hj
 cases hl : l[j]? with
 | none => simp [hl] at hj
 | some y =>
  have hy := List.mem_of_getElem? hl
  simp only [hl, Option.map_some] at hj
  split at hj <;> (simp at hj; subst hj)
  ·exact .inr ⟨y, hy, rfl⟩
  ·exact .inl hy
theorem placeM_at {κ α : Type} [DecidableEq κ] {k : κ} {v : α} : ∀ {l : List (κ × α)} {i : Nat}, (l.map (·.1)).Nodup → l[i]? = some (k, v) → placeM k l = some (i, v)
 | [], i, _, h => by simp at h
 | (j, u) :: l, 0, _, h => by
  simp at h
  simp [placeM, h.1, h.2]
 | (j, u) :: l, i + 1, hn, h => by
  rw [List.map_cons, List.nodup_cons] at hn
  simp only [List.getElem?_cons_succ] at h
  have hne : ¬ k = j := fun e => hn.1 (by rw [← e]; exact List.mem_map.2 ⟨(k, v), List.mem_of_getElem? h, rfl⟩)
  simp [placeM, hne, placeM_at hn.2 h]
theorem Gd.fresh {s : St} (h : Gd s) : lookM s.has (s.last + 1) = none := by
 rw [lookM_none, h.has]
 intro hm
 simp only [hasOf, List.map_map, List.mem_map] at hm
 obtain ⟨a, ha, e⟩ := hm
 have := h.le a ha
 simp only [Function.comp] at e
 omega
theorem Gd.post {s : St} (h : Gd s) (h0 : 0 ≤ s.last) (ls : List Lab) (val : Nat) : Gd (postS s ls val).1 := by
 unfold postS
 by_cases his : isS ls = false
 ·rw [if_pos his]; exact h
 ·rw [if_neg his]
  split
  ·rename_i i hi
   have e1 : (s.al.modify i fun a => (a.1, a.2.1, canS val)).map (·.1) = s.al.map (·.1) := map_modify_same (fun a : AlS => a.1) (fun a : AlS => (a.1, a.2.1, canS val)) (fun _ => rfl) _ _
   have e2 : hasOf (s.al.modify i fun a => (a.1, a.2.1, canS val)) = hasOf s.al := map_modify_same (fun a : AlS => (a.1, a.2.1)) (fun a : AlS => (a.1, a.2.1, canS val)) (fun _ => rfl) _ _
   refine ⟨by simp only; rw [e1]; exact h.ids, by simp only; rw [e1]; exact h.out, by simp only; rw [e2]; exact h.has, h.ix, fun a ha => ?_, fun a ha => ?_⟩
   ·rcases mem_modify_or ha with h1 | ⟨y, hy, rfl⟩
    ·exact h.le a h1
    ·exact h.le y hy
   ·rcases mem_modify_or ha with h1 | ⟨y, hy, rfl⟩
    ·exact h.sets a h1
    ·exact h.sets y hy
  ·cases hf : fullS s.most s.last s.out with
   | true => simpa using h
   | false =>
    simp only [Bool.false_eq_true, if_false]
    have hfr := h.fresh
    refine ⟨?_, ?_, ?_, h.ix.add hfr ls, fun a ha => ?_, fun a ha => ?_⟩
    ·rw [List.map_append]
     refine List.pairwise_append.2 ⟨h.ids, by simp, fun x hx y hy => ?_⟩
     simp at hy; subst hy
     obtain ⟨a, ha, rfl⟩ := List.mem_map.1 hx
     have := h.le a ha; omega
    ·simp [h.out]
    ·rw [putM_new hfr, h.has]; simp [hasOf]
    ·rcases List.mem_append.1 ha with h1 | h1
     ·have := h.le a h1; simp only; omega
     ·simp at h1; subst h1; simp only; omega
    ·rcases List.mem_append.1 ha with h1 | h1
     ·exact h.sets a h1
     ·simp at h1; subst h1; simpa using his
theorem place_at {s : St} (h : Gd s) {id : Int} {i : Nat} (hp : placeS s id = some i) : ∃ a, s.al[i]? = some a ∧ a.1 = id := by
 unfold placeS at hp
 obtain ⟨h1, h2, _⟩ := List.findIdx?_eq_some_iff_getElem.1 hp
 exact ⟨_, List.getElem?_eq_getElem h1, by simpa using h2⟩
theorem Gd.resolve {s : St} (h : Gd s) (id : Int) : Gd (resolveS s id).1 := by
 unfold resolveS
 split
 ·exact h
 ·rename_i i hp
  obtain ⟨a, ha, rfl⟩ := place_at h hp
  have hi : i < s.al.length := (List.getElem?_eq_some_iff.1 ha).1
  have hsub : (s.al.eraseIdx i).Sublist s.al := List.eraseIdx_sublist _ _
  have hids : Ris ((s.al.eraseIdx i).map (·.1)) := h.ids.sublist (hsub.map _)
  have hmem : a.1 ∈ s.out := by rw [h.out]; exact List.mem_map_of_mem (f := fun t : AlS => t.1) (List.mem_of_getElem? ha)
  have hout : giveS s.out a.1 = (s.al.eraseIdx i).map (·.1) := by
   unfold giveS
   rw [if_pos (by simpa using hmem)]
   refine ext_ris (cutRow_ris _ _) hids fun x => ?_
   rw [mem_cutRow, h.out, map_eraseIdx' (fun t : AlS => t.1), List.mem_eraseIdx_iff_getElem]
   have hg : ∀ j (hj : j < (s.al.map fun t : AlS => t.1).length), (s.al.map fun t : AlS => t.1)[j] = a.1 ↔ j = i := fun j hj => by
    have hii : (s.al.map fun t : AlS => t.1)[i]'(by simpa using hi) = a.1 := by
     simp [(List.getElem?_eq_some_iff.1 ha).2]
    constructor
    ·intro e
     rw [← hii] at e
     exact (List.getElem_inj h.ids.nodup).1 e
    ·rintro rfl; exact hii
   constructor
   ·rintro ⟨h1, h2⟩
    obtain ⟨j, hj, rfl⟩ := List.getElem_of_mem h1
    exact ⟨j, hj, fun e => h2 ((hg j hj).2 e), rfl⟩
   ·rintro ⟨j, hj, hne, rfl⟩
    exact ⟨List.getElem_mem _, fun e => hne ((hg j hj).1 e)⟩
  have hhas : cutM s.has a.1 = hasOf (s.al.eraseIdx i) := by
   have hp2 : placeM a.1 s.has = some (i, a.2.1) := placeM_at h.ix.nd (by rw [h.has, hasOf, List.getElem?_map, ha]; rfl)
   unfold cutM
   rw [hp2]
   simp only
   rw [h.has, hasOf, hasOf, map_eraseIdx']
  exact ⟨hids, hout, hhas, h.ix.drop a.1, fun b hb => h.le b (hsub.mem hb), fun b hb => h.sets b (hsub.mem hb)⟩
theorem Ok.resolve {s : St} (h : Ok s) (hg : Gd s) (id : Int) : Ok (resolveS s id).1 := by
 have hg' := hg.resolve id
 unfold resolveS at *
 split
 ·exact h
 ·rename_i i hp
  rw [hp] at hg'
  simp only at hg'
  have hsub : (s.al.eraseIdx i).Sublist s.al := List.eraseIdx_sublist _ _
  have hl := hg'.out
  simp only at hl
  have e1 := congrArg List.length hl
  rw [List.length_map] at e1
  have h1 := h.alOut
  have h2 := h.outLe
  have h3 := hsub.length_le
  refine ⟨h.last0, h.last1, h.most, ?_, e1.symm, fun t ht => h.has t (mem_cutM' ht), fun t ht => ?_, fun b hb => h.vals b (hsub.mem hb)⟩
  ·simp only; omega
  ·have := dropRows_bound (B := (6 * s.last).toNat) (fun t ht => by have := h.rows t ht; omega) id _ t ht
   have h4 := h.last0
   simp only
   omega
structure KM (M : Nat → Prop) (w : World) (p : Nat) (s : St) : Prop where
 at_ : StoreAt w p s M
 ok : Ok s
 gd : Gd s
theorem KM.len16 {M : Nat → Prop} {w : World} {p : Nat} {s : St} (h : KM M w p s) : s.al.length ≤ 16 ∧ s.out.length ≤ 16 := by
 have h1 := h.ok.most; have h2 := h.ok.outLe; have h3 := h.ok.alOut
 omega
theorem KM.lt {M : Nat → Prop} {w : World} {p : Nat} {s : St} (h : KM M w p s) {b : Nat} (hb : M b) : b < w.heap.size := h.at_.lt hb
theorem KM.grow {M : Nat → Prop} {w w' : World} {p : Nat} {s : St} (h : KM M w p s) (hg : Grow w w') : KM M w' p s := ⟨h.at_.grow hg, h.ok, h.gd⟩
theorem km_new (m : Int) (w : World) : Fx Tryz.prog 68 [.int .i64 m] w (fun u w' => ∃ p M, u = pp p ∧ KM M w' p (St.new m) ∧ (∀ b, M b → w.heap.size ≤ b) ∧ Grow w w') :=
 Fx.mono (alertNew_ok m w) fun u w' ⟨p, M, h1, h2, h3, h4⟩ => ⟨p, M, h1, ⟨h2, Ok.new m, Gd.new m⟩, h3, h4⟩
theorem KM.resolve {M : Nat → Prop} {w : World} {p : Nat} {s : St} (h : KM M w p s) (id : Int) :
  Fx Tryz.prog 133 [pp p, .int .i64 id] w (fun u w' => ∃ M', u = .int .i64 (resolveS s id).2 ∧ KM M' w' p (resolveS s id).1 ∧ Mod M w w' ∧ ∀ b, M' b → M b ∨ w.heap.size ≤ b) := by
 have h16 := h.len16
 refine Fx.mono (resolve_ok w p s M h.at_ h.gd.ids (by rw [h.gd.out]; exact h.gd.ids) (by omega) (by omega) (fun t ht => by have h1 := h.ok.rows t ht; have h2 := h.ok.last1; omega) id) ?_
 rintro u w' ⟨M', h1, h2, h3, h4⟩
 exact ⟨M', h1, ⟨h2, h.ok.resolve h.gd id, h.gd.resolve id⟩, h3, h4⟩
theorem KM.size {M : Nat → Prop} {w : World} {p : Nat} {s : St} (h : KM M w p s) : Fx Tryz.prog 130 [pp p] w (fun u w' => u = .int .i64 s.al.length ∧ w = w') := alertLen_ok w p s M h.at_
structure KX (O M : Nat → Prop) (w : World) (p : Nat) (s : St) : Prop where
 at_ : StoreX O M w p s
 ok : Ok s
 gd : Gd s
theorem KX.km {O M : Nat → Prop} {w : World} {p : Nat} {s : St} (h : KX O M w p s) : KM O w p s := ⟨h.at_.at_, h.ok, h.gd⟩
theorem KX.grow {O M : Nat → Prop} {w w' : World} {p : Nat} {s : St} (h : KX O M w p s) (hg : Grow w w') : KX O M w' p s := ⟨h.at_.grow hg, h.ok, h.gd⟩
theorem KX.post {O M : Nat → Prop} {w : World} {p : Nat} {s : St} (h : KX O M w p s) {ls : List Lab} {v : Value} (hv : SlL M w v ls) {val : Nat} (hval : val < 18446744073709551616) :
  Fx Tryz.prog 127 [pp p, v, .float .f64 val] w (fun u w' => ∃ O', u = .tuple #[.int .i64 (postS s ls val).2.1, .bool (postS s ls val).2.2.1, .int .i64 (postS s ls val).2.2.2] ∧ KX O' (fun b => M b ∨ O' b) w' p (postS s ls val).1 ∧ Mod O w w' ∧ ∀ b, O' b → O b ∨ w.heap.size ≤ b) :=
 Fx.mono (postX_ok w p s O M h.at_ h.ok ls v hv val) fun u w' ⟨O', h1, h2, h3, h4⟩ => ⟨O', h1, ⟨h2, h.ok.post ls hval, h.gd.post h.ok.last0 ls val⟩, h3, h4⟩
theorem KX.resolve {O M : Nat → Prop} {w : World} {p : Nat} {s : St} (h : KX O M w p s) (id : Int) :
  Fx Tryz.prog 133 [pp p, .int .i64 id] w (fun u w' => ∃ O', u = .int .i64 (resolveS s id).2 ∧ KX O' (fun b => M b ∨ O' b) w' p (resolveS s id).1 ∧ Mod O w w' ∧ ∀ b, O' b → O b ∨ w.heap.size ≤ b) := by
 have h16 := h.km.len16
 refine Fx.mono (resolveX_ok w p s O M h.at_ h.gd.ids (by rw [h.gd.out]; exact h.gd.ids) (by omega) (by omega) (fun t ht => by have h1 := h.ok.rows t ht; have h2 := h.ok.last1; omega) id) ?_
 rintro u w' ⟨O', h1, h2, h3, h4⟩
 exact ⟨O', h1, ⟨h2, h.ok.resolve h.gd id, h.gd.resolve id⟩, h3, h4⟩
end Go.Proofs.YthbjfhhiajihfaaGreat
namespace Go.Proofs
open Go.Shelf
def Tryz.keys234_ren : Go.Shelf.Ren := ⟨fun | 7 => 234 | 10 => 272 | n => n, fun | 23 => 237 | 26 => 3 | 3 => 33 | 28 => 276 | 0 => 0 | 27 => 275 | 33 => 172 | 4 => 4 | n => n, fun | n => n⟩
theorem Tryz.keys234 : Go.Proofs.SlLaysZI.n7 Tryz.prog Tryz.keys234_ren := {
 mixed := by kernel_rfl
 f7 := ⟨Tryz.f234.name, by decide, Tryz.func234.trans (congrArg some (by kernel_rfl))⟩
 f10 := ⟨Tryz.f272.name, by decide, Tryz.func272.trans (congrArg some (by kernel_rfl))⟩
 t0 := Tryz.underlying0
 a0 := Tryz.isAgg0
 z0 := Tryz.sizeOf0
 v0 := Tryz.zeroValue0
 t4 := Tryz.underlying4
 a4 := Tryz.isAgg4
 z4 := Tryz.sizeOf4
 v4 := Tryz.zeroValue4
 t23 := Tryz.underlying237
 a23 := Tryz.isAgg237
 z23 := Tryz.sizeOf237
 v23 := Tryz.zeroValue237
 t26 := Tryz.underlying3
 a26 := Tryz.isAgg3
 z26 := Tryz.sizeOf3
 v26 := Tryz.zeroValue3
 t27 := Tryz.underlying275
 a27 := Tryz.isAgg275
 z27 := Tryz.sizeOf275
 v27 := Tryz.zeroValue275
 t28 := Tryz.underlying276
 a28 := Tryz.isAgg276
 z28 := Tryz.sizeOf276
 v28 := Tryz.zeroValue276
 t33 := Tryz.underlying172
 a33 := Tryz.isAgg172
 z33 := Tryz.sizeOf172
 v33 := Tryz.zeroValue172 }
def Tryz.sorted233_ren : Go.Shelf.Ren := ⟨fun | 6 => 233 | 8 => 271 | 9 => 145 | 11 => 295 | 13 => 200 | 12 => 199 | 23 => 249 | 24 => 250 | 14 => 240 | 15 => 241 | 16 => 242 | 17 => 243 | 18 => 244 | 19 => 245 | 20 => 246 | 21 => 247 | 22 => 248 | 25 => 273 | 26 => 274 | 27 => 275 | 28 => 276 | 29 => 277 | 30 => 213 | 31 => 296 | n => n, fun | 26 => 3 | 28 => 276 | 24 => 37 | 0 => 0 | 3 => 3 | 37 => 248 | 48 => 291 | 50 => 66 | 4 => 4 | 40 => 284 | 39 => 283 | 45 => 164 | 5 => 5 | 9 => 9 | 51 => 310 | 55 => 314 | 57 => 330 | 58 => 331 | 33 => 172 | n => n, fun | n => n⟩
theorem Tryz.sorted233 : Go.Proofs.SlLaysZI.n6 Tryz.prog Tryz.sorted233_ren := {
 mixed := by kernel_rfl
 f6 := ⟨Tryz.f233.name, by decide, Tryz.func233.trans (congrArg some (by kernel_rfl))⟩
 f8 := ⟨Tryz.f271.name, by decide, Tryz.func271.trans (congrArg some (by kernel_rfl))⟩
 f11 := ⟨Tryz.f295.name, by decide, Tryz.func295.trans (congrArg some (by kernel_rfl))⟩
 t0 := Tryz.underlying0
 a0 := Tryz.isAgg0
 z0 := Tryz.sizeOf0
 v0 := Tryz.zeroValue0
 t24 := Tryz.underlying37
 a24 := Tryz.isAgg37
 z24 := Tryz.sizeOf37
 v24 := Tryz.zeroValue37
 t26 := Tryz.underlying3
 a26 := Tryz.isAgg3
 z26 := Tryz.sizeOf3
 v26 := Tryz.zeroValue3
 t28 := Tryz.underlying276
 a28 := Tryz.isAgg276
 z28 := Tryz.sizeOf276
 v28 := Tryz.zeroValue276
 i26 := by kernel_rfl }
end Go.Proofs
