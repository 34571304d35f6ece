/- An index as plain lists: what adding and dropping leave. -/
import Derived.Test.YtffbcfcoddacmaaGreatDa
import Derived.Test.YtffbcfcoddacmaaGreatXB
set_option linter.unusedVariables false
set_option linter.unusedSimpArgs false
set_option maxHeartbeats 400000
set_option maxRecDepth 100000
namespace Go.Proofs.YtffbcfcoddacmaaGreat
open Go Go.X

def cutRow (row : List Int) (id : Int) : List Int := (mkRow row).filter fun y => decide (y ≠ id)
theorem mem_cutRow {row : List Int} {id x : Int} : x ∈ cutRow row id ↔ x ∈ row ∧ x ≠ id := by simp [cutRow, mem_mkRow]
theorem cutRow_ris (row : List Int) (id : Int) : Ris (cutRow row id) := (mkRow_ris row).sublist List.filter_sublist
def cutRow1 (id : Int) (r : List (LabK × List Int)) (x : Lab) : List (LabK × List Int) :=
  if cutRow ((lookM r (labK x)).getD []) id = [] then cutM (putM r (labK x) (cutRow ((lookM r (labK x)).getD []) id)) (labK x) else putM r (labK x) (cutRow ((lookM r (labK x)).getD []) id)
def dropRows (rows : List (LabK × List Int)) (id : Int) (ls : List Lab) : List (LabK × List Int) := ls.foldl (cutRow1 id) rows
theorem dropRows_snoc (rows : List (LabK × List Int)) (id : Int) (ls : List Lab) (x : Lab) : dropRows rows id (ls ++ [x]) = cutRow1 id (dropRows rows id ls) x := by simp [dropRows]
theorem cutRow_le (row : List Int) (id : Int) : (cutRow row id).length ≤ row.length := Nat.le_trans (List.length_filter_le _ _) (mkRow_le row)
theorem mem_cutM' {κ α : Type} [DecidableEq κ] {k : κ} {l : List (κ × α)} {t : κ × α} (h : t ∈ cutM l k) : t ∈ l := (cutM_sub k l).mem h
theorem cutRow1_bound {r : List (LabK × List Int)} {B : Nat} (h : ∀ t ∈ r, t.2.length ≤ B) (id : Int) (x : Lab) : ∀ t ∈ cutRow1 id r x, t.2.length ≤ B := by
  have hput : ∀ t ∈ putM r (labK x) (cutRow ((lookM r (labK x)).getD []) id), t.2.length ≤ B := fun t ht => by
    rcases mem_putM ht with h1 | rfl
    · exact h t h1
    · exact Nat.le_trans (cutRow_le _ _) (look_bound h (labK x))
  intro t ht
  unfold cutRow1 at ht
  split at ht
  · exact hput t (mem_cutM' ht)
  · exact hput t ht
theorem dropRows_bound {r : List (LabK × List Int)} {B : Nat} (h : ∀ t ∈ r, t.2.length ≤ B) (id : Int) (ls : List Lab) : ∀ t ∈ dropRows r id ls, t.2.length ≤ B := by
  induction ls generalizing r with
  | nil => exact h
  | cons x ls ih => exact ih (cutRow1_bound h id x)

/-- Rows as they are kept. -/
structure RowsOk (rows : List (LabK × List Int)) : Prop where
  nd : (rows.map (·.1)).Nodup
  row : ∀ t ∈ rows, Ris t.2 ∧ t.2 ≠ []
theorem mkRow_ne {xs : List Int} {x : Int} (h : x ∈ xs) : mkRow xs ≠ [] := fun e => by
  have := mem_mkRow.2 h
  rw [e] at this
  cases this
theorem RowsOk.add1 {rows : List (LabK × List Int)} (h : RowsOk rows) (id : Int) (x : Lab) : RowsOk (addRow1 id rows x) := by
  refine ⟨putM_nodup h.nd, fun t ht => ?_⟩
  rcases mem_putM ht with h1 | rfl
  · exact h.row t h1
  · exact ⟨mkRow_ris _, mkRow_ne (x := id) (by simp)⟩
theorem RowsOk.cut1 {rows : List (LabK × List Int)} (h : RowsOk rows) (id : Int) (x : Lab) : RowsOk (cutRow1 id rows x) := by
  unfold cutRow1
  have hp := putM_nodup (k := labK x) (v := cutRow ((lookM rows (labK x)).getD []) id) h.nd
  split
  · refine ⟨cutM_nodup hp, fun t ht => ?_⟩
    obtain ⟨h1, h2⟩ := (mem_cutM hp).1 ht
    rcases mem_putM h1 with h3 | rfl
    · exact h.row t h3
    · exact absurd rfl h2
  · rename_i hne
    refine ⟨hp, fun t ht => ?_⟩
    rcases mem_putM ht with h3 | rfl
    · exact h.row t h3
    · exact ⟨cutRow_ris _ _, hne⟩
theorem look_add1 (rows : List (LabK × List Int)) (id : Int) (x : Lab) (k : LabK) (j : Int) : j ∈ (lookM (addRow1 id rows x) k).getD [] ↔ j ∈ (lookM rows k).getD [] ∨ j = id ∧ labK x = k := by
  unfold addRow1
  rw [lookM_putM]
  by_cases hk : k = labK x
  · subst hk
    simp [mem_mkRow]
  · rw [if_neg hk]
    simp [Ne.symm hk]
theorem look_cut1 {rows : List (LabK × List Int)} (h : RowsOk rows) (id : Int) (x : Lab) (k : LabK) (j : Int) : j ∈ (lookM (cutRow1 id rows x) k).getD [] ↔ j ∈ (lookM rows k).getD [] ∧ ¬ (j = id ∧ labK x = k) := by
  have hp := putM_nodup (k := labK x) (v := cutRow ((lookM rows (labK x)).getD []) id) h.nd
  have e : (lookM (cutRow1 id rows x) k).getD [] = if k = labK x then cutRow ((lookM rows (labK x)).getD []) id else (lookM rows k).getD [] := by
    unfold cutRow1
    split
    · rename_i h0
      rw [lookM_cutM hp, lookM_putM]
      split
      · simp [h0]
      · rfl
    · rw [lookM_putM]
      split <;> rfl
  rw [e]
  by_cases hk : k = labK x
  · subst hk
    simp [mem_cutRow]
  · rw [if_neg hk]
    simp [Ne.symm hk]
theorem add_spec (id : Int) (ls : List Lab) : ∀ {rows : List (LabK × List Int)}, RowsOk rows → RowsOk (addRows rows id ls) ∧ ∀ k j, j ∈ (lookM (addRows rows id ls) k).getD [] ↔ j ∈ (lookM rows k).getD [] ∨ j = id ∧ ∃ x ∈ ls, labK x = k := by
  induction ls with
  | nil => intro rows h; exact ⟨h, by simp [addRows]⟩
  | cons x ls ih =>
    intro rows h
    obtain ⟨h1, h2⟩ := ih (h.add1 id x)
    refine ⟨h1, fun k j => ?_⟩
    have := h2 k j
    rw [look_add1] at this
    rw [show addRows rows id (x :: ls) = addRows (addRow1 id rows x) id ls from rfl, this]
    constructor
    · rintro ((h | ⟨rfl, h⟩) | ⟨rfl, y, hy, h⟩)
      · exact .inl h
      · exact .inr ⟨rfl, x, by simp, h⟩
      · exact .inr ⟨rfl, y, by simp [hy], h⟩
    · rintro (h | ⟨rfl, y, hy, h⟩)
      · exact .inl (.inl h)
      · rcases List.mem_cons.1 hy with rfl | hy
        · exact .inl (.inr ⟨rfl, h⟩)
        · exact .inr ⟨rfl, y, hy, h⟩
theorem drop_spec (id : Int) (ls : List Lab) : ∀ {rows : List (LabK × List Int)}, RowsOk rows → RowsOk (dropRows rows id ls) ∧ ∀ k j, j ∈ (lookM (dropRows rows id ls) k).getD [] ↔ j ∈ (lookM rows k).getD [] ∧ ¬ (j = id ∧ ∃ x ∈ ls, labK x = k) := by
  induction ls with
  | nil => intro rows h; exact ⟨h, by simp [dropRows]⟩
  | cons x ls ih =>
    intro rows h
    obtain ⟨h1, h2⟩ := ih (h.cut1 id x)
    refine ⟨h1, fun k j => ?_⟩
    have := h2 k j
    rw [look_cut1 h] at this
    rw [show dropRows rows id (x :: ls) = dropRows (cutRow1 id rows x) id ls from rfl, this]
    constructor
    · rintro ⟨⟨a, b⟩, c⟩
      refine ⟨a, ?_⟩
      rintro ⟨rfl, y, hy, h⟩
      rcases List.mem_cons.1 hy with rfl | hy
      · exact b ⟨rfl, h⟩
      · exact c ⟨rfl, y, hy, h⟩
    · rintro ⟨a, b⟩
      exact ⟨⟨a, fun ⟨e, h⟩ => b ⟨e, x, by simp, h⟩⟩, fun ⟨e, y, hy, h⟩ => b ⟨e, y, by simp [hy], h⟩⟩

/-- An index as it is kept: who has labels, and by each label who has it. -/
structure IxI (has : List (Int × List Lab)) (rows : List (LabK × List Int)) : Prop where
  nd : (has.map (·.1)).Nodup
  ok : RowsOk rows
  mem : ∀ k id, id ∈ (lookM rows k).getD [] ↔ ∃ ls, (id, ls) ∈ has ∧ ∃ x ∈ ls, labK x = k
theorem IxI.nil : IxI [] [] := ⟨by simp, ⟨by simp, by simp⟩, by simp [lookM, placeM]⟩
theorem IxI.add {has : List (Int × List Lab)} {rows : List (LabK × List Int)} (h : IxI has rows) {id : Int} (hn : lookM has id = none) (ls : List Lab) : IxI (putM has id ls) (addRows rows id ls) := by
  obtain ⟨h1, h2⟩ := add_spec id ls h.ok
  refine ⟨putM_nodup h.nd, h1, fun k j => ?_⟩
  rw [h2, h.mem, putM_new hn]
  simp only [List.mem_append, List.mem_singleton, Prod.mk.injEq]
  constructor
  · rintro (⟨l, a, b⟩ | ⟨rfl, b⟩)
    · exact ⟨l, .inl a, b⟩
    · exact ⟨ls, .inr ⟨rfl, rfl⟩, b⟩
  · rintro ⟨l, a | ⟨rfl, rfl⟩, b⟩
    · exact .inl ⟨l, a, b⟩
    · exact .inr ⟨rfl, b⟩
theorem IxI.drop {has : List (Int × List Lab)} {rows : List (LabK × List Int)} (h : IxI has rows) (id : Int) : IxI (cutM has id) (dropRows rows id ((lookM has id).getD [])) := by
  obtain ⟨h1, h2⟩ := drop_spec id ((lookM has id).getD []) h.ok
  refine ⟨cutM_nodup h.nd, h1, fun k j => ?_⟩
  rw [h2, h.mem]
  constructor
  · rintro ⟨⟨l, a, b⟩, c⟩
    refine ⟨l, (mem_cutM h.nd).2 ⟨a, fun e => c ⟨e, ?_⟩⟩, b⟩
    simp only at e
    subst e
    rw [(lookM_iff h.nd).2 a]
    exact b
  · rintro ⟨l, a, b⟩
    obtain ⟨a1, a2⟩ := (mem_cutM h.nd).1 a
    exact ⟨⟨l, a1, b⟩, fun c => a2 c.1⟩
theorem IxI.keys {has : List (Int × List Lab)} {rows : List (LabK × List Int)} (h : IxI has rows) (k : LabK) : k ∈ rows.map (·.1) ↔ ∃ t ∈ has, ∃ x ∈ t.2, labK x = k := by
  constructor
  · intro hk
    obtain ⟨t, ht, rfl⟩ := List.mem_map.1 hk
    obtain ⟨_, hne⟩ := h.ok.row t ht
    obtain ⟨id, hid⟩ := List.exists_mem_of_ne_nil _ hne
    have hl : lookM rows t.1 = some t.2 := (lookM_iff h.ok.nd).2 ht
    obtain ⟨ls, a, b⟩ := (h.mem t.1 id).1 (by rw [hl]; exact hid)
    exact ⟨(id, ls), a, b⟩
  · rintro ⟨t, ht, hx⟩
    have hm := (h.mem k t.1).2 ⟨t.2, ht, hx⟩
    refine Classical.byContradiction fun hk => ?_
    rw [lookM_none.2 hk] at hm
    cases hm
/-- Its rows are as many as the labels that somebody has. -/
theorem IxI.len {has : List (Int × List Lab)} {rows : List (LabK × List Int)} (h : IxI has rows) {D : List Lab} (hD : D.Nodup) (hm : ∀ x, x ∈ D ↔ ∃ t ∈ has, x ∈ t.2) : rows.length = D.length := by
  have hinj : ∀ x y : Lab, labK x = labK y → x = y := fun x y e => by
    cases x; cases y
    simp only [labK, Prod.mk.injEq] at e
    obtain ⟨rfl, rfl⟩ := e
    rfl
  have hD' : (D.map labK).Nodup := by
    refine List.pairwise_map.2 (hD.imp fun {a b} hne e => hne (hinj a b e))
  have hp : (rows.map (·.1)).Perm (D.map labK) := (List.perm_ext_iff_of_nodup h.ok.nd hD').2 fun k => by
    rw [h.keys, List.mem_map]
    constructor
    · rintro ⟨t, ht, x, hx, e⟩
      exact ⟨x, (hm x).2 ⟨t, ht, hx⟩, e⟩
    · rintro ⟨x, hx, e⟩
      obtain ⟨t, ht, hx'⟩ := (hm x).1 hx
      exact ⟨t, ht, x, hx', e⟩
  simpa using hp.length_eq
end Go.Proofs.YtffbcfcoddacmaaGreat

