/- Rows of numbers: what is in them, that they rise; the document's own are the same. -/
import Derived.Test.YtffbcfcoddacmaaGreatO
set_option linter.unusedVariables false
set_option linter.unusedSimpArgs false
set_option maxHeartbeats 400000
set_option maxRecDepth 100000
namespace Go.Proofs.YtffbcfcoddacmaaGreat
open Go Go.X

abbrev Ris (l : List Int) : Prop := l.Pairwise fun x y => x < y
theorem Ris.nodup {l : List Int} (h : Ris l) : l.Nodup := List.Pairwise.imp (fun h e => by omega) h
theorem ext_ris {l1 l2 : List Int} (h1 : Ris l1) (h2 : Ris l2) (h : ∀ x, x ∈ l1 ↔ x ∈ l2) : l1 = l2 := by
  have hp : l1.Perm l2 := (List.perm_ext_iff_of_nodup h1.nodup h2.nodup).2 h
  exact List.Perm.eq_of_pairwise (le := fun a b => a < b) (fun a b _ _ h1 h2 => by omega) h1 h2 hp
theorem compactUpTo_mem (d : Array Int) : ∀ m, m ≤ d.size → ∀ x, x ∈ Lib.compactUpTo d m ↔ ∃ j, j < m ∧ d[j]! = x := by
  intro m
  induction m with
  | zero => intro _ x; simp [Lib.compactUpTo]
  | succ m ih =>
    intro hm x
    rw [Lib.compactUpTo_succ, List.mem_append, ih (by omega)]
    constructor
    · rintro (⟨j, hj, e⟩ | h)
      · exact ⟨j, by omega, e⟩
      · split at h
        · simp at h; exact ⟨m, by omega, h.symm⟩
        · simp at h
    · rintro ⟨j, hj, e⟩
      by_cases hjm : j = m
      · subst hjm
        cases hk : Lib.keeps d j with
        | true => right; simp [e]
        | false =>
          left
          simp only [Lib.keeps, decide_eq_false_iff_not, not_or, Decidable.not_not] at hk
          exact ⟨j - 1, by omega, by rw [← hk.2]; exact e⟩
      · exact .inl ⟨j, by omega, e⟩
theorem mem_compact (zs : List Int) (x : Int) : x ∈ Lib.compact zs ↔ x ∈ zs := by
  unfold Lib.compact
  rw [compactUpTo_mem _ _ (by simp)]
  constructor
  · rintro ⟨j, hj, e⟩
    have : zs.toArray[j]! = zs[j] := by simp [hj]
    rw [this] at e; subst e; exact List.getElem_mem _
  · intro h
    obtain ⟨j, hj, e⟩ := List.getElem_of_mem h
    exact ⟨j, hj, by simp [hj, e]⟩
theorem compact_ris (zs : List Int) (h : zs.Pairwise fun x y => x ≤ y) : Ris (Lib.compact zs) := by
  unfold Lib.compact
  have key : ∀ m, m ≤ zs.length → Ris (Lib.compactUpTo zs.toArray m) := by
    intro m
    induction m with
    | zero => intro _; simp [Lib.compactUpTo]
    | succ m ih =>
      intro hm
      rw [Lib.compactUpTo_succ]
      refine List.pairwise_append.2 ⟨ih (by omega), by split <;> simp, fun a ha b hb => ?_⟩
      obtain ⟨j, hj, rfl⟩ := (compactUpTo_mem _ m (by simp; omega) a).1 ha
      split at hb
      · rename_i hk
        have hb := List.mem_singleton.1 hb
        subst hb
        simp only [Lib.keeps, decide_eq_true_eq] at hk
        have e1 : ∀ i, (hi : i < zs.length) → zs.toArray[i]! = zs[i] := fun i hi => by simp [hi]
        rcases hk with rfl | hk
        · omega
        · rw [e1 m (by omega), e1 (m - 1) (by omega)] at hk
          rw [e1 j (by omega), e1 m (by omega)]
          have hle := List.pairwise_iff_getElem.1 h
          have h2 := hle (m - 1) m (by omega) (by omega) (by omega)
          by_cases hjm : j = m - 1
          · subst hjm; omega
          · have h3 := hle j (m - 1) (by omega) (by omega) (by omega)
            omega
      · simp at hb
  exact key _ (Nat.le_refl _)
theorem sortI_le (xs : List Int) : (sortI xs).Pairwise fun x y => x ≤ y := by
  have := List.pairwise_mergeSort (le := fun x y : Int => decide (x ≤ y)) (fun a b c h1 h2 => by simp only [decide_eq_true_eq] at *; omega) (fun a b => by simp only [Bool.or_eq_true, decide_eq_true_eq]; omega) xs
  exact this.imp fun h => by simpa using h
theorem mem_mkRow {xs : List Int} {x : Int} : x ∈ mkRow xs ↔ x ∈ xs := by
  unfold mkRow
  rw [mem_compact]
  simp [sortI]
theorem mkRow_ris (xs : List Int) : Ris (mkRow xs) := compact_ris _ (sortI_le xs)
theorem mkRow_id {xs : List Int} (h : Ris xs) : mkRow xs = xs := ext_ris (mkRow_ris xs) h fun _ => mem_mkRow
theorem pos_cut (x : Int) (L : List Int) : ∃ A T, L = A ++ T ∧ pos ltI x L = A.length ∧ (∀ y ∈ T, x < y) ∧ ∀ A' y, A = A' ++ [y] → ¬ x < y := by
  have e : L = (L.reverse.dropWhile (ltI x)).reverse ++ (L.reverse.takeWhile (ltI x)).reverse := by
    rw [← List.reverse_append, List.takeWhile_append_dropWhile, List.reverse_reverse]
  refine ⟨(L.reverse.dropWhile (ltI x)).reverse, (L.reverse.takeWhile (ltI x)).reverse, e, ?_, fun y hy => ?_, fun A' y h => ?_⟩
  · have h1 := congrArg List.length e
    unfold pos
    simp only [List.length_append, List.length_reverse] at h1 ⊢
    omega
  · exact of_decide_eq_true (List.all_eq_true.1 (List.all_takeWhile (p := ltI x) (l := L.reverse)) y (by simpa using hy))
  · have h2 : L.reverse.dropWhile (ltI x) = y :: A'.reverse := by have := congrArg List.reverse h; simpa using this
    have := List.head_dropWhile_not (ltI x) (l := L.reverse) (by rw [h2]; simp)
    simpa [h2, ltI] using this
theorem pos_spec (x : Int) (L : List Int) : pos ltI x L ≤ L.length ∧ (∀ y ∈ L.drop (pos ltI x L), x < y) ∧ ∀ y, 0 < pos ltI x L → L[pos ltI x L - 1]? = some y → ¬ x < y := by
  obtain ⟨A, T, rfl, hp, hT, hA⟩ := pos_cut x L
  refine ⟨Nat.sub_le _ _, fun y hy => ?_, fun y h0 hy => ?_⟩
  · rw [hp, List.drop_left] at hy; exact hT y hy
  · rw [hp] at hy h0
    rcases List.eq_nil_or_concat A with rfl | ⟨A', z, rfl⟩
    · simp at h0
    · rw [List.concat_eq_append] at hy hA
      rw [List.getElem?_append_left (by simp)] at hy
      simp at hy
      subst hy
      exact hA A' z rfl
theorem insR_mem {L : List Int} {x y : Int} : y ∈ insR L x ↔ y ∈ L ∨ y = x := by
  unfold insR
  split
  · rename_i h
    have := List.mem_of_getElem? h.2
    constructor
    · exact .inl
    · rintro (h | rfl) <;> assumption
  · have : y ∈ L ↔ y ∈ L.take (pos ltI x L) ∨ y ∈ L.drop (pos ltI x L) := by rw [← List.mem_append, List.take_append_drop]
    rw [this, List.mem_append, List.mem_cons]
    constructor
    · rintro (h | h | h) <;> simp [h]
    · rintro ((h | h) | h) <;> simp [h]
theorem insR_ris {L : List Int} (x : Int) (hL : Ris L) : Ris (insR L x) := by
  obtain ⟨h1, h2, h3⟩ := pos_spec x L
  unfold insR
  split
  · exact hL
  · rename_i hn
    generalize pos ltI x L = j at *
    have hs : Ris (L.take j ++ L.drop j) := by rw [List.take_append_drop]; exact hL
    obtain ⟨a1, a2, a3⟩ := List.pairwise_append.1 hs
    refine List.pairwise_append.2 ⟨a1, List.pairwise_cons.2 ⟨h2, a2⟩, fun a ha b hb => ?_⟩
    have hax : a < x := by
      obtain ⟨i, hi, rfl⟩ := List.getElem_of_mem ha
      simp at hi
      have hj0 : 0 < j := by omega
      have hlast : L[j - 1]? = some (L[j - 1]'(by omega)) := List.getElem?_eq_getElem (by omega)
      have h4 := h3 _ hj0 hlast
      have h5 : L[j - 1]'(by omega) ≠ x := fun e => hn ⟨hj0, by rw [hlast, e]⟩
      rw [List.getElem_take]
      by_cases e : i = j - 1
      · subst e; omega
      · have := List.pairwise_iff_getElem.1 hL i (j - 1) (by omega) (by omega) (by omega)
        omega
    rcases List.mem_cons.1 hb with rfl | hb
    · exact hax
    · have := h2 b hb; omega
theorem rise_spec (xs : List Int) : Ris (rise xs) ∧ ∀ y, y ∈ rise xs ↔ y ∈ xs := by
  have key : ∀ (xs L : List Int), Ris L → Ris (xs.foldl insR L) ∧ ∀ y, y ∈ xs.foldl insR L ↔ y ∈ L ∨ y ∈ xs := by
    intro xs
    induction xs with
    | nil => intro L h; simp [h]
    | cons x xs ih =>
      intro L h
      obtain ⟨h1, h2⟩ := ih (insR L x) (insR_ris x h)
      refine ⟨h1, fun y => ?_⟩
      rw [List.foldl_cons, h2, insR_mem, List.mem_cons]
      constructor
      · rintro ((h | h) | h) <;> simp [h]
      · rintro (h | h | h) <;> simp [h]
  obtain ⟨h1, h2⟩ := key xs [] List.Pairwise.nil
  exact ⟨h1, fun y => by rw [show rise xs = xs.foldl insR [] from rfl, h2]; simp⟩
theorem rise_ris (xs : List Int) : Ris (rise xs) := (rise_spec xs).1
theorem mem_rise {xs : List Int} {y : Int} : y ∈ rise xs ↔ y ∈ xs := (rise_spec xs).2 y
theorem rise_mkRow (xs : List Int) : rise xs = mkRow xs := ext_ris (rise_ris xs) (mkRow_ris xs) fun x => by rw [mem_rise, mem_mkRow]
theorem rise_id {xs : List Int} (h : Ris xs) : rise xs = xs := by rw [rise_mkRow, mkRow_id h]
end Go.Proofs.YtffbcfcoddacmaaGreat

