/- AlertRanks: the plain law. -/
import Derived.Test.YtmghlfdejceieaaO
import Derived.Test.YtmghlfdejceieaaV
import Derived.Test.YtmghlfdejceieaaX12
set_option linter.unusedVariables false
set_option linter.unusedSimpArgs false
set_option maxHeartbeats 400000
set_option maxRecDepth 100000
namespace Go.Proofs.Ytmghlfdejceieaa
open Go Go.X

/-- Behind k posts of these values. -/
structure InvR (vs : List Nat) (k : Nat) (s : St) : Prop where
  most : s.most = 16
  last : s.last = k
  out : s.out.length = k
  labs : s.al.map (·.2.1) = (List.range k).map lsM
  ids : s.al.map (·.1) = (List.range k).map fun i => ((i + 1 : Nat) : Int)
  vals : s.al.map (·.2.2) = (vs.take k).map canS
theorem InvR.al {vs : List Nat} {k : Nat} {s : St} (h : InvR vs k s) : s.al.length = k := by have := congrArg List.length h.labs; simpa using this
theorem InvR.new (vs : List Nat) : InvR vs 0 (St.new 16) := ⟨by decide, rfl, rfl, rfl, rfl, by simp [St.new]⟩
theorem InvR.step {vs : List Nat} {k : Nat} {s : St} (h : InvR vs k s) (hk : k < 16) {v : Nat} (hv : vs[k]? = some v) : ∃ s', postS s (lsM k) v = (s', ((k + 1 : Nat) : Int), true, 0) ∧ InvR vs (k + 1) s' := by
  have his := lsM_is (k := k) (by omega)
  have hf : findS (s.al.map (·.2.1)) (lsM k) = none := by rw [h.labs]; exact find_none (by omega)
  have hfull : fullS s.most s.last s.out = false := decide_eq_false (by rw [h.most, h.last, h.out]; omega)
  have hl := h.last
  have ho := h.out
  have hkv : k < vs.length := (List.getElem?_eq_some_iff.1 hv).1
  unfold postS
  rw [if_neg (by simp [his]), hf]
  refine ⟨_, by simp only [hfull, Bool.false_eq_true, if_false, Prod.mk.injEq, and_true]; exact ⟨rfl, by rw [hl]; simp⟩, ?_⟩
  refine ⟨h.most, by simp [hl], by simp [ho], ?_, ?_, ?_⟩
  · simp [h.labs, List.range_succ]
  · simp only [List.map_append, h.ids, List.range_succ, List.map_cons, List.map_nil, hl]
    simp
  · simp only [List.map_append, h.vals, List.map_cons, List.map_nil]
    rw [List.take_succ_eq_append_getElem hkv]
    simp [(List.getElem?_eq_some_iff.1 hv).2]

/-! ### the rank -/
theorem cmpI_neg {a b : Int} : cmpI a b < 0 ↔ a < b := by unfold cmpI; split <;> (try split) <;> omega
/-- Not behind: what stands ahead is a number where the other is a NaN, or both are alike and its key is not less. -/
theorem not_ahead {a b : Nat} (h : ¬ rankS b a < 0) : (nanS a = nanS b ∧ keyS b ≤ keyS a) ∨ (nanS a = false ∧ nanS b = true) := by
  unfold rankS at h
  by_cases e : nanS b = nanS a
  · rw [if_pos e, cmpI_neg] at h
    exact .inl ⟨e.symm, by omega⟩
  · rw [if_neg e] at h
    cases hb : nanS b with
    | false => rw [hb] at h; simp at h
    | true => cases ha : nanS a with
      | false => exact .inr ⟨rfl, rfl⟩
      | true => rw [ha, hb] at e; exact absurd rfl e
theorem rank_total (a b : Nat) (h : rankS a b < 0) : ¬ rankS b a < 0 := by
  unfold rankS at *
  by_cases e : nanS a = nanS b
  · rw [if_pos e, cmpI_neg] at h
    rw [if_pos e.symm, cmpI_neg]; omega
  · rw [if_neg e] at h
    rw [if_neg (Ne.symm e)]
    cases ha : nanS a with
    | true => rw [ha] at h; simp at h
    | false =>
      cases hb : nanS b with
      | false => rw [ha, hb] at e; exact absurd rfl e
      | true => simp
theorem rank_trans {a b c : Nat} (h1 : ¬ rankS b a < 0) (h2 : ¬ rankS c b < 0) : ¬ rankS c a < 0 := by
  have h3 := not_ahead h1
  have h4 := not_ahead h2
  intro h5
  unfold rankS at h5
  rcases h3 with ⟨e1, k1⟩ | ⟨e1, e1'⟩
  · rcases h4 with ⟨e2, k2⟩ | ⟨e2, e2'⟩
    · rw [if_pos (by rw [← e2, ← e1]), cmpI_neg] at h5; omega
    · rw [if_neg (by rw [e2', e1, e2]; decide), e2'] at h5; simp at h5
  · rcases h4 with ⟨e2, k2⟩ | ⟨e2, e2'⟩
    · rw [if_neg (by rw [← e2, e1', e1]; decide), ← e2, e1'] at h5; simp at h5
    · rw [e2] at e1'; cases e1'
/-- Sorted: of any two the earlier is not behind. -/
def Srt (vs : List Nat) (L : List Nat) : Prop := L.Pairwise fun x y => ¬ rankS (vs.getD y 0) (vs.getD x 0) < 0
theorem insE_srt {vs : List Nat} {x : Nat} : ∀ {L : List Nat}, Srt vs L → Srt vs (insE (ahead vs) L x) := by
  intro L hL
  -- L is cut where x goes: what is behind is behind x, what is ahead is not
  obtain ⟨A, D, rfl, hD, hA⟩ : ∃ A D, L = A ++ D ∧ (∀ y ∈ D, ahead vs x y = true) ∧ (∀ A' y, A = A' ++ [y] → ahead vs x y = false) := by
    refine ⟨(L.reverse.dropWhile (ahead vs x)).reverse, (L.reverse.takeWhile (ahead vs x)).reverse, ?_, ?_, ?_⟩
    · rw [← List.reverse_append, List.takeWhile_append_dropWhile, List.reverse_reverse]
    · intro y hy
      exact List.all_eq_true.1 (List.all_takeWhile (p := ahead vs x) (l := L.reverse)) y (by simpa using hy)
    · intro A' y h
      have h2 : L.reverse.dropWhile (ahead vs x) = y :: A'.reverse := by have := congrArg List.reverse h; simpa using this
      have := List.head_dropWhile_not (ahead vs x) (l := L.reverse) (by rw [h2]; simp)
      simpa [h2] using this
  rw [insE_split hD hA]
  unfold Srt at *
  rw [List.pairwise_append] at hL ⊢
  obtain ⟨h1, h2, h3⟩ := hL
  refine ⟨h1, ?_, fun a ha b hb => ?_⟩
  · rw [List.pairwise_cons]
    exact ⟨fun b hb => rank_total _ _ (of_decide_eq_true (hD b hb)), h2⟩
  · rcases List.mem_cons.1 hb with rfl | hb
    · rcases List.eq_nil_or_concat A with rfl | ⟨A', y, rfl⟩
      · simp at ha
      · have hy : ¬ rankS (vs.getD b 0) (vs.getD y 0) < 0 := of_decide_eq_false (hA A' y (by simp))
        simp only [List.concat_eq_append] at h1 ha
        rw [List.pairwise_append] at h1
        rcases List.mem_append.1 ha with ha | ha
        · exact rank_trans (h1.2.2 a ha y (by simp)) hy
        · simp at ha; subst ha; exact hy
    · exact h3 a ha b hb
theorem isort_srt (vs : List Nat) (xs : List Nat) : Srt vs (isort (ahead vs) xs) := by
  have : ∀ xs L : List Nat, Srt vs L → Srt vs (xs.foldl (insE (ahead vs)) L) := by
    intro xs
    induction xs with
    | nil => intro L h; exact h
    | cons x xs ih => intro L h; exact ih _ (insE_srt h)
  exact this xs [] List.Pairwise.nil
end Go.Proofs.Ytmghlfdejceieaa

