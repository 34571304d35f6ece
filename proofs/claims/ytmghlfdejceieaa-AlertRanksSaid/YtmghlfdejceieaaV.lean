/- AlertMost: as many fire as may. -/
import Derived.Test.YtmghlfdejceieaaU
set_option linter.unusedVariables false
set_option linter.unusedSimpArgs false
set_option maxHeartbeats 400000
set_option maxRecDepth 100000
namespace Go.Proofs.Ytmghlfdejceieaa
open Go Go.X

def labM (k : Nat) : Lab := ⟨⟨#[97]⟩, mkS [((97 + k : Nat) : Int)]⟩
def lsM (k : Nat) : List Lab := [labM k]
theorem lsM_all : ((List.range 17).all fun k => isS (lsM k) && (List.range 17).all fun j => decide (j = k) || !decide (lsM j = lsM k) && !decide (labK (labM j) = labK (labM k))) = true := by kernel_rfl
theorem lsM_is {k : Nat} (h : k < 17) : isS (lsM k) = true := by
  have := List.all_eq_true.1 lsM_all k (List.mem_range.2 h)
  simp only [Bool.and_eq_true] at this
  exact this.1
theorem lsM_ne {k j : Nat} (h : k < 17) (hj : j < 17) (hn : j ≠ k) : lsM j ≠ lsM k ∧ labK (labM j) ≠ labK (labM k) := by
  have := List.all_eq_true.1 lsM_all k (List.mem_range.2 h)
  simp only [Bool.and_eq_true] at this
  have h2 := List.all_eq_true.1 this.2 j (List.mem_range.2 hj)
  simp only [decide_eq_false hn, Bool.false_or, Bool.and_eq_true, Bool.not_eq_true', decide_eq_false_iff_not] at h2
  exact h2
/-- Behind k posts. -/
structure InvM (T k : Nat) (s : St) : Prop where
  most : s.most = T
  last : s.last = k
  out : s.out.length = k
  labs : s.al.map (·.2.1) = (List.range k).map lsM
  one : 0 < k → (s.al[0]?).map (·.1) = some 1
  rows : s.rows.map (·.1) = (List.range k).map fun i => labK (labM i)
theorem InvM.al {T k : Nat} {s : St} (h : InvM T k s) : s.al.length = k := by have := congrArg List.length h.labs; simpa using this
theorem InvM.rl {T k : Nat} {s : St} (h : InvM T k s) : s.rows.length = k := by have := congrArg List.length h.rows; simpa using this
theorem capS_nat (m : Int) : ∃ T : Nat, capS m = T ∧ 1 ≤ T ∧ T ≤ 16 := ⟨(capS m).toNat, by unfold capS; split <;> omega⟩
theorem InvM.new {m : Int} {T : Nat} (h : capS m = T) : InvM T 0 (St.new m) := ⟨h, rfl, rfl, rfl, fun h => by omega, rfl⟩
theorem find_none {k : Nat} (h : k < 17) : findS ((List.range k).map lsM) (lsM k) = none := by
  unfold findS
  rw [List.findIdx?_eq_none_iff]
  intro x hx
  simp only [List.mem_map, List.mem_range] at hx
  obtain ⟨j, hj, rfl⟩ := hx
  exact decide_eq_false (lsM_ne h (by omega) (by omega)).1
theorem InvM.step {T k : Nat} {s : St} (h : InvM T k s) (hT : T ≤ 16) (hk : k ≤ T) (v : Nat) : ∃ s', postS s (lsM k) v = (s', (if k < T then ((k + 1 : Nat) : Int) else 0), decide (k < T), if k < T then 0 else 10) ∧ InvM T (if k < T then k + 1 else k) s' := by
  have his := lsM_is (k := k) (by omega)
  have hf : findS (s.al.map (·.2.1)) (lsM k) = none := by rw [h.labs]; exact find_none (by omega)
  unfold postS
  rw [if_neg (by simp [his]), hf]
  by_cases hkT : k < T
  · have hfull : fullS s.most s.last s.out = false := decide_eq_false (by rw [h.most, h.last, h.out]; omega)
    have hl := h.last
    have ho := h.out
    refine ⟨_, by simp only [hfull, hkT, if_true, Bool.false_eq_true, if_false, decide_true, Prod.mk.injEq, and_true, true_and]; exact ⟨rfl, by rw [hl]; simp⟩, ?_⟩
    rw [if_pos hkT]
    refine ⟨h.most, by simp [hl], by simp [ho], ?_, fun _ => ?_, ?_⟩
    · simp [h.labs, List.range_succ]
    · by_cases hk0 : k = 0
      · have : s.al = [] := List.eq_nil_of_length_eq_zero (by rw [h.al, hk0])
        simp [this, hl, hk0]
      · have := h.one (by omega)
        simp only
        rw [List.getElem?_append_left (by rw [h.al]; omega)]
        exact this
    · simp only [addRows, lsM, List.foldl_cons, List.foldl_nil, addRow1]
      rw [putM_keys, h.rows, if_neg, List.range_succ, List.map_append, List.map_cons, List.map_nil]
      intro hm
      simp only [List.mem_map, List.mem_range] at hm
      obtain ⟨j, hj, he⟩ := hm
      exact (lsM_ne (k := k) (j := j) (by omega) (by omega) (by omega)).2 he
  · have hfull : fullS s.most s.last s.out = true := decide_eq_true (by rw [h.most, h.out]; omega)
    exact ⟨s, by simp [hfull, hkT], by rw [if_neg hkT]; exact h⟩
theorem lsM0 : lsA 97 = lsM 0 := by kernel_rfl
/-- One that fires is posted on. -/
theorem InvM.again {T : Nat} {s : St} (h : InvM T T s) (h1 : 1 ≤ T) (v : Nat) : ∃ s', postS s (lsA 97) v = (s', 1, false, 0) ∧ s'.al.length = T ∧ s'.rows.length = T := by
  have hf : findS (s.al.map (·.2.1)) (lsM 0) = some 0 := by
    rw [h.labs]
    obtain ⟨j, rfl⟩ : ∃ j, T = j + 1 := ⟨T - 1, by omega⟩
    rw [List.range_succ_eq_map]
    simp [findS, List.findIdx?_cons]
  rw [lsM0]
  unfold postS
  rw [if_neg (by rw [lsM_is (by omega)]; simp), hf]
  exact ⟨{ s with al := s.al.modify 0 fun a => (a.1, a.2.1, canS v) }, by simp only [h.one h1, Option.getD_some], by simp [h.al], h.rl⟩
end Go.Proofs.Ytmghlfdejceieaa

