/- What arguments hold, more: strings, pairs of strings, numbers in slices. Nothing is assumed. -/
import Derived.Test.YtffbcfcoddacmaaGreatX10
set_option linter.unusedVariables false
namespace Go.X
open Go Go.RowKit Go.WideShapes Go.ChangeShapes
section
variable {H : Type} {enc : TypeId × Value → H} {P : Program} {W : World} {base : Nat} {sp : Nat → Bool} {held : Bool}
theorem trod_str {s m : Nat} {cs : List Value} {y : DataW H × List MemPlace} (hs : P.underlying s = some .string) (h : DataW.trod enc P W base sp held m s cs = some y) : ∃ a : ByteArray, cs = [.string a] ∧ a.size ≤ 9223372036854775807 := by
  cases m with
  | zero => simp [DataW.trod] at h
  | succ n =>
    unfold DataW.trod at h
    rw [hs] at h
    split at h <;> simp_all
    simp only [maxLen] at h
    omega
theorem trod_pair {t s m : Nat} {f0 f1 : Field} {cs : List Value} {y : DataW H × List MemPlace} (ht : P.underlying t = some (.struct #[f0, f1])) (hs : P.underlying s = some .string) (h0 : f0.type = s) (h1 : f1.type = s) (o0 : f0.offset = 0) (o1 : f1.offset = 1) (c1 : P.cellsOf s = 1) (c2 : P.cellsOf t = 2)
    (h : DataW.trod enc P W base sp held m t cs = some y) : ∃ a b : ByteArray, cs = [.string a, .string b] ∧ a.size ≤ 9223372036854775807 ∧ b.size ≤ 9223372036854775807 := by
  obtain ⟨xs, n, _, _, hl, hxl, hx⟩ := DataW.trod_struct ht h
  rw [c2] at hl
  match cs, hl with
  | [u, v], _ =>
    have e0 := hx 0 f0 (by simp)
    have e1 := hx 1 f1 (by simp)
    rw [h0, o0, c1] at e0
    rw [h1, o1, c1] at e1
    simp only [List.drop_zero, List.take_succ_cons, List.take_zero, List.drop_succ_cons] at e0 e1
    have hs2 : xs.length = 2 := by simpa using hxl
    rw [List.getElem?_eq_getElem (by omega)] at e0 e1
    obtain ⟨a, ha, la⟩ := trod_str hs e0
    obtain ⟨b, hb, lb⟩ := trod_str hs e1
    cases ha
    cases hb
    exact ⟨a, b, rfl, la, lb⟩
theorem trod_f64 {s m : Nat} {cs : List Value} {y : DataW H × List MemPlace} (hs : P.underlying s = some (.float .f64)) (h : DataW.trod enc P W base sp held m s cs = some y) : ∃ b : Nat, cs = [.float .f64 b] ∧ b < 18446744073709551616 := by
  cases m with
  | zero => simp [DataW.trod] at h
  | succ n =>
    unfold DataW.trod at h
    rw [hs] at h
    split at h <;> simp_all
    obtain ⟨⟨rfl, hw⟩, _⟩ := h
    subst_vars
    simpa [Lit.wf] using hw
theorem trod_i64 {s m : Nat} {cs : List Value} {y : DataW H × List MemPlace} (hs : P.underlying s = some (.int .i64)) (h : DataW.trod enc P W base sp held m s cs = some y) : ∃ b : Int, cs = [.int .i64 b] ∧ -9223372036854775808 ≤ b ∧ b ≤ 9223372036854775807 := by
  cases m with
  | zero => simp [DataW.trod] at h
  | succ n =>
    unfold DataW.trod at h
    rw [hs] at h
    split at h <;> simp_all
    obtain ⟨⟨rfl, hw⟩, _⟩ := h
    subst_vars
    simpa [Lit.wf, IntKind.min, IntKind.max, IntKind.signed, IntKind.bits] using hw
end
end Go.X
