/- Slices cut. Nothing is assumed. -/
import Derived.Test.YtffbcfcoddacmaaGreatX8
set_option linter.unusedVariables false
set_option linter.unusedSimpArgs false
namespace Go.X
open Go Go.RowKit
section
variable {P : Program} {n : Nat} {e : Env} {w : World} {C : World → Prop}
/-- Where x[m:] begins. -/
def fromAt (ad : Option Addr) (cap m sz : Nat) : Option Addr := ad.map fun a => if cap = m then a else a.add (m * sz)
theorem Yld.sliceFrom {d : Option Tmp} {t el : Nat} {x h : Operand} {ty : TypeId} {pos : String} {af : Array Edge} {g : Option (Nat × Bool)} (hT : SlT P t el) {z : Value} {sz by' : Nat} (hE : TI P el z sz by') {ad : Option Addr} {len cap m : Nat} {k : IntKind} (hx : ev e x = some (.slice ad len cap)) (hh : ev e h = some (.int k (m : Int))) (hm : m ≤ len) :
    Yld P n C e ⟨d, .slice t x (some h) none none, ty, pos, af, g⟩ (.slice (fromAt ad cap m sz) (len - m) (cap - m)) := by
  intro a ha w _
  have h1 : (m : Int) ≤ len := by omega
  cases ad with
  | none => simp [execOp, ha.ev hx, ha.ev hh, Instr.sliceAt, Instr.slice, run_underlying hT, Instr.sliceBounds, Instr.sliceBound, asIntOf, hE.sizeOf w, h1, hm, fromAt]
  | some ad => by_cases hcm : cap = m <;> simp [execOp, ha.ev hx, ha.ev hh, Instr.sliceAt, Instr.slice, run_underlying hT, Instr.sliceBounds, Instr.sliceBound, asIntOf, hE.sizeOf w, h1, hm, hcm, fromAt]
end
theorem Sl.take {M : Nat → Prop} {w : World} {ad : Option Addr} {n c : Nat} {cs : List Value} (h : Sl M w (.slice ad n c) 1 n cs) {j : Nat} (hj : j ≤ n) : Sl M w (.slice ad j c) 1 j (cs.take j) := by
  have hl := h.len
  have hb := h.big
  obtain ⟨ad', c', he, hf⟩ := h.form
  cases he
  refine ⟨by simp; omega, by omega, _, _, rfl, fun h0 => ?_⟩
  obtain ⟨b, o, ha, hM, hc⟩ := hf (by omega)
  refine ⟨b, o, ha, hM, fun i u hi => hc i u ?_⟩
  rw [List.getElem?_take] at hi
  split at hi
  · exact hi
  · cases hi
theorem Sl.from {M : Nat → Prop} {w : World} {ad : Option Addr} {n c : Nat} {cs : List Value} (h : Sl M w (.slice ad n c) 1 n cs) {j : Nat} (hj : j ≤ n) (hnc : n ≤ c) : Sl M w (.slice (fromAt ad c j 1) (n - j) (c - j)) 1 (n - j) (cs.drop j) := by
  have hl := h.len
  have hb := h.big
  obtain ⟨ad', c', he, hf⟩ := h.form
  cases he
  refine ⟨by simp; omega, by omega, _, _, rfl, fun h0 => ?_⟩
  obtain ⟨b, o, rfl, hM, hc⟩ := hf (by omega)
  refine ⟨b, o + j, ?_, hM, fun i u hi => ?_⟩
  · have : ¬ c = j := by omega
    simp [fromAt, this, add_none]
  · rw [List.getElem?_drop] at hi
    rw [Nat.add_assoc]
    exact hc _ u hi
theorem Row.cap {w : World} {t : TypeId} {sz : Nat} {v : Value} {k : Nat} {xs : List Value} (h : Row w t sz v k xs) : ∃ ad c, v = .slice ad k c ∧ k ≤ c := by
  rcases h.2 with ⟨rfl, rfl⟩ | ⟨g, cap, cur, rfl, _, _, hnc, _⟩
  · exact ⟨_, _, rfl, Nat.le_refl _⟩
  · exact ⟨_, _, rfl, hnc⟩
end Go.X
