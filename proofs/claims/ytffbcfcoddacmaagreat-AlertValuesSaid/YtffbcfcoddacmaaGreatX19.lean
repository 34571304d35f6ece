/- Arrays' elements; slices cut, of whatever cells. Nothing is assumed. -/
import Derived.Test.YtffbcfcoddacmaaGreatX18
set_option linter.unusedVariables false
set_option linter.unusedSimpArgs false
namespace Go.X
open Go Go.RowKit
section
variable {P : Program} {n : Nat} {e : Env} {w : World} {C : World → Prop}
theorem Yld.idxArr {d : Option Tmp} {t el len : Nat} {x i : Operand} {ty : TypeId} {pos : String} {af : Array Edge} {g : Option (Nat × Bool)} (hT : P.underlying t = some (.array len el)) {z : Value} {by' : Nat} (hE : TI P el z 1 by') (hP : Plain P el) {cs : Array Value} {k : IntKind} {q : Nat} (hx : ev e x = some (.agg cs)) (hi : ev e i = some (.int k (q : Int))) (hq : q < len) {v : Value} (hv : cs[q]? = some v) :
    Yld P n C e ⟨d, .index t x i, ty, pos, af, g⟩ v := by
  intro a ha w _
  have h1 : (q : Int) < len := by omega
  simp [execOp, ha.ev hx, ha.ev hi, Instr.index, asIntOf, run_underlying hT, hq, hE.sizeOf w, part, hP w, hv]
end
theorem Sl.takeN {M : Nat → Prop} {w : World} {sz : Nat} {ad : Option Addr} {n c : Nat} {cs : List Value} (h : Sl M w (.slice ad n c) sz n cs) {j : Nat} (hj : j ≤ n) : Sl M w (.slice ad j c) sz j (cs.take (j * sz)) := by
  have hl := h.len
  have hb := h.big
  have hm : j * sz ≤ n * sz := Nat.mul_le_mul_right _ hj
  obtain ⟨ad', c', he, hf⟩ := h.form
  cases he
  refine ⟨by rw [List.length_take]; omega, by omega, _, _, rfl, fun h0 => ?_⟩
  obtain ⟨b, o, ha, hM, hc⟩ := hf (by omega)
  refine ⟨b, o, ha, hM, fun i u hi => hc i u ?_⟩
  rw [List.getElem?_take] at hi
  split at hi
  · exact hi
  · cases hi
theorem Sl.fromN {M : Nat → Prop} {w : World} {sz : Nat} {ad : Option Addr} {n c : Nat} {cs : List Value} (h : Sl M w (.slice ad n c) sz n cs) {j : Nat} (hj : j ≤ n) (hnc : n ≤ c) : Sl M w (.slice (fromAt ad c j sz) (n - j) (c - j)) sz (n - j) (cs.drop (j * sz)) := by
  have hl := h.len
  have hb := h.big
  obtain ⟨ad', c', he, hf⟩ := h.form
  cases he
  refine ⟨by rw [List.length_drop, hl, Nat.sub_mul], by omega, _, _, rfl, fun h0 => ?_⟩
  obtain ⟨b, o, rfl, hM, hc⟩ := hf (by omega)
  refine ⟨b, o + j * sz, ?_, hM, fun i u hi => ?_⟩
  · have : ¬ c = j := by omega
    simp [fromAt, this, add_none]
  · rw [List.getElem?_drop] at hi
    rw [Nat.add_assoc]
    exact hc _ u hi
/-- Lists of things of so many cells, cut. -/
theorem Sl.takeF {α : Type} {f : α → List Value} {M : Nat → Prop} {w : World} {sz : Nat} (hf : ∀ x, (f x).length = sz) {ad : Option Addr} {c : Nat} {xs : List α} (h : Sl M w (.slice ad xs.length c) sz xs.length (xs.flatMap f)) {j : Nat} (hj : j ≤ xs.length) : Sl M w (.slice ad j c) sz j ((xs.take j).flatMap f) := by
  have := h.takeN hj
  rwa [flat_take f sz hf] at this
theorem Sl.fromF {α : Type} {f : α → List Value} {M : Nat → Prop} {w : World} {sz : Nat} (hf : ∀ x, (f x).length = sz) {ad : Option Addr} {c : Nat} {xs : List α} (h : Sl M w (.slice ad xs.length c) sz xs.length (xs.flatMap f)) {j : Nat} (hj : j ≤ xs.length) (hnc : xs.length ≤ c) : Sl M w (.slice (fromAt ad c j sz) (xs.length - j) (c - j)) sz (xs.length - j) ((xs.drop j).flatMap f) := by
  have := h.fromN hj hnc
  rwa [flat_drop f sz hf] at this
/-- What is read by the way, whatever the store does. -/
theorem Sl.pass {M M' : Nat → Prop} {w w' : World} {v : Value} {sz n : Nat} {cs : List Value} (h : Sl M w v sz n cs) (hsz : 0 < sz) (hm : Mod M w w') (hM : ∀ b, M' b → M b ∨ w.heap.size ≤ b) : Sl M' w' v sz n cs := by
  have h1 : Sl (fun b => M b ∨ M' b) w v sz n cs := h.off hsz (fun b hb e => by
    rcases e with e | e
    · exact e
    · rcases hM b e with h2 | h2
      · exact h2
      · omega)
  exact (h1.mod (hm.mono fun b _ e => .inl e)).off hsz (fun b _ e => .inr e)
end Go.X
