/- Shifts, quotients, words of bits. Nothing is assumed. -/
import Derived.Test.YtffbcfcoddacmaaGreatX16
set_option linter.unusedVariables false
set_option linter.unusedSimpArgs false
namespace Go.X
open Go Go.RowKit
section
variable {P : Program} {n : Nat} {e : Env} {w : World} {C : World → Prop}
theorem wrap_u64 {x : Nat} (h : x < 18446744073709551616) : IntKind.u64.wrap (x : Int) = x := by rw [IntKind.wrap_u64]; omega
theorem wrap_u8 {x : Nat} (h : x < 256) : IntKind.u8.wrap (x : Int) = x := by
  have : IntKind.u8.wrap (x : Int) = (x : Int) % 256 := by rfl
  rw [this]; omega
theorem u64_and {a b : Nat} (ha : a < 18446744073709551616) (hb : b < 18446744073709551616) : IntKind.u64.wrap ((BitVec.ofInt 64 (a : Int) &&& BitVec.ofInt 64 (b : Int)).toNat : Int) = ((a &&& b : Nat) : Int) := by
  have e1 : (BitVec.ofInt 64 (a : Int)).toNat = a := by rw [BitVec.toNat_ofInt]; omega
  have e2 : (BitVec.ofInt 64 (b : Int)).toNat = b := by rw [BitVec.toNat_ofInt]; omega
  rw [BitVec.toNat_and, e1, e2]
  have : a &&& b ≤ a := Nat.and_le_left
  exact wrap_u64 (by omega)
theorem u64_or {a b : Nat} (ha : a < 18446744073709551616) (hb : b < 18446744073709551616) : IntKind.u64.wrap ((BitVec.ofInt 64 (a : Int) ||| BitVec.ofInt 64 (b : Int)).toNat : Int) = ((a ||| b : Nat) : Int) := by
  have e1 : (BitVec.ofInt 64 (a : Int)).toNat = a := by rw [BitVec.toNat_ofInt]; omega
  have e2 : (BitVec.ofInt 64 (b : Int)).toNat = b := by rw [BitVec.toNat_ofInt]; omega
  rw [BitVec.toNat_or, e1, e2]
  have : a ||| b < 2 ^ 64 := Nat.or_lt_two_pow (by omega) (by omega)
  exact wrap_u64 (by omega)
theorem Yld.shr {d : Option Tmp} {t : Nat} {x y : Operand} {t' ty : TypeId} {pos : String} {af : Array Edge} {g : Option (Nat × Bool)} {k k' : IntKind} {a s : Nat} (hx : ev e x = some (.int k (a : Int))) (hy : ev e y = some (.int k' (s : Int))) (hs : s ≤ k.bits) :
    Yld P n C e ⟨d, .binOp .shr t x y t', ty, pos, af, g⟩ (.int k ((a >>> s : Nat) : Int)) := by
  intro ac ha w _
  have h0 : ¬ ((s : Int) < 0) := by omega
  have h1 : min s k.bits = s := Nat.min_eq_left hs
  have h2 : (a : Int).fdiv (2 ^ s) = ((a >>> s : Nat) : Int) := by
    rw [Nat.shiftRight_eq_div_pow, Int.fdiv_eq_ediv_of_nonneg _ (by exact Int.le_of_lt (Int.pow_pos (by decide)))]
    simp
  simp [execOp, ha.ev hx, ha.ev hy, eqGuard, binOp, Op.shift, h0, h1]
  simpa using h2
theorem Yld.shl {d : Option Tmp} {t : Nat} {x y : Operand} {t' ty : TypeId} {pos : String} {af : Array Edge} {g : Option (Nat × Bool)} {k k' : IntKind} {a s : Nat} (hx : ev e x = some (.int k (a : Int))) (hy : ev e y = some (.int k' (s : Int))) (hs : s ≤ k.bits) :
    Yld P n C e ⟨d, .binOp .shl t x y t', ty, pos, af, g⟩ (.int k (k.wrap ((a <<< s : Nat) : Int))) := by
  intro ac ha w _
  have h0 : ¬ ((s : Int) < 0) := by omega
  have h1 : min s k.bits = s := Nat.min_eq_left hs
  have h2 : (a : Int) * 2 ^ s = ((a <<< s : Nat) : Int) := by
    rw [Nat.shiftLeft_eq]; simp
  simp [execOp, ha.ev hx, ha.ev hy, eqGuard, binOp, Op.shift, h0, h1]
  have := congrArg k.wrap h2
  simpa using this
theorem Yld.quo {d : Option Tmp} {t : Nat} {x y : Operand} {t' ty : TypeId} {pos : String} {af : Array Edge} {g : Option (Nat × Bool)} {k : IntKind} {a b : Int} (hx : ev e x = some (.int k a)) (hy : ev e y = some (.int k b)) (hb : b ≠ 0) :
    Yld P n C e ⟨d, .binOp .quo t x y t', ty, pos, af, g⟩ (.int k (k.wrap (a.tdiv b))) := by
  intro ac ha w _
  simp [execOp, ha.ev hx, ha.ev hy, eqGuard, binOp, Op.intDiv, hb]
theorem Yld.rem {d : Option Tmp} {t : Nat} {x y : Operand} {t' ty : TypeId} {pos : String} {af : Array Edge} {g : Option (Nat × Bool)} {k : IntKind} {a b : Int} (hx : ev e x = some (.int k a)) (hy : ev e y = some (.int k b)) (hb : b ≠ 0) :
    Yld P n C e ⟨d, .binOp .rem t x y t', ty, pos, af, g⟩ (.int k (a.tmod b)) := by
  intro ac ha w _
  simp [execOp, ha.ev hx, ha.ev hy, eqGuard, binOp, Op.intDiv, hb]
end
end Go.X
