/- Words of double precision in order: what is less has a lesser key. Nothing is assumed. -/
import Ieee.Arith
namespace Go.X
open Ieee

/-- A magnitude's worth, in units of the least place. -/
def worth (r : Nat) : Nat := if r < 4503599627370496 then r else (4503599627370496 + r % 4503599627370496) * 2 ^ (r / 4503599627370496 - 1)
theorem worth_mono {r s : Nat} (h : r ≤ s) : worth r ≤ worth s := by
  unfold worth
  by_cases hs : s < 4503599627370496
  · rw [if_pos hs, if_pos (by omega)]; exact h
  · rw [if_neg hs]
    have hq2 : 1 ≤ s / 4503599627370496 := by omega
    have hge : 4503599627370496 ≤ (4503599627370496 + s % 4503599627370496) * 2 ^ (s / 4503599627370496 - 1) :=
      Nat.le_trans (Nat.le_add_right _ _) (Nat.le_mul_of_pos_right _ (Nat.two_pow_pos _))
    by_cases hr : r < 4503599627370496
    · rw [if_pos hr]; omega
    · rw [if_neg hr]
      have hq1 : 1 ≤ r / 4503599627370496 := by omega
      have hqq : r / 4503599627370496 ≤ s / 4503599627370496 := Nat.div_le_div_right h
      by_cases he : r / 4503599627370496 = s / 4503599627370496
      · rw [he]
        exact Nat.mul_le_mul_right _ (by omega)
      · have h1 : (4503599627370496 + r % 4503599627370496) * 2 ^ (r / 4503599627370496 - 1) ≤ (2 * 4503599627370496) * 2 ^ (r / 4503599627370496 - 1) := Nat.mul_le_mul_right _ (by omega)
        have h2 : (2 * 4503599627370496) * 2 ^ (r / 4503599627370496 - 1) = 4503599627370496 * 2 ^ (r / 4503599627370496) := by
          obtain ⟨q, hq⟩ : ∃ q, r / 4503599627370496 = q + 1 := ⟨r / 4503599627370496 - 1, by omega⟩
          rw [hq, Nat.add_sub_cancel, Nat.pow_succ, Nat.mul_comm 2, Nat.mul_assoc, Nat.mul_comm 2]
        have h3 : 4503599627370496 * 2 ^ (r / 4503599627370496) ≤ 4503599627370496 * 2 ^ (s / 4503599627370496 - 1) := Nat.mul_le_mul_left _ (Nat.pow_le_pow_right (by omega) (by omega))
        have h4 : 4503599627370496 * 2 ^ (s / 4503599627370496 - 1) ≤ (4503599627370496 + s % 4503599627370496) * 2 ^ (s / 4503599627370496 - 1) := Nat.mul_le_mul_right _ (by omega)
        omega
theorem worth_lt {r s : Nat} (h : worth r < worth s) : r < s := Classical.byContradiction fun h' => by
  have := worth_mono (r := s) (s := r) (by omega)
  omega
/-- How a word reads: its sign, and what its magnitude is. -/
theorem read_cases (x : Nat) : (∃ f, double.read x = .nan (x / 9223372036854775808 % 2 == 1) f) ∨
    (double.read x = .infinity (x / 9223372036854775808 % 2 == 1) ∧ x % 9223372036854775808 = 9218868437227405312) ∨
    (∃ m k : Nat, double.read x = .number (x / 9223372036854775808 % 2 == 1) m (-1074 + k) ∧ m * 2 ^ k = worth (x % 9223372036854775808) ∧ x % 9223372036854775808 < 9218868437227405312) := by
  have hs : double.signWeight = 9223372036854775808 := by decide
  have hb : double.binade = 4503599627370496 := by decide
  have hi : double.infRung = 9218868437227405312 := by decide
  have hp : double.leastPlace = -1074 := by decide
  unfold Format.read
  simp only [hs, hb, hi, hp]
  by_cases h1 : x % 9223372036854775808 < 4503599627370496
  · refine .inr (.inr ⟨x % 9223372036854775808, 0, ?_, ?_, by omega⟩)
    · rw [if_pos h1]; simp
    · simp [worth, h1]
  · by_cases h2 : x % 9223372036854775808 < 9218868437227405312
    · refine .inr (.inr ⟨4503599627370496 + x % 9223372036854775808 % 4503599627370496, x % 9223372036854775808 / 4503599627370496 - 1, ?_, ?_, h2⟩)
      · rw [if_neg h1, if_pos h2]
      · unfold worth; rw [if_neg h1]
    · by_cases h3 : x % 9223372036854775808 = 9218868437227405312
      · refine .inr (.inl ⟨?_, h3⟩)
        rw [if_neg h1, if_neg h2, if_pos h3]
      · refine .inl ⟨x % 9223372036854775808 - 9218868437227405312, ?_⟩
        rw [if_neg h1, if_neg h2, if_neg h3]
def keyN (x : Nat) : Int := if x < 9223372036854775808 then x + 9223372036854775808 else 18446744073709551615 - x
theorem sgn_true {x : Nat} (hx : x < 18446744073709551616) (h : (x / 9223372036854775808 % 2 == 1) = true) : 9223372036854775808 ≤ x ∧ x % 9223372036854775808 = x - 9223372036854775808 := by
  have : x / 9223372036854775808 % 2 = 1 := by simpa using h
  omega
theorem sgn_false {x : Nat} (hx : x < 18446744073709551616) (h : (x / 9223372036854775808 % 2 == 1) = false) : x < 9223372036854775808 ∧ x % 9223372036854775808 = x := by
  have : ¬ x / 9223372036854775808 % 2 = 1 := by simpa using h
  omega
theorem signed_scale (neg : Bool) (m up k : Nat) : signed neg m up * ((2 ^ k : Nat) : Int) = if neg then -((m * 2 ^ (up + k) : Nat) : Int) else ((m * 2 ^ (up + k) : Nat) : Int) := by
  unfold signed
  rw [Nat.shiftLeft_eq, Nat.pow_add, ← Nat.mul_assoc]
  cases neg <;> simp [Int.neg_mul]
theorem order_lt_key {x y : Nat} (hx : x < 18446744073709551616) (hy : y < 18446744073709551616) (h : double.order x y = some .lt) : keyN x < keyN y := by
  unfold Format.order at h
  unfold keyN
  rcases read_cases x with ⟨f, e1⟩ | ⟨e1, r1⟩ | ⟨m1, k1, e1, w1, r1⟩
  · rw [e1] at h; simp [Datum.order] at h
  · rcases read_cases y with ⟨f, e2⟩ | ⟨e2, r2⟩ | ⟨m2, k2, e2, w2, r2⟩
    · rw [e1, e2] at h; simp [Datum.order] at h
    · rw [e1, e2] at h
      cases s1 : (x / 9223372036854775808 % 2 == 1) <;> cases s2 : (y / 9223372036854775808 % 2 == 1) <;> rw [s1, s2] at h <;> simp [Datum.order, compare, compareOfLessAndEq] at h
      have := sgn_true hx s1; have := sgn_false hy s2
      split <;> split <;> omega
    · rw [e1, e2] at h
      cases s1 : (x / 9223372036854775808 % 2 == 1) <;> rw [s1] at h <;> simp [Datum.order] at h
      have := sgn_true hx s1
      cases s2 : (y / 9223372036854775808 % 2 == 1)
      · have := sgn_false hy s2; split <;> split <;> omega
      · have := sgn_true hy s2; split <;> split <;> omega
  · rcases read_cases y with ⟨f, e2⟩ | ⟨e2, r2⟩ | ⟨m2, k2, e2, w2, r2⟩
    · rw [e1, e2] at h; simp [Datum.order] at h
    · rw [e1, e2] at h
      cases s2 : (y / 9223372036854775808 % 2 == 1) <;> rw [s2] at h <;> simp [Datum.order] at h
      have := sgn_false hy s2
      cases s1 : (x / 9223372036854775808 % 2 == 1)
      · have := sgn_false hx s1; split <;> split <;> omega
      · have := sgn_true hx s1; split <;> split <;> omega
    · rw [e1, e2] at h
      simp only [Datum.order, Option.some.injEq] at h
      have hlt : signed (x / 9223372036854775808 % 2 == 1) m1 (-1074 + (k1 : Int) - min (-1074 + (k1 : Int)) (-1074 + (k2 : Int))).toNat < signed (y / 9223372036854775808 % 2 == 1) m2 (-1074 + (k2 : Int) - min (-1074 + (k1 : Int)) (-1074 + (k2 : Int))).toNat := by
        simp only [compare, compareOfLessAndEq] at h
        split at h
        · assumption
        · split at h <;> cases h
      have hpos : (0 : Int) < ((2 ^ min k1 k2 : Nat) : Int) := by exact_mod_cast Nat.two_pow_pos _
      have h2 := Int.mul_lt_mul_of_pos_right hlt hpos
      rw [signed_scale, signed_scale] at h2
      have u1 : (-1074 + (k1 : Int) - min (-1074 + (k1 : Int)) (-1074 + (k2 : Int))).toNat + min k1 k2 = k1 := by omega
      have u2 : (-1074 + (k2 : Int) - min (-1074 + (k1 : Int)) (-1074 + (k2 : Int))).toNat + min k1 k2 = k2 := by omega
      rw [u1, u2, w1, w2] at h2
      cases s1 : (x / 9223372036854775808 % 2 == 1) <;> cases s2 : (y / 9223372036854775808 % 2 == 1) <;> simp only [s1, s2, if_true, Bool.false_eq_true, if_false] at h2
      · have a1 := sgn_false hx s1; have a2 := sgn_false hy s2
        have := worth_lt (r := x % 9223372036854775808) (s := y % 9223372036854775808) (by omega)
        split <;> split <;> omega
      · omega
      · have a1 := sgn_true hx s1; have a2 := sgn_false hy s2
        split <;> split <;> omega
      · have a1 := sgn_true hx s1; have a2 := sgn_true hy s2
        have := worth_lt (r := y % 9223372036854775808) (s := x % 9223372036854775808) (by omega)
        split <;> split <;> omega
end Go.X
