/- The document's own rank of values. -/
import Derived.Test.YtffbcfcoddacmaaGreatHc
set_option linter.unusedVariables false
set_option linter.unusedSimpArgs false
set_option maxHeartbeats 1000000
set_option maxRecDepth 100000
namespace Go.X
open Ieee
theorem worth_strict {r s : Nat} (h : r < s) : worth r < worth s := by
  unfold worth
  by_cases hs : s < 4503599627370496
  · rw [if_pos hs, if_pos (by omega)]; exact h
  · rw [if_neg hs]
    have hq2 : 1 ≤ s / 4503599627370496 := by omega
    have hge : 4503599627370496 ≤ (4503599627370496 + s % 4503599627370496) * 2 ^ (s / 4503599627370496 - 1) :=
      Nat.le_trans (Nat.le_add_right _ _) (Nat.le_mul_of_pos_right _ (Nat.two_pow_pos _))
    by_cases hr : r < 4503599627370496
    · rw [if_pos hr]; omega
    · rw [if_neg hr]
      have hq1 : 1 ≤ r / 4503599627370496 := by omega
      have hqq : r / 4503599627370496 ≤ s / 4503599627370496 := Nat.div_le_div_right (Nat.le_of_lt h)
      by_cases he : r / 4503599627370496 = s / 4503599627370496
      · rw [he]
        exact Nat.mul_lt_mul_of_pos_right (by omega) (Nat.two_pow_pos _)
      · have h1 : (4503599627370496 + r % 4503599627370496) * 2 ^ (r / 4503599627370496 - 1) < (2 * 4503599627370496) * 2 ^ (r / 4503599627370496 - 1) := Nat.mul_lt_mul_of_pos_right (by omega) (Nat.two_pow_pos _)
        have h2 : (2 * 4503599627370496) * 2 ^ (r / 4503599627370496 - 1) = 4503599627370496 * 2 ^ (r / 4503599627370496) := by
          obtain ⟨q, hq⟩ : ∃ q, r / 4503599627370496 = q + 1 := ⟨r / 4503599627370496 - 1, by omega⟩
          rw [hq, Nat.add_sub_cancel, Nat.pow_succ, Nat.mul_comm 2, Nat.mul_assoc, Nat.mul_comm 2]
        have h3 : 4503599627370496 * 2 ^ (r / 4503599627370496) ≤ 4503599627370496 * 2 ^ (s / 4503599627370496 - 1) := Nat.mul_le_mul_left _ (Nat.pow_le_pow_right (by omega) (by omega))
        have h4 : 4503599627370496 * 2 ^ (s / 4503599627370496 - 1) ≤ (4503599627370496 + s % 4503599627370496) * 2 ^ (s / 4503599627370496 - 1) := Nat.mul_le_mul_right _ (by omega)
        omega
theorem worth_inj {r s : Nat} (h : worth r = worth s) : r = s := by
  rcases Nat.lt_trichotomy r s with h1 | h1 | h1
  · have := worth_strict h1; omega
  · exact h1
  · have := worth_strict h1; omega
theorem order_gt {x y : Nat} (h : double.order x y = some .gt) : double.order y x = some .lt := by
  unfold Format.order at *
  cases hx : double.read x with
  | nan => rw [hx] at h; simp [Datum.order] at h
  | infinity s =>
    cases hy : double.read y with
    | nan => rw [hx, hy] at h; simp [Datum.order] at h
    | infinity t => rw [hx, hy] at h; cases s <;> cases t <;> simp [Datum.order, compare, compareOfLessAndEq] at h ⊢
    | number t n j => rw [hx, hy] at h; cases s <;> simp [Datum.order] at h ⊢
  | number s m i =>
    cases hy : double.read y with
    | nan => rw [hx, hy] at h; simp [Datum.order] at h
    | infinity t => rw [hx, hy] at h; cases t <;> simp [Datum.order] at h ⊢
    | number t n j =>
      rw [hx, hy] at h
      simp only [Datum.order, Option.some.injEq, compare, compareOfLessAndEq] at h ⊢
      rw [Int.min_comm j i]
      split at h
      · cases h
      · split at h
        · cases h
        · rw [if_pos (by omega)]
theorem order_eq_bits {x y : Nat} (hx : x < 18446744073709551616) (hy : y < 18446744073709551616) (h : double.order x y = some .eq) : x = y ∨ (x % 9223372036854775808 = 0 ∧ y % 9223372036854775808 = 0) := by
  unfold Format.order at h
  rcases read_cases x with ⟨f, e1⟩ | ⟨e1, r1⟩ | ⟨m1, k1, e1, w1, r1⟩
  · rw [e1] at h; simp [Datum.order] at h
  · rcases read_cases y with ⟨f, e2⟩ | ⟨e2, r2⟩ | ⟨m2, k2, e2, w2, r2⟩
    · rw [e1, e2] at h; simp [Datum.order] at h
    · rw [e1, e2] at h
      refine .inl ?_
      cases s1 : (x / 9223372036854775808 % 2 == 1) <;> cases s2 : (y / 9223372036854775808 % 2 == 1) <;> rw [s1, s2] at h <;> simp [Datum.order, compare, compareOfLessAndEq] at h
      · have := sgn_false hx s1; have := sgn_false hy s2; omega
      · have := sgn_true hx s1; have := sgn_true hy s2; omega
    · rw [e1, e2] at h
      cases s1 : (x / 9223372036854775808 % 2 == 1) <;> rw [s1] at h <;> simp [Datum.order] at h
  · rcases read_cases y with ⟨f, e2⟩ | ⟨e2, r2⟩ | ⟨m2, k2, e2, w2, r2⟩
    · rw [e1, e2] at h; simp [Datum.order] at h
    · rw [e1, e2] at h
      cases s2 : (y / 9223372036854775808 % 2 == 1) <;> rw [s2] at h <;> simp [Datum.order] at h
    · rw [e1, e2] at h
      simp only [Datum.order, Option.some.injEq] at h
      have heq : signed (x / 9223372036854775808 % 2 == 1) m1 (-1074 + (k1 : Int) - min (-1074 + (k1 : Int)) (-1074 + (k2 : Int))).toNat = signed (y / 9223372036854775808 % 2 == 1) m2 (-1074 + (k2 : Int) - min (-1074 + (k1 : Int)) (-1074 + (k2 : Int))).toNat := by
        simp only [compare, compareOfLessAndEq] at h
        split at h
        · cases h
        · split at h
          · assumption
          · cases h
      have h2 := congrArg (fun z : Int => z * ((2 ^ min k1 k2 : Nat) : Int)) heq
      rw [signed_scale, signed_scale] at h2
      have u1 : (-1074 + (k1 : Int) - min (-1074 + (k1 : Int)) (-1074 + (k2 : Int))).toNat + min k1 k2 = k1 := by omega
      have u2 : (-1074 + (k2 : Int) - min (-1074 + (k1 : Int)) (-1074 + (k2 : Int))).toNat + min k1 k2 = k2 := by omega
      rw [u1, u2, w1, w2] at h2
      have w0 : worth 0 = 0 := by simp [worth]
      cases s1 : (x / 9223372036854775808 % 2 == 1) <;> cases s2 : (y / 9223372036854775808 % 2 == 1) <;> simp only [s1, s2, if_true, Bool.false_eq_true, if_false] at h2
      · have a1 := sgn_false hx s1; have a2 := sgn_false hy s2
        have := worth_inj (r := x % 9223372036854775808) (s := y % 9223372036854775808) (by omega)
        exact .inl (by omega)
      · have b1 := worth_inj (r := x % 9223372036854775808) (s := 0) (by omega)
        have b2 := worth_inj (r := y % 9223372036854775808) (s := 0) (by omega)
        exact .inr ⟨b1, b2⟩
      · have b1 := worth_inj (r := x % 9223372036854775808) (s := 0) (by omega)
        have b2 := worth_inj (r := y % 9223372036854775808) (s := 0) (by omega)
        exact .inr ⟨b1, b2⟩
      · have a1 := sgn_true hx s1; have a2 := sgn_true hy s2
        have := worth_inj (r := x % 9223372036854775808) (s := y % 9223372036854775808) (by omega)
        exact .inl (by omega)
end Go.X
namespace Go.Proofs.YtffbcfcoddacmaaGreat
open Go Go.X
theorem keyNum {b : Nat} (h : nanS b = false) : keyS b = keyN b := by
  unfold keyS keyN canS
  rw [h]; rfl
theorem read_num {b : Nat} (h : nanS b = false) (s : Bool) (f : Nat) : Ieee.double.read b ≠ .nan s f := by
  intro e
  unfold nanS Ieee.Format.order at h
  rw [e] at h
  simp [Ieee.Datum.order] at h
theorem order_num {x y : Nat} (hx : nanS x = false) (hy : nanS y = false) : ∃ o, Ieee.double.order x y = some o := by
  unfold Ieee.Format.order
  cases e1 : Ieee.double.read x with
  | nan s f => exact absurd e1 (read_num hx s f)
  | infinity s =>
    cases e2 : Ieee.double.read y with
    | nan s f => exact absurd e2 (read_num hy s f)
    | infinity t => exact ⟨_, rfl⟩
    | number t n j => exact ⟨_, rfl⟩
  | number s m i =>
    cases e2 : Ieee.double.read y with
    | nan s f => exact absurd e2 (read_num hy s f)
    | infinity t => exact ⟨_, rfl⟩
    | number t n j => exact ⟨_, rfl⟩
def lessR (x y : Nat) : Bool := if nanS x || nanS y then !nanS x && nanS y else if Ieee.double.order x y != some .eq then Ieee.double.order x y == some .lt else sgnS x && !sgnS y
def aheadR (a b : Nat) : Bool := if nanS a || nanS b then !nanS a && nanS b else lessR b a
theorem aheadR_eq {a b : Nat} (ha : a < 18446744073709551616) (hb : b < 18446744073709551616) : aheadR a b = decide (rankS a b < 0) := by
  unfold aheadR rankS
  cases ea : nanS a with
  | true =>
    cases eb : nanS b with
    | true =>
      have e1 : keyS a = keyS b := by unfold keyS canS; rw [ea, eb]; rfl
      simp [cmpI, e1]
    | false => simp
  | false =>
    cases eb : nanS b with
    | true => simp
    | false =>
      obtain ⟨o, ho⟩ := order_num eb ea
      simp only [Bool.or_self, Bool.false_eq_true, if_false, if_true]
      unfold lessR
      rw [ea, eb, ho, keyNum ea, keyNum eb]
      simp only [Bool.or_self, Bool.false_eq_true, if_false]
      cases o with
      | lt =>
        have h1 := order_lt_key hb ha ho
        simp [cmpI, h1]
      | gt =>
        have h1 := order_lt_key ha hb (order_gt ho)
        have h2 : ¬ keyN b < keyN a := by omega
        simp [cmpI, h1, h2]
      | eq =>
        simp only [bne_self_eq_false, Bool.false_eq_true, if_false]
        unfold sgnS cmpI keyN
        rcases order_eq_bits hb ha ho with rfl | ⟨h1, h2⟩
        · simp
        · have h3 : b = 0 ∨ b = 9223372036854775808 := by omega
          have h4 : a = 0 ∨ a = 9223372036854775808 := by omega
          rcases h3 with rfl | rfl <;> rcases h4 with rfl | rfl <;> simp
theorem lessR_ok (x y : Nat) (hx : x < 18446744073709551616) (hy : y < 18446744073709551616) (w : World) : Fx Tryz.prog 171 [.float .f64 x, .float .f64 y] w (fun u w' => u = .bool (lessR x y) ∧ w = w') := by
  refine enter Tryz.func171 rfl rfl rfl _ (Pick.sub (l := [0, 1]) (.cons rfl (.cons rfl .nil))) ?_
  refine RK.seq ?_
  refine RK.region ?_
  refine RL.p rfl rfl ?_
  refine RL.done ?_
  iterate 2 refine RK.seq ?_
  refine RK.region ?_
  iterate 4 refine RL.p rfl rfl ?_
  first | refine RL.splitD (d := 8) rfl rfl (fun h8 => ?_) (fun h8 => ?_) | refine RL.splitN (d := 8) rfl rfl (fun h8 => ?_) (fun h8 => ?_) | refine RL.split (d := 8) rfl rfl (fun h8 => ?_) (fun h8 => ?_)
  · iterate 3 refine RL.no (.no rfl rfl rfl rfl) rfl rfl ?_
    refine RL.p rfl rfl ?_
    refine RL.done ?_
    refine RK.condT rfl ?_
    refine RK.seq ?_
    refine RK.region ?_
    iterate 4 refine RL.p rfl rfl ?_
    first | refine RL.splitD (d := 16) rfl rfl (fun h16 => ?_) (fun h16 => ?_) | refine RL.splitN (d := 16) rfl rfl (fun h16 => ?_) (fun h16 => ?_) | refine RL.split (d := 16) rfl rfl (fun h16 => ?_) (fun h16 => ?_)
    · iterate 3 refine RL.q (.yes rfl rfl rfl) rfl rfl (Yld.pure rfl) ?_
      iterate 2 refine RL.p rfl rfl ?_
      refine RL.done ?_
      refine RK.ret_of Tryz.func171 (res1 rfl rfl) ?_ _
      exact ⟨_, rfl, by unfold lessR nanS; rw [show Ieee.double = FloatKind.f64.format from rfl]; simp_all [sgnS] <;> omega, rfl⟩
    · iterate 3 refine RL.no (.no rfl rfl rfl rfl) rfl rfl ?_
      iterate 2 refine RL.p rfl rfl ?_
      refine RL.done ?_
      refine RK.ret_of Tryz.func171 (res1 rfl rfl) ?_ _
      exact ⟨_, rfl, by unfold lessR nanS; rw [show Ieee.double = FloatKind.f64.format from rfl]; simp_all [sgnS] <;> omega, rfl⟩
  · iterate 3 refine RL.q (.yes rfl rfl rfl) rfl rfl (Yld.pure rfl) ?_
    refine RL.p rfl rfl ?_
    refine RL.done ?_
    first | refine RK.condD rfl (fun h12 => ?_) (fun h12 => ?_) | refine RK.condN rfl (fun h12 => ?_) (fun h12 => ?_) | refine RK.cond rfl (fun h12 => ?_) (fun h12 => ?_)
    · refine RK.seq ?_
      refine RK.region ?_
      iterate 4 refine RL.p rfl rfl ?_
      first | refine RL.splitD (d := 16) rfl rfl (fun h16 => ?_) (fun h16 => ?_) | refine RL.splitN (d := 16) rfl rfl (fun h16 => ?_) (fun h16 => ?_) | refine RL.split (d := 16) rfl rfl (fun h16 => ?_) (fun h16 => ?_)
      · iterate 3 refine RL.q (.yes rfl rfl rfl) rfl rfl (Yld.pure rfl) ?_
        iterate 2 refine RL.p rfl rfl ?_
        refine RL.done ?_
        refine RK.ret_of Tryz.func171 (res1 rfl rfl) ?_ _
        exact ⟨_, rfl, by unfold lessR nanS; rw [show Ieee.double = FloatKind.f64.format from rfl]; simp_all [sgnS] <;> omega, rfl⟩
      · iterate 3 refine RL.no (.no rfl rfl rfl rfl) rfl rfl ?_
        iterate 2 refine RL.p rfl rfl ?_
        refine RL.done ?_
        refine RK.ret_of Tryz.func171 (res1 rfl rfl) ?_ _
        exact ⟨_, rfl, by unfold lessR nanS; rw [show Ieee.double = FloatKind.f64.format from rfl]; simp_all [sgnS] <;> omega, rfl⟩
    · refine RK.skip ?_
      iterate 2 refine RK.seq ?_
      refine RK.region ?_
      iterate 3 refine RL.p rfl rfl ?_
      refine RL.done ?_
      first | refine RK.condD rfl (fun h23 => ?_) (fun h23 => ?_) | refine RK.condN rfl (fun h23 => ?_) (fun h23 => ?_) | refine RK.cond rfl (fun h23 => ?_) (fun h23 => ?_)
      · refine RK.seq ?_
        refine RK.region ?_
        iterate 4 refine RL.p rfl rfl ?_
        refine RL.done ?_
        refine RK.ret_of Tryz.func171 (res1 rfl rfl) ?_ _
        exact ⟨_, rfl, by unfold lessR nanS; rw [show Ieee.double = FloatKind.f64.format from rfl]; simp_all [sgnS] <;> omega, rfl⟩
      · refine RK.skip ?_
        refine RK.seq ?_
        refine RK.region ?_
        refine RL.p rfl rfl ?_
        refine RL.op (.free rfl) rfl rfl (Does.call rfl e206 (signbit_ok x hx _)) ?_
        rintro _ _ ⟨rfl, rfl⟩
        refine RL.p rfl rfl ?_
        first | refine RL.splitD (d := 29) rfl rfl (fun h29 => ?_) (fun h29 => ?_) | refine RL.splitN (d := 29) rfl rfl (fun h29 => ?_) (fun h29 => ?_) | refine RL.split (d := 29) rfl rfl (fun h29 => ?_) (fun h29 => ?_)
        · refine RL.q (.yes rfl rfl rfl) rfl rfl (Yld.pure rfl) ?_
          refine RL.op (.yes rfl rfl rfl) rfl rfl (Does.call rfl e206 (signbit_ok y hy _)) ?_
          rintro _ _ ⟨rfl, rfl⟩
          refine RL.q (.yes rfl rfl rfl) rfl rfl (Yld.pure rfl) ?_
          iterate 2 refine RL.p rfl rfl ?_
          refine RL.done ?_
          refine RK.ret_of Tryz.func171 (res1 rfl rfl) ?_ _
          exact ⟨_, rfl, by unfold lessR nanS; rw [show Ieee.double = FloatKind.f64.format from rfl]; simp_all [sgnS] <;> omega, rfl⟩
        · iterate 3 refine RL.no (.no rfl rfl rfl rfl) rfl rfl ?_
          iterate 2 refine RL.p rfl rfl ?_
          refine RL.done ?_
          refine RK.ret_of Tryz.func171 (res1 rfl rfl) ?_ _
          exact ⟨_, rfl, by unfold lessR nanS; rw [show Ieee.double = FloatKind.f64.format from rfl]; simp_all [sgnS] <;> omega, rfl⟩
theorem aheadR_ok (x y : Nat) (hx : x < 18446744073709551616) (hy : y < 18446744073709551616) (w : World) : Fx Tryz.prog 139 [.float .f64 x, .float .f64 y] w (fun u w' => u = .bool (decide (rankS x y < 0)) ∧ w = w') := by
  rw [← aheadR_eq hx hy]
  refine enter Tryz.func139 rfl rfl rfl _ (Pick.sub (l := [0, 1]) (.cons rfl (.cons rfl .nil))) ?_
  refine RK.seq ?_
  refine RK.region ?_
  refine RL.p rfl rfl ?_
  refine RL.done ?_
  iterate 2 refine RK.seq ?_
  refine RK.region ?_
  iterate 4 refine RL.p rfl rfl ?_
  first | refine RL.splitD (d := 8) rfl rfl (fun h8 => ?_) (fun h8 => ?_) | refine RL.splitN (d := 8) rfl rfl (fun h8 => ?_) (fun h8 => ?_) | refine RL.split (d := 8) rfl rfl (fun h8 => ?_) (fun h8 => ?_)
  · iterate 3 refine RL.no (.no rfl rfl rfl rfl) rfl rfl ?_
    refine RL.p rfl rfl ?_
    refine RL.done ?_
    refine RK.condT rfl ?_
    refine RK.seq ?_
    refine RK.region ?_
    iterate 4 refine RL.p rfl rfl ?_
    first | refine RL.splitD (d := 16) rfl rfl (fun h16 => ?_) (fun h16 => ?_) | refine RL.splitN (d := 16) rfl rfl (fun h16 => ?_) (fun h16 => ?_) | refine RL.split (d := 16) rfl rfl (fun h16 => ?_) (fun h16 => ?_)
    · iterate 3 refine RL.q (.yes rfl rfl rfl) rfl rfl (Yld.pure rfl) ?_
      iterate 2 refine RL.p rfl rfl ?_
      refine RL.done ?_
      refine RK.ret_of Tryz.func139 (res1 rfl rfl) ?_ _
      exact ⟨_, rfl, by unfold aheadR nanS; rw [show Ieee.double = FloatKind.f64.format from rfl]; simp_all, rfl⟩
    · iterate 3 refine RL.no (.no rfl rfl rfl rfl) rfl rfl ?_
      iterate 2 refine RL.p rfl rfl ?_
      refine RL.done ?_
      refine RK.ret_of Tryz.func139 (res1 rfl rfl) ?_ _
      exact ⟨_, rfl, by unfold aheadR nanS; rw [show Ieee.double = FloatKind.f64.format from rfl]; simp_all, rfl⟩
  · iterate 3 refine RL.q (.yes rfl rfl rfl) rfl rfl (Yld.pure rfl) ?_
    refine RL.p rfl rfl ?_
    refine RL.done ?_
    first | refine RK.condD rfl (fun h12 => ?_) (fun h12 => ?_) | refine RK.condN rfl (fun h12 => ?_) (fun h12 => ?_) | refine RK.cond rfl (fun h12 => ?_) (fun h12 => ?_)
    · refine RK.seq ?_
      refine RK.region ?_
      iterate 4 refine RL.p rfl rfl ?_
      first | refine RL.splitD (d := 16) rfl rfl (fun h16 => ?_) (fun h16 => ?_) | refine RL.splitN (d := 16) rfl rfl (fun h16 => ?_) (fun h16 => ?_) | refine RL.split (d := 16) rfl rfl (fun h16 => ?_) (fun h16 => ?_)
      · iterate 3 refine RL.q (.yes rfl rfl rfl) rfl rfl (Yld.pure rfl) ?_
        iterate 2 refine RL.p rfl rfl ?_
        refine RL.done ?_
        refine RK.ret_of Tryz.func139 (res1 rfl rfl) ?_ _
        exact ⟨_, rfl, by unfold aheadR nanS; rw [show Ieee.double = FloatKind.f64.format from rfl]; simp_all, rfl⟩
      · iterate 3 refine RL.no (.no rfl rfl rfl rfl) rfl rfl ?_
        iterate 2 refine RL.p rfl rfl ?_
        refine RL.done ?_
        refine RK.ret_of Tryz.func139 (res1 rfl rfl) ?_ _
        exact ⟨_, rfl, by unfold aheadR nanS; rw [show Ieee.double = FloatKind.f64.format from rfl]; simp_all, rfl⟩
    · refine RK.skip ?_
      refine RK.seq ?_
      refine RK.region ?_
      iterate 2 refine RL.p rfl rfl ?_
      refine RL.op (.free rfl) rfl rfl (Does.call rfl e171 (lessR_ok y x hy hx _)) ?_
      rintro _ _ ⟨rfl, rfl⟩
      refine RL.p rfl rfl ?_
      refine RL.done ?_
      refine RK.ret_of Tryz.func139 (res1 rfl rfl) ?_ _
      exact ⟨_, rfl, by unfold aheadR nanS; rw [show Ieee.double = FloatKind.f64.format from rfl]; simp_all, rfl⟩
end Go.Proofs.YtffbcfcoddacmaaGreat

