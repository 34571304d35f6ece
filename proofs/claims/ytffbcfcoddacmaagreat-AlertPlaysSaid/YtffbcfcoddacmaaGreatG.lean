/- Values: canonical bits, keys, an order, a rank of two. -/
import Derived.Test.YtffbcfcoddacmaaGreatE
set_option linter.unusedVariables false
set_option linter.unusedSimpArgs false
set_option maxHeartbeats 400000
set_option maxRecDepth 100000
namespace Go.Proofs.YtffbcfcoddacmaaGreat
open Go Go.X

theorem nan_nan : nanS 9221120237041090561 = true := by unfold nanS; decide
def canS (b : Nat) : Nat := if nanS b then 9221120237041090561 else b
theorem bits_can (b : Nat) : bitsS b = (canS b : Int) := by unfold bitsS canS; split <;> rfl
theorem can_can (b : Nat) : canS (canS b) = canS b := by
  unfold canS
  by_cases h : nanS b = true
  · simp [h, nan_nan]
  · simp [h]
theorem of_ok (b : Nat) (w : World) : Fx Tryz.prog 74 [.int .u64 (bitsS b)] w (fun u w' => u = .tuple #[.float .f64 (canS b), .bool true] ∧ w = w') := by
  have hc : bitsS (canS b) = bitsS b := by rw [bits_can, bits_can, can_can]
  rw [bits_can]
  refine enter Tryz.func74 rfl rfl rfl _ (Pick.sub (l := [0]) (.cons rfl .nil)) ?_
  refine RK.seq ?_
  refine RK.region ?_
  iterate 2 refine RL.p rfl rfl ?_
  refine RL.done ?_
  refine RK.seq ?_
  refine RK.region ?_
  refine RL.p rfl rfl ?_
  refine RL.q (.free rfl) rfl rfl (Yld.callx rfl (fun w => x124 _ w)) ?_
  refine RL.p rfl rfl ?_
  refine RL.done ?_
  iterate 2 refine RK.seq ?_
  refine RK.region ?_
  refine RL.p rfl rfl ?_
  refine RL.op (.free rfl) rfl rfl (Does.call rfl e75 (bits_ok _ _)) ?_
  rintro _ _ ⟨rfl, rfl⟩
  iterate 2 refine RL.p rfl rfl ?_
  refine RL.done ?_
  refine RK.condF (hcF rfl (by simp [hc, bits_can, can_can])) ?_
  refine RK.skip ?_
  refine RK.seq ?_
  refine RK.region ?_
  iterate 3 refine RL.p rfl rfl ?_
  refine RL.done ?_
  refine RK.ret_of Tryz.func74 (res2 rfl rfl rfl) ?_ _
  exact ⟨_, rfl, rfl, rfl⟩
def keyS (b : Nat) : Int := if canS b < 9223372036854775808 then canS b + 9223372036854775808 else 18446744073709551615 - canS b
theorem can_lt {b : Nat} (h : b < 18446744073709551616) : canS b < 18446744073709551616 := by unfold canS; split <;> omega
theorem key_ok (b : Nat) (hb : b < 18446744073709551616) (w : World) : Fx Tryz.prog 138 [.float .f64 b] w (fun u w' => u = .int .u64 (keyS b) ∧ w = w') := by
  have hc := can_lt hb
  refine enter Tryz.func138 rfl rfl rfl _ (Pick.sub (l := [0]) (.cons rfl .nil)) ?_
  refine RK.seq ?_
  refine RK.region ?_
  refine RL.p rfl rfl ?_
  refine RL.done ?_
  refine RK.seq ?_
  refine RK.region ?_
  refine RL.p rfl rfl ?_
  refine RL.op (.free rfl) rfl rfl (Does.call rfl e75 (bits_ok _ _)) ?_
  rintro _ _ ⟨rfl, rfl⟩
  refine RL.p rfl rfl ?_
  refine RL.done ?_
  iterate 2 refine RK.seq ?_
  refine RK.region ?_
  refine RL.p rfl rfl ?_
  refine RL.re (d := 6) rfl rfl (congrArg (Value.int .u64) (bits_can b)) ?_
  refine RL.p rfl rfl ?_
  refine RL.re (d := 7) rfl rfl (congrArg _ (and63 (by omega) (by omega))) ?_
  refine RL.p rfl rfl ?_
  refine RL.done ?_
  first | refine RK.condD rfl (fun h8 => ?_) (fun h8 => ?_) | refine RK.condN rfl (fun h8 => ?_) (fun h8 => ?_) | refine RK.cond rfl (fun h8 => ?_) (fun h8 => ?_)
  · refine RK.seq ?_
    refine RK.region ?_
    refine RL.p rfl rfl ?_
    refine RL.re (d := 9) rfl rfl (congrArg (Value.int .u64) (bits_can b)) ?_
    refine RL.p rfl rfl ?_
    refine RL.re (d := 10) rfl rfl (congrArg _ (or63 (by omega) (by split at h8 <;> omega))) ?_
    refine RL.p rfl rfl ?_
    refine RL.done ?_
    refine RK.ret_of Tryz.func138 (res1 rfl rfl) ?_ _
    exact ⟨_, rfl, congrArg _ (by unfold keyS; split at h8 <;> split <;> omega), rfl⟩
  · refine RK.skip ?_
    refine RK.seq ?_
    refine RK.region ?_
    refine RL.p rfl rfl ?_
    refine RL.re (d := 11) rfl rfl (congrArg (Value.int .u64) (bits_can b)) ?_
    refine RL.q (.free rfl) rfl rfl (Yld.compl rfl (by omega) (by omega)) ?_
    refine RL.p rfl rfl ?_
    refine RL.done ?_
    refine RK.ret_of Tryz.func138 (res1 rfl rfl) ?_ _
    exact ⟨_, rfl, congrArg _ (by unfold keyS; split at h8 <;> split <;> omega), rfl⟩
theorem isNaNu_ok (a : Int) (w : World) : Fx Tryz.prog 170 [.int .u64 a] w (fun u w' => u = .bool false ∧ w = w') := by
  refine enter Tryz.func170 rfl rfl rfl _ (Pick.sub (l := [0]) (.cons rfl .nil)) ?_
  refine RK.seq ?_
  refine RK.region ?_
  refine RL.p rfl rfl ?_
  refine RL.done ?_
  refine RK.seq ?_
  refine RK.region ?_
  iterate 4 refine RL.p rfl rfl ?_
  refine RL.done ?_
  refine RK.ret_of Tryz.func170 (res1 rfl rfl) ?_ _
  exact ⟨_, rfl, by simp, rfl⟩
def cmpI (a b : Int) : Int := if a < b then -1 else if b < a then 1 else 0
theorem compare_ok (a b : Int) (w : World) : Fx Tryz.prog 137 [.int .u64 a, .int .u64 b] w (fun u w' => u = .int .i64 (cmpI a b) ∧ w = w') := by
  refine enter Tryz.func137 rfl rfl rfl _ (Pick.sub (l := [0, 1]) (.cons rfl (.cons rfl .nil))) ?_
  refine RK.seq ?_
  refine RK.region ?_
  refine RL.p rfl rfl ?_
  refine RL.done ?_
  refine RK.seq ?_
  refine RK.region ?_
  refine RL.p rfl rfl ?_
  refine RL.op (.free rfl) rfl rfl (Does.call rfl e170 (isNaNu_ok _ _)) ?_
  rintro _ _ ⟨rfl, rfl⟩
  refine RL.p rfl rfl ?_
  refine RL.done ?_
  refine RK.seq ?_
  refine RK.region ?_
  refine RL.p rfl rfl ?_
  refine RL.op (.free rfl) rfl rfl (Does.call rfl e170 (isNaNu_ok _ _)) ?_
  rintro _ _ ⟨rfl, rfl⟩
  refine RL.p rfl rfl ?_
  refine RL.done ?_
  iterate 2 refine RK.seq ?_
  refine RK.region ?_
  refine RL.p rfl rfl ?_
  refine RL.done ?_
  refine RK.condF (hcF rfl (rfl)) ?_
  refine RK.skip ?_
  iterate 2 refine RK.seq ?_
  refine RK.region ?_
  refine RL.p rfl rfl ?_
  refine RL.done ?_
  refine RK.condF (hcF rfl (rfl)) ?_
  refine RK.skip ?_
  iterate 2 refine RK.seq ?_
  refine RK.region ?_
  iterate 3 refine RL.p rfl rfl ?_
  refine RL.done ?_
  first | refine RK.condD rfl (fun h16 => ?_) (fun h16 => ?_) | refine RK.condN rfl (fun h16 => ?_) (fun h16 => ?_) | refine RK.cond rfl (fun h16 => ?_) (fun h16 => ?_)
  · refine RK.seq ?_
    refine RK.region ?_
    refine RL.p rfl rfl ?_
    refine RL.done ?_
    refine RK.ret_of Tryz.func137 (res1 rfl rfl) ?_ _
    exact ⟨_, rfl, congrArg _ (by unfold cmpI; simp [*]), rfl⟩
  · refine RK.skip ?_
    iterate 2 refine RK.seq ?_
    refine RK.region ?_
    iterate 3 refine RL.p rfl rfl ?_
    refine RL.done ?_
    first | refine RK.condD rfl (fun h19 => ?_) (fun h19 => ?_) | refine RK.condN rfl (fun h19 => ?_) (fun h19 => ?_) | refine RK.cond rfl (fun h19 => ?_) (fun h19 => ?_)
    · refine RK.seq ?_
      refine RK.region ?_
      refine RL.p rfl rfl ?_
      refine RL.done ?_
      refine RK.ret_of Tryz.func137 (res1 rfl rfl) ?_ _
      exact ⟨_, rfl, congrArg _ (by unfold cmpI; simp [*]), rfl⟩
    · refine RK.skip ?_
      refine RK.seq ?_
      refine RK.region ?_
      refine RL.p rfl rfl ?_
      refine RL.done ?_
      refine RK.ret_of Tryz.func137 (res1 rfl rfl) ?_ _
      exact ⟨_, rfl, congrArg _ (by unfold cmpI; simp [*]), rfl⟩
theorem nan_ok (w : World) : Fx Tryz.prog 86 [] w (fun u w' => u = .float .f64 9221120237041090561 ∧ w = w') := by
  refine enter Tryz.func86 rfl rfl rfl _ (Pick.sub (l := []) .nil) ?_
  refine RK.seq ?_
  refine RK.region ?_
  refine RL.p rfl rfl ?_
  refine RL.done ?_
  refine RK.seq ?_
  refine RK.region ?_
  refine RL.q (.free rfl) rfl rfl (Yld.callx rfl (fun w => x124 _ w)) ?_
  refine RL.p rfl rfl ?_
  refine RL.done ?_
  refine RK.ret_of Tryz.func86 (res1 rfl rfl) ?_ _
  exact ⟨_, rfl, rfl, rfl⟩
theorem copysign0_ok (w : World) : Fx Tryz.prog 85 [.float .f64 0, .float .f64 13830554455654793216] w (fun u w' => u = .float .f64 9223372036854775808 ∧ w = w') := by
  refine enter Tryz.func85 rfl rfl rfl _ (Pick.sub (l := [0, 1]) (.cons rfl (.cons rfl .nil))) ?_
  refine RK.seq ?_
  refine RK.region ?_
  refine RL.p rfl rfl ?_
  refine RL.done ?_
  refine RK.seq ?_
  refine RK.region ?_
  refine RL.p rfl rfl ?_
  refine RL.q (.free rfl) rfl rfl (Yld.callx rfl (fun w => x21 _ w)) ?_
  iterate 2 refine RL.p rfl rfl ?_
  refine RL.q (.free rfl) rfl rfl (Yld.callx rfl (fun w => x21 _ w)) ?_
  iterate 2 refine RL.p rfl rfl ?_
  refine RL.q (.free rfl) rfl rfl (Yld.callx rfl (fun w => x124 _ w)) ?_
  refine RL.p rfl rfl ?_
  refine RL.done ?_
  refine RK.ret_of Tryz.func85 (res1 rfl rfl) ?_ _
  exact ⟨_, rfl, congrArg (Value.float .f64) (by kernel_rfl), rfl⟩
def sgnS (b : Nat) : Bool := decide (9223372036854775808 ≤ b)
theorem signbit_ok (b : Nat) (hb : b < 18446744073709551616) (w : World) : Fx Tryz.prog 206 [.float .f64 b] w (fun u w' => u = .bool (sgnS b) ∧ w = w') := by
  refine enter Tryz.func206 rfl rfl rfl _ (Pick.sub (l := [0]) (.cons rfl .nil)) ?_
  refine RK.seq ?_
  refine RK.region ?_
  refine RL.p rfl rfl ?_
  refine RL.done ?_
  refine RK.seq ?_
  refine RK.region ?_
  refine RL.p rfl rfl ?_
  refine RL.q (.free rfl) rfl rfl (Yld.callx rfl (fun w => x21 _ w)) ?_
  refine RL.q (.free rfl) rfl rfl (Yld.convI Tryz.underlying36 Tryz.underlying2 rfl) ?_
  iterate 2 refine RL.p rfl rfl ?_
  refine RL.done ?_
  refine RK.ret_of Tryz.func206 (res1 rfl rfl) ?_ _
  exact ⟨_, rfl, congrArg _ (by rw [Bool.eq_iff_iff]; simp only [sgnS, decide_eq_true_eq, IntKind.wrap_i64]; omega), rfl⟩
/-- How value a stands to value b: numbers ahead of NaNs, the greater ahead of the smaller. -/
def rankS (a b : Nat) : Int := if nanS a = nanS b then cmpI (keyS b) (keyS a) else if nanS a then 1 else -1
end Go.Proofs.YtffbcfcoddacmaaGreat

