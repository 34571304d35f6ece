/- AlertMost: the walk. -/
import Derived.Test.YtmghlfdejceieaaV
set_option linter.unusedVariables false
set_option linter.unusedSimpArgs false
set_option maxHeartbeats 400000
set_option maxRecDepth 100000
namespace Go.Proofs.Ytmghlfdejceieaa
open Go Go.X

theorem most_ok (m : Int) (v : Nat) (hv : v < 18446744073709551616) (w : World) : Fx Try.prog 4 [.int .i64 m, .float .f64 v] w (fun u w' => u = .bool true ∧ Grow w w') := by
  obtain ⟨T, hT, hT1, hT16⟩ := capS_nat m
  refine enter Try.func4 rfl rfl rfl _ (Pick.sub (l := [0, 1]) (.cons rfl (.cons rfl .nil))) ?_
  refine RK.seq ?_
  refine RK.region ?_
  refine RL.p rfl rfl ?_
  refine RL.done ?_
  refine RK.seq ?_
  refine RK.region ?_
  refine RL.p rfl rfl ?_
  refine RL.op (.free rfl) rfl rfl (Does.call rfl e7 (new_at _ _)) ?_
  rintro _ w1 ⟨p, rfl, h1⟩
  refine RL.p rfl rfl ?_
  refine RL.done ?_
  iterate 2 refine RK.seq ?_
  refine RK.region ?_
  refine RL.p rfl rfl ?_
  refine RL.q (.free rfl) rfl rfl (Yld.eqPtr Try.underlying22 rfl rfl) ?_
  refine RL.done ?_
  refine RK.condF rfl ?_
  refine RK.skip ?_
  refine RK.seq ?_
  refine RK.region ?_
  refine RL.p rfl rfl ?_
  refine RL.q (.free rfl) rfl rfl (Yld.min2 rfl rfl) ?_
  refine RL.q (.free rfl) rfl rfl (Yld.max2 rfl rfl) ?_
  refine RL.p rfl rfl ?_
  refine RL.re (d := 6) rfl rfl (congrArg (Value.int .i64) (show _ = (T : Int) by rw [← hT]; unfold capS; split <;> split <;> (try split) <;> (try split) <;> omega)) ?_
  refine RL.done ?_
  iterate 2 refine RK.seq ?_
  refine RK.region ?_
  refine RL.p rfl rfl ?_
  refine RL.done ?_
  refine RK.block ?_
  refine RK.loop (fun k : Nat => [(1, .float .f64 v), (5, pp p), (6, .int .i64 (T : Int)), (7, .int .i64 (k : Int))]) (fun k w' => ∃ s, At w w' p s ∧ InvM T (if k < T then k else T) s ∧ k ≤ T + 1) (fun k => T + 1 - k) 0 ⟨rfl, rfl, rfl, rfl, trivial⟩ ⟨_, h1, by rw [if_pos (by omega)]; exact InvM.new hT, by omega⟩ (fun k w2 hI ih => ?_)
  obtain ⟨s, hs, hi, hk⟩ := hI
  iterate 2 refine RK.seq ?_
  refine RK.region ?_
  iterate 3 refine RL.p rfl rfl ?_
  refine RL.done ?_
  first | refine RK.condD rfl (fun h23 => ?_) (fun h23 => ?_) | refine RK.condN rfl (fun h23 => ?_) (fun h23 => ?_) | refine RK.cond rfl (fun h23 => ?_) (fun h23 => ?_)
  · have hkT : k ≤ T := by omega
    have hi' : InvM T k s := by
        by_cases hlt : k < T
        · rw [if_pos hlt] at hi; exact hi
        · rw [if_neg hlt] at hi
          have e : k = T := by omega
          rw [e]; exact hi
    obtain ⟨s', he, hi2⟩ := hi'.step hT16 hkT v
    have hi3 : InvM T (if k + 1 < T then k + 1 else T) s' := by
        by_cases h : k < T
        · rw [if_pos h] at hi2
          by_cases h' : k + 1 < T
          · rw [if_pos h']; exact hi2
          · have e : k + 1 = T := by omega
            rw [if_neg h']; rw [e] at hi2; exact hi2
        · have e : k = T := by omega
          rw [if_neg h, e] at hi2; rw [if_neg (by omega)]; exact hi2
    refine RK.skip ?_
    refine RK.seq ?_
    refine RK.block ?_
    refine RK.seq ?_
    refine RK.region ?_
    iterate 3 refine RL.p rfl rfl ?_
    refine RL.re (d := 29) rfl rfl (add_i64 (z := ((97 + k : Nat) : Int)) (by simp) (by omega) (by omega)) ?_
    refine RL.q (.free rfl) rfl rfl (Yld.convI Try.underlying3 Try.underlying5 rfl) ?_
    refine RL.re (d := 30) rfl rfl (congrArg (Value.int .u8) (show _ = ((97 + k : Nat) : Int) by rw [IntKind.wrap_u8]; omega)) ?_
    refine RL.op (.free rfl) rfl rfl (Does.slice1 u38 i5 rfl rfl rfl rfl rfl) ?_
    rintro _ w3 ⟨b1, rfl, hn1⟩
    refine RL.q (.free rfl) rfl rfl (Yld.bytesStr u38 Try.underlying5 Try.underlying9 (xs := [((97 + k : Nat) : Int)]) rfl rfl (atN (fun j u hj => by rw [Nat.zero_add]; exact hn1.blk.cell' hj))) ?_
    refine RL.q (.free rfl) rfl rfl (Yld.build (v := .agg #[.string ⟨#[97]⟩, .string (mkS [((97 + k : Nat) : Int)])]) rfl (fun w => by kernel_rfl)) ?_
    refine RL.op (.free rfl) rfl rfl (Does.slice1 u29 i28 rfl rfl rfl rfl rfl) ?_
    rintro _ w4 ⟨b2, rfl, hn2⟩
    refine RL.p rfl rfl ?_
    refine RL.op (.free rfl) rfl rfl (Does.call rfl e8 ((hs.grow hn1.grow).postN hn2 (ls := lsM k) rfl rfl (show 1 ≤ 1000 by omega) hv he)) ?_
    rintro _ w5 ⟨rfl, h5⟩
    iterate 7 refine RL.p rfl rfl ?_
    refine RL.done ?_
    refine RK.seq ?_
    refine RK.region ?_
    iterate 4 refine RL.p rfl rfl ?_
    first | refine RL.splitD (d := 43) rfl rfl (fun h43 => ?_) (fun h43 => ?_) | refine RL.splitN (d := 43) rfl rfl (fun h43 => ?_) (fun h43 => ?_) | refine RL.split (d := 43) rfl rfl (fun h43 => ?_) (fun h43 => ?_)
    · iterate 5 refine RL.q (.yes rfl rfl rfl) rfl rfl (Yld.pure rfl) ?_
      refine RL.knownF (d := 48) rfl rfl (decide_eq_false (by rw [if_pos (show k < T by omega), wrap_i64 (by omega) (by omega)]; simp)) ?_
      iterate 4 refine RL.q (.yes rfl rfl rfl) rfl rfl (Yld.pure rfl) ?_
      refine RL.knownF (d := 52) rfl rfl ((by simp; omega)) ?_
      iterate 3 refine RL.q (.yes rfl rfl rfl) rfl rfl (Yld.pure rfl) ?_
      iterate 2 refine RL.p rfl rfl ?_
      refine RL.knownF (d := 57) rfl rfl (decide_eq_false (by rw [if_pos (show k < T by omega)]; simp)) ?_
      iterate 4 refine RL.q (.yes rfl rfl rfl) rfl rfl (Yld.pure rfl) ?_
      refine RL.knownF (d := 61) rfl rfl (decide_eq_false (by omega)) ?_
      iterate 9 refine RL.no (.no rfl rfl rfl rfl) rfl rfl ?_
      refine RL.q (.yes rfl rfl rfl) rfl rfl (Yld.pure rfl) ?_
      refine RL.p rfl rfl ?_
      refine RL.done ?_
      refine RK.condF (hcF rfl (rfl)) ?_
      refine RK.skip ?_
      refine RK.inBlock ?_
      refine RK.region ?_
      iterate 2 refine RL.p rfl rfl ?_
      refine RL.re (d := 25) rfl rfl (succ_i64 (by omega)) ?_
      refine RL.p rfl rfl ?_
      refine RL.done ?_
      exact RK.back (ih (k + 1) _ ⟨s', h5, hi3, by omega⟩ (by omega)) ⟨rfl, rfl, rfl, rfl, trivial⟩
    · iterate 12 refine RL.no (.no rfl rfl rfl rfl) rfl rfl ?_
      iterate 2 refine RL.p rfl rfl ?_
      iterate 4 refine RL.q (.yes rfl rfl rfl) rfl rfl (Yld.pure rfl) ?_
      refine RL.knownT (d := 61) rfl rfl (decide_eq_true (by omega)) ?_
      iterate 3 refine RL.q (.yes rfl rfl rfl) rfl rfl (Yld.pure rfl) ?_
      refine RL.knownF (d := 64) rfl rfl (decide_eq_false (by rw [if_neg (show ¬ k < T by omega)]; simp)) ?_
      iterate 3 refine RL.q (.yes rfl rfl rfl) rfl rfl (Yld.pure rfl) ?_
      refine RL.knownF (d := 67) rfl rfl (decide_eq_false (by omega)) ?_
      iterate 4 refine RL.q (.yes rfl rfl rfl) rfl rfl (Yld.pure rfl) ?_
      refine RL.p rfl rfl ?_
      refine RL.done ?_
      refine RK.condF (hcF rfl (decide_eq_false (by rw [if_neg (show ¬ k < T by omega)]; simp))) ?_
      refine RK.skip ?_
      refine RK.inBlock ?_
      refine RK.region ?_
      iterate 2 refine RL.p rfl rfl ?_
      refine RL.re (d := 25) rfl rfl (succ_i64 (by omega)) ?_
      refine RL.p rfl rfl ?_
      refine RL.done ?_
      exact RK.back (ih (k + 1) _ ⟨s', h5, hi3, by omega⟩ (by omega)) ⟨rfl, rfl, rfl, rfl, trivial⟩
  · have hk2 : k = T + 1 := by omega
    rw [if_neg (by omega)] at hi
    obtain ⟨s', he, hal, hrl⟩ := hi.again hT1 4607182418800017408
    refine RK.exit rfl ?_
    refine RK.seq ?_
    refine RK.region ?_
    refine RL.p rfl rfl ?_
    refine RL.q (.free rfl) rfl rfl (Yld.build (v := .agg #[.string ⟨#[97]⟩, .string ⟨#[97]⟩]) rfl (fun w => by kernel_rfl)) ?_
    refine RL.op (.free rfl) rfl rfl (Does.slice1 u29 i28 rfl rfl rfl rfl rfl) ?_
    rintro _ w3 ⟨b1, rfl, hn1⟩
    refine RL.op (.free rfl) rfl rfl (Does.call rfl e8 (hs.postN hn1 (ls := lsA 97) rfl rfl (by decide) (by omega) he)) ?_
    rintro _ w4 ⟨rfl, h4⟩
    iterate 7 refine RL.p rfl rfl ?_
    refine RL.done ?_
    refine RK.seq ?_
    refine RK.region ?_
    iterate 3 refine RL.p rfl rfl ?_
    refine RL.knownT (d := 83) rfl rfl (rfl) ?_
    iterate 2 refine RL.q (.yes rfl rfl rfl) rfl rfl (Yld.pure rfl) ?_
    iterate 2 refine RL.p rfl rfl ?_
    refine RL.knownT (d := 87) rfl rfl (rfl) ?_
    iterate 2 refine RL.q (.yes rfl rfl rfl) rfl rfl (Yld.pure rfl) ?_
    iterate 2 refine RL.p rfl rfl ?_
    refine RL.knownT (d := 91) rfl rfl (rfl) ?_
    refine RL.q (.yes rfl rfl rfl) rfl rfl (Yld.pure rfl) ?_
    refine RL.op (.yes rfl rfl rfl) rfl rfl (Does.call rfl e13 (h4.len)) ?_
    rintro _ _ ⟨rfl, rfl⟩
    iterate 2 refine RL.q (.yes rfl rfl rfl) rfl rfl (Yld.pure rfl) ?_
    iterate 2 refine RL.p rfl rfl ?_
    refine RL.knownT (d := 97) rfl rfl (decide_eq_true (by rw [hal])) ?_
    refine RL.q (.yes rfl rfl rfl) rfl rfl (Yld.pure rfl) ?_
    refine RL.op (.yes rfl rfl rfl) rfl rfl (Does.call rfl e14 (h4.posts)) ?_
    rintro _ _ ⟨rfl, rfl⟩
    iterate 2 refine RL.q (.yes rfl rfl rfl) rfl rfl (Yld.pure rfl) ?_
    iterate 2 refine RL.p rfl rfl ?_
    refine RL.knownT (d := 103) rfl rfl (decide_eq_true (by rw [hrl])) ?_
    refine RL.op (.yes rfl rfl rfl) rfl rfl (Does.call rfl e3 (runs_ok _)) ?_
    rintro _ w5 ⟨rfl, hg5⟩
    iterate 2 refine RL.p rfl rfl ?_
    refine RL.done ?_
    refine RK.ret_of Try.func4 (res1 rfl rfl) ?_ _
    exact ⟨_, rfl, rfl, h4.all.trans hg5⟩
end Go.Proofs.Ytmghlfdejceieaa

