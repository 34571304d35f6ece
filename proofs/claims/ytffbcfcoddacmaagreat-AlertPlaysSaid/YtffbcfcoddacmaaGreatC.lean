/- slices.Clone, slices.Equal at labels, a predicate over alerts. -/
import Derived.Test.YtffbcfcoddacmaaGreatB
set_option linter.unusedVariables false
set_option linter.unusedSimpArgs false
set_option maxHeartbeats 400000
set_option maxRecDepth 100000
namespace Go.Proofs.YtffbcfcoddacmaaGreat
open Go Go.X

theorem allOne_ints (xs : List Int) : (xs.map (Value.int .i64)).all (·.oneCell') = true := by simp [Value.oneCell']
theorem allOne_labs (ls : List Lab) : (ls.flatMap labC).all (·.oneCell') = true := by
  rw [List.all_eq_true]
  intro u hu
  simp only [List.mem_flatMap, labC] at hu
  obtain ⟨x, _, hu⟩ := hu
  simp at hu
  rcases hu with rfl | rfl <;> rfl
theorem cloneI_ok (M : Nat → Prop) (xs : List Int) (v : Value) (w : World) (hv : Sl M w v 1 xs.length (xs.map (.int .i64))) (hb : xs.length * 8 ≤ 140737488355328) :
    Fx Tryz.prog 99 [v] w (fun u w' => Row w' 3 1 u xs.length (xs.map (.int .i64)) ∧ Fresh w.heap.size u ∧ Grow w w') := by
  obtain ⟨ad, c, b, o, rfl, hf⟩ := hv.open
  refine enter Tryz.func99 rfl rfl rfl _ (Pick.sub (l := [0]) (.cons rfl .nil)) ?_
  refine RK.seq ?_
  refine RK.region ?_
  refine RL.p rfl rfl ?_
  refine RL.done ?_
  iterate 2 refine RK.seq ?_
  refine RK.region ?_
  refine RL.p rfl rfl ?_
  refine RL.q (.free rfl) rfl rfl (Yld.eqNil u22 rfl rfl) ?_
  refine RL.done ?_
  first | refine RK.condD rfl (fun h4 => ?_) (fun h4 => ?_) | refine RK.condN rfl (fun h4 => ?_) (fun h4 => ?_) | refine RK.cond rfl (fun h4 => ?_) (fun h4 => ?_)
  · refine RK.seq ?_
    refine RK.region ?_
    refine RL.p rfl rfl ?_
    refine RL.done ?_
    refine RK.ret_of Tryz.func99 (res1 rfl rfl) ?_ _
    exact ⟨_, rfl, by cases ad with | none => (have h0 : xs.length = 0 := by (rcases Nat.eq_zero_or_pos xs.length with h | h; exact h; exact absurd (hf h).1 (by simp))); have : xs = [] := List.eq_nil_of_length_eq_zero h0; subst this; exact ⟨Row.nil _ _ _, fun b hb => by simp [Value.ownBlock] at hb, Mod.refl _ _⟩ | some a => simp at h4⟩
  · refine RK.skip ?_
    refine RK.seq ?_
    refine RK.region ?_
    refine RL.op (.free rfl) rfl rfl (Does.slice0 u22 i3) ?_
    rintro _ w1 ⟨b1, rfl, hn1⟩
    refine RL.p rfl rfl ?_
    refine RL.op (.free rfl) rfl rfl (Does.append u22 i3 rfl rfl rfl rfl rfl (Row.new hn1 1 0 rfl (by omega)) ((hv.mod (Mod.any' hn1.grow)).noM) (allOne_ints xs) (by omega)) ?_
    rintro u w2 ⟨hr, hm, hu⟩
    refine RL.p rfl rfl ?_
    refine RL.done ?_
    refine RK.ret_of Tryz.func99 (res1 rfl rfl) ?_ _
    exact ⟨_, rfl, by simpa using hr, fun b hb => by rcases hu with hu | hu <;> rw [hu] at hb <;> simp [Value.ownBlock] at hb <;> (have := hn1.at_; have := hn1.size; omega), hn1.grow.then hm (fun x hx e => by simp [Value.ownBlock] at e; have := hn1.at_; omega)⟩
end Go.Proofs.YtffbcfcoddacmaaGreat

