/- real.Rank; slices.Clone, Equal at labels; alerts searched. -/
import Derived.Test.YtffbcfcoddacmaaGreatH
set_option linter.unusedVariables false
set_option linter.unusedSimpArgs false
set_option maxHeartbeats 400000
set_option maxRecDepth 100000
namespace Go.Proofs.YtffbcfcoddacmaaGreat
open Go Go.X

theorem stable_ok (vs : List Nat) (hlt : ∀ v ∈ vs, v < 18446744073709551616) (xs : List Nat) (hxs : ∀ x ∈ xs, x < vs.length) (hm : xs.length < 20) (bx g : Nat) (v : Value) (w : World) (hg : Blk w g 3 (nats xs)) (hb : Blk w bx 148 [v]) (hv : Sl (· = g) w v 1 vs.length (flts vs)) (hne : bx ≠ g) :
    Fx Tryz.prog 169 [.slice (some ⟨g, 0, none⟩) xs.length xs.length, .int .i64 xs.length, .func (.func 136) #[] #[pp bx]] w
      (fun u w' => u = .tuple #[] ∧ Blk w' g 3 (nats (isort (ahead vs) xs)) ∧ Mod (· = g) w w') := by
  refine enter Tryz.func169 rfl rfl rfl _ (Pick.sub (l := [0, 1, 2]) (.cons rfl (.cons rfl (.cons rfl .nil)))) ?_
  refine RK.seq ?_
  refine RK.region ?_
  refine RL.p rfl rfl ?_
  refine RL.done ?_
  refine RK.seq ?_
  refine RK.region ?_
  iterate 3 refine RL.p rfl rfl ?_
  refine RL.done ?_
  refine RK.seq ?_
  refine RK.block ?_
  refine RK.loop (fun _ : Unit => [(0, .slice (some ⟨g, 0, none⟩) xs.length xs.length), (1, .int .i64 xs.length), (2, .func (.func 136) #[] #[pp bx]), (6, .int .i64 20), (7, .int .i64 0), (8, .int .i64 20)]) (fun _ w' => w = w') (fun _ => 0) () ⟨rfl, rfl, rfl, rfl, rfl, rfl, trivial⟩ rfl (fun _ w' hI ih => ?_)
  subst hI
  iterate 2 refine RK.seq ?_
  refine RK.region ?_
  iterate 3 refine RL.p rfl rfl ?_
  refine RL.done ?_
  refine RK.condF (hcF rfl (decide_eq_false (by omega))) ?_
  refine RK.exit rfl ?_
  refine RK.seq ?_
  refine RK.region ?_
  iterate 4 refine RL.p rfl rfl ?_
  refine RL.op (.free rfl) rfl rfl (Does.call rfl e204 (insSort_ok vs hlt xs hxs (by omega) bx g v _ hg hb hv hne)) ?_
  rintro _ w2 ⟨rfl, hg2, hm2⟩
  refine RL.done ?_
  refine RK.block ?_
  refine RK.loop (fun _ : Unit => [(1, .int .i64 xs.length), (6, .int .i64 20)]) (fun _ w' => w2 = w') (fun _ => 0) () ⟨rfl, rfl, trivial⟩ rfl (fun _ w' hI ih => ?_)
  subst hI
  iterate 2 refine RK.seq ?_
  refine RK.region ?_
  iterate 3 refine RL.p rfl rfl ?_
  refine RL.done ?_
  refine RK.condF (hcF rfl (decide_eq_false (by omega))) ?_
  refine RK.exit rfl ?_
  refine RK.end_of Tryz.func169 (res0 rfl) ?_
  exact ⟨_, rfl, rfl, hg2, hm2⟩
theorem sortStable_ok (vs : List Nat) (hlt : ∀ v ∈ vs, v < 18446744073709551616) (xs : List Nat) (m : Nat) (hxm : xs.length = m) (hxs : ∀ x ∈ xs, x < vs.length) (hm : xs.length < 20) (bx g : Nat) (v : Value) (w : World) (hg : Blk w g 3 (nats xs)) (hb : Blk w bx 148 [v]) (hv : Sl (· = g) w v 1 vs.length (flts vs)) (hne : bx ≠ g) :
    Fx Tryz.prog 135 [.slice (some ⟨g, 0, none⟩) m m, .func (.func 136) #[] #[pp bx]] w
      (fun u w' => u = .tuple #[] ∧ Blk w' g 3 (nats (isort (ahead vs) xs)) ∧ Mod (· = g) w w') := by
  subst hxm
  refine enter Tryz.func135 rfl rfl rfl _ (Pick.sub (l := [0, 1]) (.cons rfl (.cons rfl .nil))) ?_
  refine RK.region ?_
  iterate 2 refine RL.p rfl rfl ?_
  refine RL.q (.free rfl) rfl rfl (Yld.lenSl u22 rfl) ?_
  refine RL.p rfl rfl ?_
  refine RL.op (.free rfl) rfl rfl (Does.call rfl e169 (stable_ok vs hlt xs hxs hm bx g v _ hg hb hv hne)) ?_
  rintro _ w2 ⟨rfl, hg2, hm2⟩
  refine RL.done ?_
  refine RK.end_of Tryz.func135 (res0 rfl) ?_
  exact ⟨_, rfl, rfl, hg2, hm2⟩
/-- The places, those of the greatest values first. -/
def rankOf (vs : List Nat) : List Nat := isort (ahead vs) (List.range vs.length)
theorem rankOf_len (vs : List Nat) : (rankOf vs).length = vs.length := by simp [rankOf, isort_len]
theorem set_fill (k n : Nat) (h : k < n) : (nats (List.range k) ++ List.replicate (n - k) (Value.int .i64 0)).set k (.int .i64 (k : Int)) = nats (List.range (k + 1)) ++ List.replicate (n - (k + 1)) (Value.int .i64 0) := by
  obtain ⟨m, rfl⟩ : ∃ m, n = k + 1 + m := ⟨n - (k + 1), by omega⟩
  have e1 : k + 1 + m - k = m + 1 := by omega
  have e2 : k + 1 + m - (k + 1) = m := by omega
  rw [e1, e2, List.replicate_succ]
  simp [List.range_succ]
theorem rank_ok (M : Nat → Prop) (vs : List Nat) (hlt : ∀ v ∈ vs, v < 18446744073709551616) (hm : vs.length < 20) (v : Value) (w : World) (hv : Sl M w v 1 vs.length (flts vs)) :
    Fx Tryz.prog 94 [v] w (fun u w' => ∃ g, u = .slice (some ⟨g, 0, none⟩) vs.length vs.length ∧ Blk w' g 3 (nats (rankOf vs)) ∧ w.heap.size ≤ g ∧ Grow w w') := by
  obtain ⟨ad, c, rfl⟩ := hv.shape
  refine enter Tryz.func94 rfl rfl rfl _ (Pick.sub (l := [0]) (.cons rfl .nil)) ?_
  refine RK.seq ?_
  refine RK.region ?_
  refine RL.op (.free rfl) rfl rfl (Does.box rfl) ?_
  rintro _ w1 ⟨bx, rfl, hbx⟩
  refine RL.p rfl rfl ?_
  refine RL.done ?_
  refine RK.seq ?_
  refine RK.region ?_
  refine RL.q (.free rfl) rfl rfl (Yld.load p148 rfl (at1 (hbx.blk.cell rfl))) ?_
  refine RL.q (.free rfl) rfl rfl (Yld.lenSl u148 rfl) ?_
  refine RL.op (.free rfl) rfl rfl (Does.mkSlice u22 i3 rfl rfl rfl (by omega) (by omega)) ?_
  rintro _ w2 ⟨g, rfl, hng⟩
  have hne : bx ≠ g := by have := hng.at_; have := hbx.at_; have := hbx.size; omega
  have hgw : w.heap.size ≤ g := by have := hng.at_; have := hbx.size; omega
  have hvg : Sl (· = g) w (.slice ad vs.length c) 1 vs.length (flts vs) := hv.noM.off (by omega) (fun b hb e => by have e' : b = g := e; omega)
  refine RL.p rfl rfl ?_
  refine RL.done ?_
  iterate 2 refine RK.seq ?_
  refine RK.region ?_
  refine RL.p rfl rfl ?_
  refine RL.q (.free rfl) rfl rfl (Yld.lenSl u22 rfl) ?_
  refine RL.p rfl rfl ?_
  refine RL.done ?_
  refine RK.block ?_
  refine RK.loop (fun k : Nat => [(1, pp bx), (3, .slice (some ⟨g, 0, none⟩) vs.length vs.length), (9, .int .i64 vs.length), (10, .int .i64 k)]) (fun k w' => Blk w' g 3 (nats (List.range k) ++ List.replicate (vs.length - k) (Value.int .i64 0)) ∧ Mod (· = g) w2 w' ∧ k ≤ vs.length) (fun k => vs.length - k) 0 ⟨rfl, rfl, rfl, rfl, trivial⟩ ⟨hng.blk, Mod.refl _ _, by omega⟩ (fun k w' hI ih => ?_)
  obtain ⟨hb, hm2, hk⟩ := hI
  refine RK.seq ?_
  refine RK.region ?_
  refine RL.p rfl rfl ?_
  refine RL.done ?_
  refine RK.seq ?_
  first | refine RK.condD rfl (fun h11 => ?_) (fun h11 => ?_) | refine RK.condN rfl (fun h11 => ?_) (fun h11 => ?_) | refine RK.cond rfl (fun h11 => ?_) (fun h11 => ?_)
  · refine RK.skip ?_
    refine RK.seq ?_
    refine RK.block ?_
    refine RK.seq ?_
    refine RK.region ?_
    iterate 2 refine RL.p rfl rfl ?_
    refine RL.done ?_
    refine RK.region ?_
    iterate 3 refine RL.p rfl rfl ?_
    refine RL.q (.free rfl) rfl rfl (Yld.indexAddrN u22 i3 rfl rfl (by omega)) ?_
    refine RL.op' (.free rfl) rfl (Does.store i3 rfl rfl rfl hb (SetAt.of (by simp; omega))) ?_
    rintro _ w3 ⟨hb3, hm3, _⟩
    refine RL.done ?_
    refine RK.inBlock ?_
    refine RK.region ?_
    refine RL.p rfl rfl ?_
    refine RL.re (d := 17) rfl rfl (succ_i64 (by omega)) ?_
    refine RL.p rfl rfl ?_
    refine RL.done ?_
    exact RK.back (ih (k + 1) _ ⟨by rw [← set_fill k _ (by omega)]; simpa using hb3, hm2.trans hm3, by omega⟩ (by omega)) ⟨rfl, rfl, rfl, rfl, trivial⟩
  · have ek : k = vs.length := by omega
    subst ek
    have hb2 : Blk w' g 3 (nats (List.range vs.length)) := by simpa using hb
    refine RK.exit rfl ?_
    refine RK.seq ?_
    refine RK.region ?_
    iterate 2 refine RL.p rfl rfl ?_
    refine RL.op (.free rfl) rfl rfl (Does.call rfl e135 (sortStable_ok vs hlt (List.range vs.length) vs.length (by simp) (fun x hx => List.mem_range.1 hx) (by simpa using hm) bx g _ _ hb2 ((hbx.blk.mod hng.grow (fun h => h)).mod hm2 hne) (hvg.mod ((Mod.any' (hbx.grow.trans hng.grow)).trans hm2)) hne)) ?_
    rintro _ w4 ⟨rfl, hb4, hm4⟩
    refine RL.done ?_
    refine RK.seq ?_
    refine RK.region ?_
    iterate 2 refine RL.p rfl rfl ?_
    refine RL.done ?_
    refine RK.ret_of Tryz.func94 (res1 rfl rfl) ?_ _
    exact ⟨_, rfl, g, rfl, hb4, hgw, (hbx.grow.trans hng.grow).then (hm2.trans hm4) (fun x hx e => by have e' : x = g := e; omega)⟩
end Go.Proofs.YtffbcfcoddacmaaGreat

