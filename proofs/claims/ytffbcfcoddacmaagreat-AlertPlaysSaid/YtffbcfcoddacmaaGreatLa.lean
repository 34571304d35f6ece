/- AlertValues, walked. -/
import Derived.Test.YtffbcfcoddacmaaGreatKb
set_option linter.unusedVariables false
set_option linter.unusedSimpArgs false
set_option maxHeartbeats 800000
set_option maxRecDepth 100000
namespace Go.Proofs.YtffbcfcoddacmaaGreat
open Go Go.X

theorem sameLabels_ok (M M' : Nat → Prop) (l1 l2 : List Lab) (v1 v2 : Value) (w : World) (hv1 : SlL M w v1 l1) (hv2 : SlL M' w v2 l2) :
    Fx Tryz.prog 20 [v1, v2] w (fun u w' => u = .bool (decide (l1 = l2)) ∧ Grow w w') := by
  obtain ⟨a1, c1, rfl⟩ := hv1.shape
  obtain ⟨a2, c2, rfl⟩ := hv2.shape
  have hbig := hv1.big
  refine enter Tryz.func20 rfl rfl rfl _ (Pick.sub (l := [0, 1]) (.cons rfl (.cons rfl .nil))) ?_
  refine RK.seq ?_
  refine RK.region ?_
  refine RL.p rfl rfl ?_
  refine RL.done ?_
  iterate 2 refine RK.seq ?_
  refine RK.region ?_
  refine RL.p rfl rfl ?_
  refine RL.q (.free rfl) rfl rfl (Yld.lenSl u26 rfl) ?_
  refine RL.p rfl rfl ?_
  refine RL.q (.free rfl) rfl rfl (Yld.lenSl u26 rfl) ?_
  refine RL.p rfl rfl ?_
  refine RL.done ?_
  first | refine RK.condD rfl (fun h10 => ?_) (fun h10 => ?_) | refine RK.condN rfl (fun h10 => ?_) (fun h10 => ?_) | refine RK.cond rfl (fun h10 => ?_) (fun h10 => ?_)
  · refine RK.seq ?_
    refine RK.region ?_
    refine RL.p rfl rfl ?_
    refine RL.done ?_
    refine RK.ret_of Tryz.func20 (res1 rfl rfl) ?_ _
    exact ⟨_, rfl, congrArg _ (by rw [eq_comm, decide_eq_false_iff_not]; rintro rfl; simp at h10), Mod.refl _ _⟩
  · refine RK.skip ?_
    iterate 2 refine RK.seq ?_
    refine RK.region ?_
    refine RL.p rfl rfl ?_
    refine RL.done ?_
    refine RK.block ?_
    refine RK.loop (fun k : Nat => [(0, .slice a1 l1.length c1), (1, .slice a2 l2.length c2), (5, .int .i64 k)]) (fun k w' => Grow w w' ∧ k ≤ l1.length ∧ l1.take k = l2.take k) (fun k => l1.length - k) 0 ⟨rfl, rfl, rfl, trivial⟩ ⟨Mod.refl _ _, by omega, by simp⟩ (fun k w' hI ih => ?_)
    obtain ⟨hg, hk, htk⟩ := hI
    have hl : l1.length = l2.length := by simp at h10; omega
    iterate 2 refine RK.seq ?_
    refine RK.region ?_
    iterate 2 refine RL.p rfl rfl ?_
    refine RL.q (.free rfl) rfl rfl (Yld.lenSl u26 rfl) ?_
    refine RL.p rfl rfl ?_
    refine RL.done ?_
    first | refine RK.condD rfl (fun h14 => ?_) (fun h14 => ?_) | refine RK.condN rfl (fun h14 => ?_) (fun h14 => ?_) | refine RK.cond rfl (fun h14 => ?_) (fun h14 => ?_)
    · obtain ⟨x, hx⟩ : ∃ x, l1[k]? = some x := ⟨l1[k]'(by omega), List.getElem?_eq_getElem (by omega)⟩
      obtain ⟨y, hy⟩ : ∃ y, l2[k]? = some y := ⟨l2[k]'(by omega), List.getElem?_eq_getElem (by omega)⟩
      obtain ⟨b1, o1, c1', he1, _, _, hc1⟩ := hv1.elem labC_len hx
      obtain ⟨b2, o2, c2', he2, _, _, hc2⟩ := hv2.elem labC_len hy
      cases he1
      cases he2
      refine RK.skip ?_
      refine RK.seq ?_
      refine RK.block ?_
      refine RK.seq ?_
      refine RK.drawM No [(0, false), (1, false), (2, false), (3, false), (4, false), (5, false), (6, false), (7, false), (8, false)] [] mixed (by kernel_rfl) ?_
      iterate 2 refine DL.p rfl rfl rfl ?_
      refine DL.qf rfl (.free rfl) rfl rfl (Yld.indexAddrN u26 i46 rfl rfl (by omega)) ?_
      refine DL.q rfl (.free rfl) rfl rfl rfl (Yld.loadN (cs := [.string x.name, .string x.value]) a46 rfl (atNM (fun j u hj => hg.cell (hc1 j u hj) (fun h => h)) (id))) (Mod.drew _ _) ?_
      iterate 2 refine DL.p rfl rfl rfl ?_
      refine DL.qf rfl (.free rfl) rfl rfl (Yld.indexAddrN u26 i46 rfl rfl (by omega)) ?_
      refine DL.q rfl (.free rfl) rfl rfl rfl (Yld.loadN (cs := [.string y.name, .string y.value]) a46 rfl (atNM (fun j u hj => hg.cell (hc2 j u hj) (fun h => h)) (id))) (Mod.drew _ _) ?_
      refine DL.qf rfl (.free rfl) rfl rfl (Yld.neqPair pair46 rfl rfl) ?_
      refine DL.done ?_
      first | refine RK.condD rfl (fun h25 => ?_) (fun h25 => ?_) | refine RK.condN rfl (fun h25 => ?_) (fun h25 => ?_) | refine RK.cond rfl (fun h25 => ?_) (fun h25 => ?_)
      · refine RK.seq ?_
        refine RK.region ?_
        refine RL.p rfl rfl ?_
        refine RL.done ?_
        refine RK.ret_of Tryz.func20 (res1 rfl rfl) ?_ _
        exact ⟨_, rfl, congrArg _ (by rw [eq_comm, decide_eq_false_iff_not]; rintro rfl; rw [hx] at hy; cases hy; exact h25 ⟨rfl, rfl⟩), hg.trans (Mod.drew _ _)⟩
      · refine RK.skip ?_
        refine RK.inBlock ?_
        refine RK.region ?_
        iterate 2 refine RL.p rfl rfl ?_
        refine RL.re (d := 16) rfl rfl (succ_i64 (by omega)) ?_
        refine RL.p rfl rfl ?_
        refine RL.done ?_
        exact RK.back (ih (k + 1) _ ⟨hg.trans (Mod.drew _ _), by omega, take_snoc_eq htk hx (by rw [lab_eq.1 h25]; exact hy)⟩ (by omega)) ⟨rfl, rfl, rfl, trivial⟩
    · refine RK.exit rfl ?_
      refine RK.seq ?_
      refine RK.region ?_
      refine RL.p rfl rfl ?_
      refine RL.done ?_
      refine RK.ret_of Tryz.func20 (res1 rfl rfl) ?_ _
      exact ⟨_, rfl, congrArg _ (by
          have e1 : k = l1.length := by omega
          have h1 : l1.take k = l1 := List.take_of_length_le (by omega)
          have h2 : l2.take k = l2 := List.take_of_length_le (by omega)
          rw [h1, h2] at htk; simp [htk]), hg⟩
theorem bits1_ok (b : Nat) (w : World) : Fx Tryz.prog 22 [.float .f64 b] w (fun v w' => v = .int .u64 (bitsS b) ∧ w = w') := by
  refine enter Tryz.func22 rfl rfl rfl _ (Pick.sub (l := [0]) (.cons rfl .nil)) ?_
  refine RK.seq ?_
  refine RK.region ?_
  refine RL.p rfl rfl ?_
  refine RL.done ?_
  iterate 2 refine RK.seq ?_
  refine RK.region ?_
  iterate 3 refine RL.p rfl rfl ?_
  refine RL.done ?_
  first | refine RK.condD rfl (fun h5 => ?_) (fun h5 => ?_) | refine RK.condN rfl (fun h5 => ?_) (fun h5 => ?_) | refine RK.cond rfl (fun h5 => ?_) (fun h5 => ?_)
  · refine RK.seq ?_
    refine RK.region ?_
    refine RL.p rfl rfl ?_
    refine RL.done ?_
    refine RK.ret_of Tryz.func22 (res1 rfl rfl) ?_ _
    exact ⟨_, rfl, by unfold bitsS nanS; rw [show Ieee.double.order b b = FloatKind.f64.format.order b b from rfl]; simp_all, rfl⟩
  · refine RK.skip ?_
    refine RK.seq ?_
    refine RK.region ?_
    refine RL.p rfl rfl ?_
    refine RL.q (.free rfl) rfl rfl (Yld.callx rfl (fun w => x21 _ w)) ?_
    refine RL.p rfl rfl ?_
    refine RL.done ?_
    refine RK.ret_of Tryz.func22 (res1 rfl rfl) ?_ _
    exact ⟨_, rfl, by unfold bitsS nanS; rw [show Ieee.double.order b b = FloatKind.f64.format.order b b from rfl]; simp_all, rfl⟩
/-! ### the plain law -/
theorem find_self (ls : List Lab) : findS [ls] ls = some 0 := by simp [findS]
section
variable (ls : List Lab) (his : isS ls = true) (u v : Nat)
def vS1 : St := (postS (St.new 3) ls u).1
def vS2 : St := (postS (vS1 ls u) ls v).1
def vS3 : St := (resolveS (vS2 ls u v) 1).1
def vS4 : St := (postS (vS3 ls u v) ls u).1
include his
theorem v1 : postS (St.new 3) ls u = (vS1 ls u, 1, true, 0) ∧ (vS1 ls u).al = [(1, ls, canS u)] ∧ (vS1 ls u).last = 1 ∧ (vS1 ls u).out = [1] ∧ (vS1 ls u).most = 3 := by
  have hf : fullS (St.new 3).most (St.new 3).last (St.new 3).out = false := by decide
  have hn : findS ((St.new 3).al.map (·.2.1)) ls = none := rfl
  have e : postS (St.new 3) ls u = (⟨(St.new 3).most, (St.new 3).last + 1, (St.new 3).out ++ [(St.new 3).last + 1], (St.new 3).al ++ [((St.new 3).last + 1, ls, canS u)], putM (St.new 3).has ((St.new 3).last + 1) ls, addRows (St.new 3).rows ((St.new 3).last + 1) ls⟩, (St.new 3).last + 1, true, 0) := by
    unfold postS; rw [if_neg (by simp [his]), hn]; simp [hf]
  unfold vS1
  rw [e]
  exact ⟨rfl, rfl, rfl, rfl, rfl⟩
theorem v2 : postS (vS1 ls u) ls v = (vS2 ls u v, 1, false, 0) ∧ (vS2 ls u v).al = [(1, ls, canS v)] ∧ (vS2 ls u v).last = 1 ∧ (vS2 ls u v).out = [1] ∧ (vS2 ls u v).most = 3 := by
  obtain ⟨_, h1, h2, h3, h4⟩ := v1 ls his u
  have hn : findS ((vS1 ls u).al.map (·.2.1)) ls = some 0 := by rw [h1]; exact find_self ls
  have e : postS (vS1 ls u) ls v = ({ vS1 ls u with al := (vS1 ls u).al.modify 0 fun a => (a.1, a.2.1, canS v) }, (((vS1 ls u).al[0]?).map (·.1)).getD 0, false, 0) := by
    unfold postS; rw [if_neg (by simp [his]), hn]
  unfold vS2
  rw [e]
  refine ⟨by rw [h1]; rfl, by simp only; rw [h1]; rfl, h2, h3, h4⟩
theorem v3 : resolveS (vS2 ls u v) 1 = (vS3 ls u v, 0) ∧ (vS3 ls u v).al = [] ∧ (vS3 ls u v).last = 1 ∧ (vS3 ls u v).out = [] ∧ (vS3 ls u v).most = 3 := by
  obtain ⟨_, h1, h2, h3, h4⟩ := v2 ls his u v
  have hp : placeS (vS2 ls u v) 1 = some 0 := by unfold placeS; rw [h1]; rfl
  have e : resolveS (vS2 ls u v) 1 = ({ vS2 ls u v with al := (vS2 ls u v).al.eraseIdx 0, out := giveS (vS2 ls u v).out 1, has := cutM (vS2 ls u v).has 1, rows := dropRows (vS2 ls u v).rows 1 ((lookM (vS2 ls u v).has 1).getD []) }, 0) := by
    unfold resolveS; rw [hp]
  unfold vS3
  rw [e]
  refine ⟨rfl, by simp only; rw [h1]; rfl, h2, ?_, h4⟩
  simp only
  rw [h3]
  have : ∀ x, x ∉ giveS [1] 1 := fun x hx => by
    unfold giveS at hx
    rw [if_pos (by decide), mem_cutRow] at hx
    simp at hx
  exact List.eq_nil_iff_forall_not_mem.2 this
theorem v4 : postS (vS3 ls u v) ls u = (vS4 ls u v, 2, true, 0) ∧ (vS4 ls u v).al = [(2, ls, canS u)] := by
  obtain ⟨_, h1, h2, h3, h4⟩ := v3 ls his u v
  have hf : fullS (vS3 ls u v).most (vS3 ls u v).last (vS3 ls u v).out = false := by rw [h2, h3, h4]; decide
  have hn : findS ((vS3 ls u v).al.map (·.2.1)) ls = none := by rw [h1]; rfl
  have e : postS (vS3 ls u v) ls u = (⟨(vS3 ls u v).most, (vS3 ls u v).last + 1, (vS3 ls u v).out ++ [(vS3 ls u v).last + 1], (vS3 ls u v).al ++ [((vS3 ls u v).last + 1, ls, canS u)], putM (vS3 ls u v).has ((vS3 ls u v).last + 1) ls, addRows (vS3 ls u v).rows ((vS3 ls u v).last + 1) ls⟩, (vS3 ls u v).last + 1, true, 0) := by
    unfold postS; rw [if_neg (by simp [his]), hn]; simp [hf]
  unfold vS4
  rw [e]
  refine ⟨by rw [h2]; rfl, by simp only; rw [h1, h2]; rfl⟩
theorem v5 : resolveS (vS4 ls u v) 1 = (vS4 ls u v, 5) := by
  obtain ⟨_, h1⟩ := v4 ls his u v
  have hp : placeS (vS4 ls u v) 1 = none := by unfold placeS; rw [h1]; rfl
  unfold resolveS; rw [hp]
theorem vget : getS (vS2 ls u v) 1 = some (1, ls, canS v) := by
  obtain ⟨_, h1, _⟩ := v2 ls his u v
  have hp : placeS (vS2 ls u v) 1 = some 0 := by unfold placeS; rw [h1]; rfl
  unfold getS; rw [hp, h1]; rfl
end
theorem rows_one {s : St} (h : Gd s) {i : Int} {ls : List Lab} {v : Nat} (ha : s.al = [(i, ls, v)]) : s.rows.length = ls.length := by
  have his : isS ls = true := h.sets (i, ls, v) (by rw [ha]; simp)
  refine h.ix.len (isS_nodup his) fun x => ?_
  rw [h.has, ha]
  simp [hasOf]
theorem can_bits (v : Nat) : ((canS v : Nat) : Int) = bitsS v := by
  unfold canS bitsS
  split <;> rfl
/-! ### the walk -/
theorem values_ok (xs : List Int) (vx : Value) (hi64 : ∀ x ∈ xs, -9223372036854775808 ≤ x ∧ x ≤ 9223372036854775807) (u v : Nat) (hu : u < 18446744073709551616) (hv : v < 18446744073709551616) (w : World) (hx : Sl No w vx 1 xs.length (ints xs)) :
    Fx Tryz.prog 3 [vx, .float .f64 u, .float .f64 v] w (fun r w' => r = .bool true ∧ Grow w w') := by
  have his := labels_isS xs
  obtain ⟨ls, hls⟩ : ∃ ls, labelsS xs = ls := ⟨_, rfl⟩
  rw [hls] at his
  obtain ⟨e1, a1, _⟩ := v1 ls his u
  obtain ⟨e2, a2, _⟩ := v2 ls his u v
  obtain ⟨e3, a3, _⟩ := v3 ls his u v
  obtain ⟨e4, a4⟩ := v4 ls his u v
  have e5 := v5 ls his u v
  have eg := vget ls his u v
  refine enter Tryz.func3 rfl rfl rfl _ (Pick.sub (l := [0, 1, 2]) (.cons rfl (.cons rfl (.cons rfl .nil)))) ?_
  refine RK.seq ?_
  refine RK.region ?_
  refine RL.p rfl rfl ?_
  refine RL.done ?_
  refine RK.seq ?_
  refine RK.region ?_
  refine RL.op (.free rfl) rfl rfl (Does.call rfl e16 (km_new 3 _)) ?_
  rintro _ w1 ⟨p, M1, rfl, k1, hM1, hg1⟩
  refine RL.p rfl rfl ?_
  refine RL.done ?_
  iterate 2 refine RK.seq ?_
  refine RK.region ?_
  refine RL.p rfl rfl ?_
  refine RL.q (.free rfl) rfl rfl (Yld.eqPtr Tryz.underlying24 rfl rfl) ?_
  refine RL.done ?_
  refine RK.condF (hcF rfl (rfl)) ?_
  refine RK.skip ?_
  refine RK.seq ?_
  refine RK.region ?_
  refine RL.p rfl rfl ?_
  refine RL.op (.free rfl) rfl rfl (Does.call rfl e17 (labels_ok No xs _ _ (hx.mod (Mod.any' hg1)) hi64)) ?_
  rintro _ w2 ⟨ad, c, rfl, hr2, hf2, hg2⟩
  rw [hls] at hr2 hf2
  rw [hls]
  have k2 := k1.grow hg2
  have hs2 : SlL M1 w2 (.slice ad ls.length c) ls := Sl.own hr2 (fun b e hb => by have := hf2 b e; have := k1.lt hb; omega)
  have hg02 := hg1.trans hg2
  refine RL.p rfl rfl ?_
  refine RL.done ?_
  refine RK.seq ?_
  refine RK.region ?_
  iterate 3 refine RL.p rfl rfl ?_
  refine RL.op (.free rfl) rfl rfl (Does.call rfl e18 (k2.post hs2 hu)) ?_
  rintro _ w3 ⟨M3, rfl, k3, hm3, hM3⟩
  rw [e1] at k3
  rw [e1]
  have hs3 := hs2.pass (by omega) hm3 hM3
  have hg03 : Grow w w3 := hg02.then hm3 (fun b hb e => by have := hM1 b e; omega)
  have hW3 : ∀ b, M3 b → w.heap.size ≤ b := fun b e => by rcases hM3 b e with h | h; exact hM1 b h; (have := hg02.size; omega)
  iterate 7 refine RL.p rfl rfl ?_
  refine RL.done ?_
  refine RK.seq ?_
  refine RK.region ?_
  iterate 3 refine RL.p rfl rfl ?_
  refine RL.op (.free rfl) rfl rfl (Does.call rfl e18 (KM.post (s := vS1 ls u) k3 hs3 hv)) ?_
  rintro _ w4 ⟨M4, rfl, k4, hm4, hM4⟩
  rw [e2] at k4
  rw [e2]
  have hs4 := hs3.pass (by omega) hm4 hM4
  have hg04 : Grow w w4 := hg03.then hm4 (fun b hb e => by have := hW3 b e; omega)
  have hW4 : ∀ b, M4 b → w.heap.size ≤ b := fun b e => by rcases hM4 b e with h | h; exact hW3 b h; (have := hg03.size; omega)
  iterate 7 refine RL.p rfl rfl ?_
  refine RL.done ?_
  refine RK.seq ?_
  refine RK.region ?_
  refine RL.p rfl rfl ?_
  refine RL.op (.free rfl) rfl rfl (Does.call rfl e19 (KM.get (s := vS2 ls u v) k4 1)) ?_
  rintro _ w5 ⟨ad5, c5, rfl, hr5, hg5⟩
  rw [eg] at hr5
  rw [eg]
  simp only [Option.getD_some] at hr5
  iterate 3 refine RL.p rfl rfl ?_
  refine RL.op (.free rfl) rfl rfl (Does.alloc i32) ?_
  rintro _ w6 ⟨b6, rfl, hn6⟩
  refine RL.op' (.free rfl) rfl (Does.storeN i32 rfl rfl rfl rfl hn6.blk (Nat.le_refl 3)) ?_
  rintro _ w7 ⟨hb7, hm7, _⟩
  have hB7 : Blk w7 b6 32 [.int .i64 1, .slice ad5 ls.length c5, .float .f64 (canS v)] := hb7
  have hg57 : Grow w5 w7 := hn6.grow.then hm7 (fun y hy e => by have e' : y = b6 := e; have := hn6.at_; omega)
  have hg47 : Grow w4 w7 := hg5.trans hg57
  refine RL.p rfl rfl ?_
  refine RL.done ?_
  iterate 2 refine RK.seq ?_
  refine RK.region ?_
  iterate 3 refine RL.p rfl rfl ?_
  refine RL.knownF (d := 49) rfl rfl (rfl) ?_
  iterate 2 refine RL.q (.yes rfl rfl rfl) rfl rfl (Yld.pure rfl) ?_
  iterate 2 refine RL.p rfl rfl ?_
  refine RL.knownF (d := 53) rfl rfl (rfl) ?_
  iterate 2 refine RL.q (.yes rfl rfl rfl) rfl rfl (Yld.pure rfl) ?_
  iterate 2 refine RL.p rfl rfl ?_
  refine RL.knownF (d := 57) rfl rfl (rfl) ?_
  iterate 2 refine RL.q (.yes rfl rfl rfl) rfl rfl (Yld.pure rfl) ?_
  iterate 2 refine RL.p rfl rfl ?_
  refine RL.knownF (d := 61) rfl rfl (rfl) ?_
  refine RL.q (.yes rfl rfl rfl) rfl rfl (Yld.pure rfl) ?_
  iterate 2 refine RL.p rfl rfl ?_
  refine RL.knownF (d := 64) rfl rfl (rfl) ?_
  iterate 2 refine RL.q (.yes rfl rfl rfl) rfl rfl (Yld.pure rfl) ?_
  iterate 2 refine RL.p rfl rfl ?_
  refine RL.knownF (d := 68) rfl rfl (rfl) ?_
  iterate 2 refine RL.q (.yes rfl rfl rfl) rfl rfl (Yld.pure rfl) ?_
  iterate 2 refine RL.p rfl rfl ?_
  refine RL.knownF (d := 72) rfl rfl (rfl) ?_
  refine RL.q (.yes rfl rfl rfl) rfl rfl (Yld.fieldAddr fo32_1 rfl) ?_
  refine RL.q (.yes rfl rfl rfl) rfl rfl (Yld.load p26 rfl (at1 (hB7.cell rfl))) ?_
  refine RL.q (.yes rfl rfl rfl) rfl rfl (Yld.pure rfl) ?_
  refine RL.op (.yes rfl rfl rfl) rfl rfl (Does.call rfl e20 (sameLabels_ok No M4 ls ls _ _ _ (Sl.own (hr5.mod hg57 (fun _ _ h => h)) (fun _ _ h => h)) (hs4.mod (Mod.any' hg47)))) ?_
  rintro _ w8 ⟨rfl, hg8⟩
  refine RL.q (.yes rfl rfl rfl) rfl rfl (Yld.pure rfl) ?_
  iterate 2 refine RL.p rfl rfl ?_
  refine RL.knownF (d := 79) rfl rfl (by simp) ?_
  refine RL.q (.yes rfl rfl rfl) rfl rfl (Yld.fieldAddr fo32_2 rfl) ?_
  refine RL.q (.yes rfl rfl rfl) rfl rfl (Yld.load p23 rfl (at1 ((hB7.mod hg8 (fun h => h)).cell rfl))) ?_
  refine RL.q (.yes rfl rfl rfl) rfl rfl (Yld.callx rfl (fun w => x21 _ w)) ?_
  refine RL.q (.yes rfl rfl rfl) rfl rfl (Yld.pure rfl) ?_
  refine RL.op (.yes rfl rfl rfl) rfl rfl (Does.call rfl e22 (bits1_ok v _)) ?_
  rintro _ _ ⟨rfl, rfl⟩
  have k8 := (k4.grow hg47).grow hg8
  refine RL.q (.yes rfl rfl rfl) rfl rfl (Yld.pure rfl) ?_
  iterate 2 refine RL.p rfl rfl ?_
  refine RL.knownF (d := 87) rfl rfl (by rw [can_bits]; simp) ?_
  refine RL.q (.yes rfl rfl rfl) rfl rfl (Yld.pure rfl) ?_
  refine RL.op (.yes rfl rfl rfl) rfl rfl (Does.call rfl e23 (KM.size (s := vS2 ls u v) k8)) ?_
  rintro _ _ ⟨rfl, rfl⟩
  refine RL.q (.yes rfl rfl rfl) rfl rfl (Yld.pure rfl) ?_
  refine RL.p rfl rfl ?_
  refine RL.done ?_
  refine RK.condF (hcF rfl (by rw [a2]; rfl)) ?_
  refine RK.skip ?_
  refine RK.seq ?_
  refine RK.region ?_
  refine RL.p rfl rfl ?_
  refine RL.op (.free rfl) rfl rfl (Does.call rfl e24 (KM.resolve (s := vS2 ls u v) k8 1)) ?_
  rintro _ w9 ⟨M9, rfl, k9, hm9, hM9⟩
  rw [e3] at k9
  rw [e3]
  have hs8 := (hs4.mod (Mod.any' hg47)).mod (Mod.any' hg8)
  have hs9 := hs8.pass (by omega) hm9 hM9
  have hg08 := (hg04.trans hg47).trans hg8
  have hg09 : Grow w w9 := hg08.then hm9 (fun b hb e => by have := hW4 b e; omega)
  have hW9 : ∀ b, M9 b → w.heap.size ≤ b := fun b e => by rcases hM9 b e with h | h; exact hW4 b h; (have := hg08.size; omega)
  refine RL.p rfl rfl ?_
  refine RL.done ?_
  refine RK.seq ?_
  refine RK.region ?_
  iterate 3 refine RL.p rfl rfl ?_
  refine RL.op (.free rfl) rfl rfl (Does.call rfl e18 (KM.post (s := vS3 ls u v) k9 hs9 hu)) ?_
  rintro _ w10 ⟨M10, rfl, k10, hm10, hM10⟩
  rw [e4] at k10
  rw [e4]
  have hg010 : Grow w w10 := hg09.then hm10 (fun b hb e => by have := hW9 b e; omega)
  have hW10 : ∀ b, M10 b → w.heap.size ≤ b := fun b e => by rcases hM10 b e with h | h; exact hW9 b h; (have := hg09.size; omega)
  iterate 7 refine RL.p rfl rfl ?_
  refine RL.done ?_
  refine RK.seq ?_
  refine RK.region ?_
  iterate 3 refine RL.p rfl rfl ?_
  refine RL.knownT (d := 104) rfl rfl (rfl) ?_
  refine RL.q (.yes rfl rfl rfl) rfl rfl (Yld.pure rfl) ?_
  refine RL.op (.yes rfl rfl rfl) rfl rfl (Does.call rfl e24 (KM.resolve (s := vS4 ls u v) k10 1)) ?_
  rintro _ w11 ⟨M11, rfl, k11, hm11, hM11⟩
  rw [e5] at k11
  rw [e5]
  have hg011 : Grow w w11 := hg010.then hm11 (fun b hb e => by have := hW10 b e; omega)
  refine RL.q (.yes rfl rfl rfl) rfl rfl (Yld.pure rfl) ?_
  iterate 2 refine RL.p rfl rfl ?_
  refine RL.knownT (d := 109) rfl rfl (rfl) ?_
  iterate 2 refine RL.q (.yes rfl rfl rfl) rfl rfl (Yld.pure rfl) ?_
  iterate 2 refine RL.p rfl rfl ?_
  refine RL.knownT (d := 113) rfl rfl (rfl) ?_
  refine RL.q (.yes rfl rfl rfl) rfl rfl (Yld.pure rfl) ?_
  iterate 2 refine RL.p rfl rfl ?_
  refine RL.knownT (d := 116) rfl rfl (rfl) ?_
  iterate 2 refine RL.q (.yes rfl rfl rfl) rfl rfl (Yld.pure rfl) ?_
  iterate 2 refine RL.p rfl rfl ?_
  refine RL.knownT (d := 120) rfl rfl (rfl) ?_
  refine RL.q (.yes rfl rfl rfl) rfl rfl (Yld.pure rfl) ?_
  refine RL.op (.yes rfl rfl rfl) rfl rfl (Does.call rfl e25 (KM.posts (s := vS4 ls u v) k11)) ?_
  rintro _ _ ⟨rfl, rfl⟩
  refine RL.q (.yes rfl rfl rfl) rfl rfl (Yld.pure rfl) ?_
  refine RL.q (.yes rfl rfl rfl) rfl rfl (Yld.lenSl u26 rfl) ?_
  refine RL.q (.yes rfl rfl rfl) rfl rfl (Yld.pure rfl) ?_
  iterate 2 refine RL.p rfl rfl ?_
  refine RL.knownT (d := 127) rfl rfl (by rw [rows_one (s := vS4 ls u v) k11.gd a4]; simp) ?_
  refine RL.op (.yes rfl rfl rfl) rfl rfl (Does.call rfl e26 (runs_ok _)) ?_
  rintro _ w12 ⟨rfl, hg12⟩
  iterate 2 refine RL.p rfl rfl ?_
  refine RL.done ?_
  refine RK.ret_of Tryz.func3 (res1 rfl rfl) ?_ _
  exact ⟨_, rfl, rfl, hg011.trans hg12⟩
end Go.Proofs.YtffbcfcoddacmaaGreat

