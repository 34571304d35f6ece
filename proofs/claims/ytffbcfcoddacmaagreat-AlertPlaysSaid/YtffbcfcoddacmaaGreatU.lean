/- Chapter 15's runs. -/
import Derived.Test.YtffbcfcoddacmaaGreatT
set_option linter.unusedVariables false
set_option linter.unusedSimpArgs false
set_option maxHeartbeats 400000
set_option maxRecDepth 100000
namespace Go.Proofs.YtffbcfcoddacmaaGreat
open Go Go.X

/-- A store that was made behind world w0. -/
def At (w0 w : World) (p : Nat) (s : St) : Prop := ∃ M, StoreAt w p s M ∧ (∀ b, M b → w0.heap.size ≤ b) ∧ Grow w0 w ∧ Ok s
theorem At.grow {w0 w w' : World} {p : Nat} {s : St} (h : At w0 w p s) (hg : Grow w w') : At w0 w' p s := by
  obtain ⟨M, h1, h2, h3, h4⟩ := h
  exact ⟨M, h1.grow hg, h2, h3.trans hg, h4⟩
theorem At.all {w0 w : World} {p : Nat} {s : St} (h : At w0 w p s) : Grow w0 w := by
  obtain ⟨M, h1, h2, h3, h4⟩ := h
  exact h3
theorem new_at (m : Int) (w : World) : Fx Tryz.prog 16 [.int .i64 m] w (fun u w' => ∃ p, u = pp p ∧ At w w' p (St.new m)) :=
  Fx.mono (alertNew_ok m w) fun u w' ⟨p, M, h1, h2, h3, h4⟩ => ⟨p, h1, M, h2, h3, h4, Ok.new m⟩
theorem post_at {w0 w : World} {p : Nat} {s : St} {M : Nat → Prop} (h : StoreAt w p s M) (hM : ∀ b, M b → w0.heap.size ≤ b) (hg : Grow w0 w) (hok : Ok s) {ls : List Lab} {v : Value} (hv : SlL M w v ls) {val : Nat} (hval : val < 18446744073709551616) {s' : St} {id code : Int} {fr : Bool} (he : postS s ls val = (s', id, fr, code)) :
    Fx Tryz.prog 18 [pp p, v, .float .f64 val] w (fun u w' => u = .tuple #[.int .i64 id, .bool fr, .int .i64 code] ∧ At w0 w' p s') := by
  refine Fx.mono (post_ok w p s M h hok ls v hv val) ?_
  rintro u w' ⟨M', h1, h2, h3, h4⟩
  have hok' := hok.post ls hval
  rw [he] at h1 h2 hok'
  have := hg.size
  exact ⟨h1, M', h2, fun b hb => (h4 b hb).elim (hM b) (fun h => by omega), hg.then h3 (fun b hb e => by have := hM b e; omega), hok'⟩
/-- Labels that were just built are posted. -/
theorem At.postN {w0 w1 w2 : World} {p : Nat} {s : St} (h : At w0 w1 p s) {b : Nat} {t : TypeId} {cs : List Value} (hn : New w1 w2 b t cs) {ls : List Lab} {k : Nat} (hk : ls.length = k) (hcs : ls.flatMap labC = cs) (hbig : k ≤ 1000) {val : Nat} (hval : val < 18446744073709551616) {s' : St} {id code : Int} {fr : Bool} (he : postS s ls val = (s', id, fr, code)) :
    Fx Tryz.prog 18 [pp p, .slice (some ⟨b, 0, none⟩) k k, .float .f64 val] w2 (fun u w' => u = .tuple #[.int .i64 id, .bool fr, .int .i64 code] ∧ At w0 w' p s') := by
  obtain ⟨M, h1, h2, h3, h4⟩ := h
  subst hcs
  subst hk
  exact post_at (h1.grow hn.grow) h2 (h3.trans hn.grow) h4 (Sl.new hn 2 ls.length (flat_len labC 2 labC_len ls) (by omega) (fun e => by have := h1.lt e; have := hn.at_; omega)) hval he
theorem At.rank {w0 w : World} {p : Nat} {s : St} (h : At w0 w p s) : Fx Tryz.prog 37 [pp p] w (fun u w' => Row w' 3 1 u s.al.length (ints (rankIds s)) ∧ Fresh w.heap.size u ∧ Grow w w') := by
  obtain ⟨M, h1, h2, h3, h4⟩ := h
  exact alertRank_ok w p s M h1 h4.vals (by have h5 := h4.most; have h6 := h4.outLe; have h7 := h4.alOut; omega)
theorem At.len {w0 w : World} {p : Nat} {s : St} (h : At w0 w p s) : Fx Tryz.prog 23 [pp p] w (fun u w' => u = .int .i64 s.al.length ∧ w = w') := by
  obtain ⟨M, h1, h2, h3, h4⟩ := h
  exact alertLen_ok w p s M h1
theorem At.posts {w0 w : World} {p : Nat} {s : St} (h : At w0 w p s) : Fx Tryz.prog 25 [pp p] w (fun u w' => u = .int .i64 s.rows.length ∧ w = w') := by
  obtain ⟨M, h1, h2, h3, h4⟩ := h
  exact alertPosts_ok w p s M h1

/-! ### the runs -/
def lsA (c : UInt8) : List Lab := [⟨⟨#[97]⟩, ⟨#[c]⟩⟩]
def sR1 : St := (postS (St.new 5) (lsA 120) 9223372036854775808).1
def sR2 : St := (postS sR1 (lsA 121) 9221120237041090561).1
def sR3 : St := (postS sR2 (lsA 122) 0).1
def sR4 : St := (postS sR3 (lsA 121) 9221120237041090561).1
theorem eR1 : postS (St.new 5) (lsA 120) 9223372036854775808 = (sR1, 1, true, 0) := by kernel_rfl
theorem eR2 : postS sR1 (lsA 121) 9221120237041090561 = (sR2, 2, true, 0) := by kernel_rfl
theorem eR3 : postS sR2 (lsA 122) 0 = (sR3, 3, true, 0) := by kernel_rfl
theorem eR4 : postS sR3 (lsA 121) 9221120237041090561 = (sR4, 2, false, 0) := by kernel_rfl
theorem rR4 : rankIds sR4 = [3, 1, 2] := by kernel_rfl
theorem lR4 : sR4.al.length = 3 := by kernel_rfl
theorem pR4 : sR4.rows.length = 3 := by kernel_rfl
theorem runs_ok (w : World) : Fx Tryz.prog 26 [] w (fun u w' => u = .bool true ∧ Grow w w') := by
  refine enter Tryz.func26 rfl rfl rfl _ (Pick.sub (l := []) .nil) ?_
  refine RK.seq ?_
  refine RK.region ?_
  refine RL.p rfl rfl ?_
  refine RL.done ?_
  refine RK.seq ?_
  refine RK.region ?_
  refine RL.op (.free rfl) rfl rfl (Does.call rfl e16 (new_at _ _)) ?_
  rintro _ w1 ⟨p, rfl, h1⟩
  refine RL.p rfl rfl ?_
  refine RL.done ?_
  iterate 2 refine RK.seq ?_
  refine RK.region ?_
  refine RL.p rfl rfl ?_
  refine RL.q (.free rfl) rfl rfl (Yld.eqPtr Tryz.underlying24 rfl rfl) ?_
  refine RL.done ?_
  refine RK.condF rfl ?_
  refine RK.skip ?_
  refine RK.seq ?_
  refine RK.region ?_
  refine RL.p rfl rfl ?_
  refine RL.q (.free rfl) rfl rfl (Yld.build (v := .agg #[.string ⟨#[97]⟩, .string ⟨#[120]⟩]) rfl (fun w => by kernel_rfl)) ?_
  refine RL.op (.free rfl) rfl rfl (Does.slice1 u26 i46 rfl rfl rfl rfl rfl) ?_
  rintro _ w2 ⟨b1, rfl, hn1⟩
  refine RL.op (.free rfl) rfl rfl (Does.call rfl e85 (copysign0_ok _)) ?_
  rintro _ _ ⟨rfl, rfl⟩
  refine RL.op (.free rfl) rfl rfl (Does.call rfl e18 (h1.postN hn1 (ls := lsA 120) rfl rfl (by decide) (by omega) eR1)) ?_
  rintro _ w3 ⟨rfl, h3⟩
  iterate 7 refine RL.p rfl rfl ?_
  refine RL.done ?_
  refine RK.seq ?_
  refine RK.region ?_
  refine RL.p rfl rfl ?_
  refine RL.q (.free rfl) rfl rfl (Yld.build (v := .agg #[.string ⟨#[97]⟩, .string ⟨#[121]⟩]) rfl (fun w => by kernel_rfl)) ?_
  refine RL.op (.free rfl) rfl rfl (Does.slice1 u26 i46 rfl rfl rfl rfl rfl) ?_
  rintro _ w4 ⟨b2, rfl, hn2⟩
  refine RL.op (.free rfl) rfl rfl (Does.call rfl e86 (nan_ok _)) ?_
  rintro _ _ ⟨rfl, rfl⟩
  refine RL.op (.free rfl) rfl rfl (Does.call rfl e18 (h3.postN hn2 (ls := lsA 121) rfl rfl (by decide) (by omega) eR2)) ?_
  rintro _ w5 ⟨rfl, h5⟩
  iterate 7 refine RL.p rfl rfl ?_
  refine RL.done ?_
  refine RK.seq ?_
  refine RK.region ?_
  refine RL.p rfl rfl ?_
  refine RL.q (.free rfl) rfl rfl (Yld.build (v := .agg #[.string ⟨#[97]⟩, .string ⟨#[122]⟩]) rfl (fun w => by kernel_rfl)) ?_
  refine RL.op (.free rfl) rfl rfl (Does.slice1 u26 i46 rfl rfl rfl rfl rfl) ?_
  rintro _ w6 ⟨b3, rfl, hn3⟩
  refine RL.op (.free rfl) rfl rfl (Does.call rfl e18 (h5.postN hn3 (ls := lsA 122) rfl rfl (by decide) (by omega) eR3)) ?_
  rintro _ w7 ⟨rfl, h7⟩
  iterate 7 refine RL.p rfl rfl ?_
  refine RL.done ?_
  refine RK.seq ?_
  refine RK.region ?_
  refine RL.p rfl rfl ?_
  refine RL.q (.free rfl) rfl rfl (Yld.build (v := .agg #[.string ⟨#[97]⟩, .string ⟨#[121]⟩]) rfl (fun w => by kernel_rfl)) ?_
  refine RL.op (.free rfl) rfl rfl (Does.slice1 u26 i46 rfl rfl rfl rfl rfl) ?_
  rintro _ w8 ⟨b4, rfl, hn4⟩
  refine RL.op (.free rfl) rfl rfl (Does.call rfl e86 (nan_ok _)) ?_
  rintro _ _ ⟨rfl, rfl⟩
  refine RL.op (.free rfl) rfl rfl (Does.call rfl e18 (h7.postN hn4 (ls := lsA 121) rfl rfl (by decide) (by omega) eR4)) ?_
  rintro _ w9 ⟨rfl, h9⟩
  iterate 7 refine RL.p rfl rfl ?_
  refine RL.done ?_
  refine RK.seq ?_
  refine RK.region ?_
  iterate 3 refine RL.p rfl rfl ?_
  refine RL.knownT (d := 54) rfl rfl (rfl) ?_
  refine RL.q (.yes rfl rfl rfl) rfl rfl (Yld.pure rfl) ?_
  iterate 2 refine RL.p rfl rfl ?_
  refine RL.knownT (d := 57) rfl rfl (rfl) ?_
  iterate 2 refine RL.q (.yes rfl rfl rfl) rfl rfl (Yld.pure rfl) ?_
  iterate 2 refine RL.p rfl rfl ?_
  refine RL.knownT (d := 61) rfl rfl (rfl) ?_
  iterate 2 refine RL.q (.yes rfl rfl rfl) rfl rfl (Yld.pure rfl) ?_
  iterate 2 refine RL.p rfl rfl ?_
  refine RL.knownT (d := 65) rfl rfl (rfl) ?_
  iterate 2 refine RL.q (.yes rfl rfl rfl) rfl rfl (Yld.pure rfl) ?_
  iterate 2 refine RL.p rfl rfl ?_
  refine RL.knownT (d := 69) rfl rfl (rfl) ?_
  iterate 2 refine RL.q (.yes rfl rfl rfl) rfl rfl (Yld.pure rfl) ?_
  iterate 2 refine RL.p rfl rfl ?_
  refine RL.knownT (d := 73) rfl rfl (rfl) ?_
  iterate 2 refine RL.q (.yes rfl rfl rfl) rfl rfl (Yld.pure rfl) ?_
  iterate 2 refine RL.p rfl rfl ?_
  refine RL.knownT (d := 77) rfl rfl (rfl) ?_
  refine RL.q (.yes rfl rfl rfl) rfl rfl (Yld.pure rfl) ?_
  refine RL.op (.yes rfl rfl rfl) rfl rfl (Does.call rfl e37 (h9.rank)) ?_
  rintro u10 w10 ⟨hr10, _, hg10⟩
  refine RL.op (.yes rfl rfl rfl) rfl rfl (Does.bslice (el := 3) ([.int .i64 3, .int .i64 1, .int .i64 2]) rfl (fun w => by kernel_rfl)) ?_
  rintro _ w11 ⟨b5, rfl, hn5⟩
  refine RL.op (.yes rfl rfl rfl) rfl rfl (Does.call rfl e29 (sameInts_ok No (rankIds sR4) [3, 1, 2] u10 _ _ (by have := Sl.own (M := No) (hr10.mod hn5.grow (fun _ _ h => h)) (fun _ _ h => h); rw [show (rankIds sR4).length = sR4.al.length from rankIds_len _]; exact this) (Sl.new hn5 1 3 rfl (by omega) (fun h => h)))) ?_
  rintro _ w12 ⟨rfl, hg12⟩
  have h12 := ((h9.grow hg10).grow hn5.grow).grow hg12
  iterate 2 refine RL.p rfl rfl ?_
  refine RL.knownT (d := 83) rfl rfl (decide_eq_true rR4) ?_
  refine RL.q (.yes rfl rfl rfl) rfl rfl (Yld.pure rfl) ?_
  refine RL.op (.yes rfl rfl rfl) rfl rfl (Does.call rfl e23 (h12.len)) ?_
  rintro _ _ ⟨rfl, rfl⟩
  refine RL.q (.yes rfl rfl rfl) rfl rfl (Yld.pure rfl) ?_
  iterate 2 refine RL.p rfl rfl ?_
  refine RL.knownT (d := 88) rfl rfl (by rw [lR4]; rfl) ?_
  refine RL.q (.yes rfl rfl rfl) rfl rfl (Yld.pure rfl) ?_
  refine RL.op (.yes rfl rfl rfl) rfl rfl (Does.call rfl e25 (h12.posts)) ?_
  rintro _ _ ⟨rfl, rfl⟩
  refine RL.q (.yes rfl rfl rfl) rfl rfl (Yld.pure rfl) ?_
  iterate 2 refine RL.p rfl rfl ?_
  refine RL.done ?_
  refine RK.ret_of Tryz.func26 (res1 rfl rfl) ?_ _
  exact ⟨_, rfl, by rw [pR4]; rfl, h12.all⟩
end Go.Proofs.YtffbcfcoddacmaaGreat

