/- Chapter 10's runs. -/
import Derived.Test.YtffbcfcoddacmaaGreatFd
set_option linter.unusedVariables false
set_option linter.unusedSimpArgs false
set_option maxHeartbeats 800000
set_option maxRecDepth 100000
namespace Go.Proofs.YtffbcfcoddacmaaGreat
open Go Go.X

def lbA : List Lab := [⟨⟨#[97]⟩, ⟨#[120]⟩⟩]
def lbB : List Lab := [⟨⟨#[98]⟩, ⟨#[121]⟩⟩]
def lbC : List Lab := [⟨⟨#[98]⟩, ⟨#[122]⟩⟩]
def has1 : List (Int × List Lab) := [(1, lbA)]
def has2 : List (Int × List Lab) := [(1, lbA), (2, lbB)]
def rw1 : List (LabK × List Int) := addRows [] 1 lbA
def rw2 : List (LabK × List Int) := addRows rw1 2 lbB
theorem eA1 : addable [] 1 lbA = true := by kernel_rfl
theorem eA2 : addable has1 2 lbB = true := by kernel_rfl
theorem eA3 : addable has2 2 lbC = false := by kernel_rfl
theorem eH1 : addH [] 1 lbA = has1 := by kernel_rfl
theorem eH2 : addH has1 2 lbB = has2 := by kernel_rfl
theorem eH3 : addH has2 2 lbC = has2 := by kernel_rfl
theorem eW1 : addR [] [] 1 lbA = rw1 := by kernel_rfl
theorem eW2 : addR has1 rw1 2 lbB = rw2 := by kernel_rfl
theorem eW3 : addR has2 rw2 2 lbC = rw2 := by kernel_rfl
theorem eL2 : rw2.length = 2 := by kernel_rfl
theorem rwLe : (∀ t ∈ rw1, t.2.length ≤ 5994) ∧ ∀ t ∈ rw2, t.2.length ≤ 5994 := by
  have h1 : ∀ t ∈ rw1, t.2.length ≤ 0 + lbA.length := addRows_bound (by simp) 1 lbA
  have h2 : ∀ t ∈ rw2, t.2.length ≤ 0 + lbA.length + lbB.length := addRows_bound h1 2 lbB
  have l1 : lbA.length = 1 := rfl
  have l2 : lbB.length = 1 := rfl
  exact ⟨fun t ht => by have := h1 t ht; omega, fun t ht => by have := h2 t ht; omega⟩
def mt1 : Mt := ⟨2, ⟨#[97]⟩, ⟨#[120]⟩⟩
def mt2 : Mt := ⟨1, ⟨#[97]⟩, ByteArray.empty⟩
theorem only2 {m : Mt} {R : List Int} (hR : Ris R) (h1 : holdsV m lbA = false) (h2 : holdsV m lbB = true) (hm : ∀ id, id ∈ R ↔ ∃ ls, (id, ls) ∈ has2 ∧ ([m].all fun m => holdsV m ls) = true) : R = [2] := by
  refine ext_ris hR (by simp) fun x => ?_
  rw [hm]
  constructor
  · rintro ⟨ls, hl, ha⟩
    simp only [has2, List.mem_cons, List.not_mem_nil, or_false, Prod.mk.injEq] at hl
    rcases hl with ⟨rfl, rfl⟩ | ⟨rfl, rfl⟩
    · simp [h1] at ha
    · simp
  · intro h
    simp at h
    subst h
    exact ⟨lbB, by simp [has2], by simp [h2]⟩
theorem find_two {M : Nat → Prop} {w : World} {ix : Nat} (h : IM M No w ix has2 rw2) {m : Mt} (hk : likeS m = false) (heq : m.kind = 1 → m.value = ByteArray.empty) (h1 : holdsV m lbA = false) (h2 : holdsV m lbB = true) {v : Value} (hv : SlM No w v [m]) :
    Fx Tryz.prog 30 [pp ix, v] w (fun u w' => Row w' 3 1 u 1 (ints [2]) ∧ Grow w w') := by
  refine Fx.mono (h.find holdsV [m] (fun m' hm => by simp at hm; subst hm; exact holdsV_ok _ hk) (fun m' hm a b => by simp at hm; subst hm; exact absurd (heq a) b) v hv) ?_
  rintro u w' ⟨⟨R, h3, h4, h5⟩, _, h6⟩
  have := only2 h4 h1 h2 h5
  subst this
  exact ⟨h3, h6⟩
theorem iruns_ok (w : World) : Fx Tryz.prog 4 [] w (fun u w' => u = .bool true ∧ Grow w w') := by
  refine enter Tryz.func4 rfl rfl rfl _ (Pick.sub (l := []) .nil) ?_
  refine RK.seq ?_
  refine RK.region ?_
  refine RL.p rfl rfl ?_
  refine RL.done ?_
  refine RK.seq ?_
  refine RK.region ?_
  refine RL.op (.free rfl) rfl rfl (Does.call rfl e27 (im_new _)) ?_
  rintro _ w1 ⟨ix, M, rfl, k1, hM, _, hg1⟩
  refine RL.p rfl rfl ?_
  refine RL.done ?_
  iterate 2 refine RK.seq ?_
  refine RK.region ?_
  refine RL.p rfl rfl ?_
  refine RL.q (.free rfl) rfl rfl (Yld.eqPtr Tryz.underlying42 rfl rfl) ?_
  refine RL.done ?_
  refine RK.condF (hcF rfl (rfl)) ?_
  refine RK.skip ?_
  refine RK.seq ?_
  refine RK.region ?_
  refine RL.p rfl rfl ?_
  refine RL.q (.free rfl) rfl rfl (Yld.build (v := .agg #[.string ⟨#[97]⟩, .string ⟨#[120]⟩]) rfl (fun w => by kernel_rfl)) ?_
  refine RL.op (.free rfl) rfl rfl (Does.slice1 u26 i46 rfl rfl rfl rfl rfl) ?_
  rintro _ w2 ⟨b1, rfl, hn1⟩
  have s2 : SlL (fun b => M b ∨ No b) w2 (.slice (some ⟨b1, 0, none⟩) 1 1) lbA := Sl.new hn1 2 1 rfl (by omega) (fun e => by have := k1.lt2 e; have := hn1.at_; omega)
  refine RL.op (.free rfl) rfl rfl (Does.call rfl e28 ((k1.grow hn1.grow).add (by simp) (by simp) (by omega) s2)) ?_
  rintro _ w3 ⟨rfl, k3, hm3⟩
  rw [eH1, eW1] at k3
  rw [eA1]
  have hg3 : Grow w w3 := (hg1.trans hn1.grow).then hm3 (fun b hb e => by have := hM b e; omega)
  refine RL.p rfl rfl ?_
  refine RL.done ?_
  refine RK.seq ?_
  refine RK.region ?_
  refine RL.p rfl rfl ?_
  refine RL.q (.free rfl) rfl rfl (Yld.build (v := .agg #[.string ⟨#[98]⟩, .string ⟨#[121]⟩]) rfl (fun w => by kernel_rfl)) ?_
  refine RL.op (.free rfl) rfl rfl (Does.slice1 u26 i46 rfl rfl rfl rfl rfl) ?_
  rintro _ w4 ⟨b2, rfl, hn2⟩
  have s4 : SlL (fun b => M b ∨ No b) w4 (.slice (some ⟨b2, 0, none⟩) 1 1) lbB := Sl.new hn2 2 1 rfl (by omega) (fun e => by have := k3.lt2 e; have := hn2.at_; omega)
  refine RL.op (.free rfl) rfl rfl (Does.call rfl e28 ((k3.grow hn2.grow).add (by decide) rwLe.1 (by omega) s4)) ?_
  rintro _ w5 ⟨rfl, k5, hm5⟩
  rw [eH2, eW2] at k5
  rw [eA2]
  have hg5 : Grow w w5 := (hg3.trans hn2.grow).then hm5 (fun b hb e => by have := hM b e; omega)
  refine RL.p rfl rfl ?_
  refine RL.done ?_
  refine RK.seq ?_
  refine RK.region ?_
  refine RL.p rfl rfl ?_
  refine RL.q (.free rfl) rfl rfl (Yld.build (v := .agg #[.string ⟨#[98]⟩, .string ⟨#[122]⟩]) rfl (fun w => by kernel_rfl)) ?_
  refine RL.op (.free rfl) rfl rfl (Does.slice1 u26 i46 rfl rfl rfl rfl rfl) ?_
  rintro _ w6 ⟨b3, rfl, hn3⟩
  have s6 : SlL (fun b => M b ∨ No b) w6 (.slice (some ⟨b3, 0, none⟩) 1 1) lbC := Sl.new hn3 2 1 rfl (by omega) (fun e => by have := k5.lt2 e; have := hn3.at_; omega)
  refine RL.op (.free rfl) rfl rfl (Does.call rfl e28 ((k5.grow hn3.grow).add (by decide) rwLe.2 (by omega) s6)) ?_
  rintro _ w7 ⟨rfl, k7, hm7⟩
  rw [eH3, eW3] at k7
  rw [eA3]
  have hg7 : Grow w w7 := (hg5.trans hn3.grow).then hm7 (fun b hb e => by have := hM b e; omega)
  refine RL.p rfl rfl ?_
  refine RL.done ?_
  refine RK.seq ?_
  refine RK.region ?_
  iterate 2 refine RL.p rfl rfl ?_
  refine RL.knownT (d := 21) rfl rfl (rfl) ?_
  refine RL.q (.yes rfl rfl rfl) rfl rfl (Yld.pure rfl) ?_
  iterate 2 refine RL.p rfl rfl ?_
  refine RL.knownT (d := 24) rfl rfl (rfl) ?_
  iterate 2 refine RL.q (.yes rfl rfl rfl) rfl rfl (Yld.pure rfl) ?_
  iterate 2 refine RL.p rfl rfl ?_
  refine RL.knownT (d := 28) rfl rfl (rfl) ?_
  refine RL.q (.yes rfl rfl rfl) rfl rfl (Yld.pure rfl) ?_
  refine RL.q (.yes rfl rfl rfl) rfl rfl (Yld.build (v := .agg #[.int .i64 2, .string ⟨#[97]⟩, .string ⟨#[120]⟩]) rfl (fun w => by kernel_rfl)) ?_
  refine RL.op (.yes rfl rfl rfl) rfl rfl (Does.slice1 u51 i50 rfl rfl rfl rfl rfl) ?_
  rintro _ w8 ⟨b4, rfl, hn4⟩
  refine RL.op (.yes rfl rfl rfl) rfl rfl (Does.call rfl e30 (find_two (m := mt1) (k7.grow hn4.grow) (by kernel_rfl) (fun h => by cases h) (by kernel_rfl) (by kernel_rfl) (Sl.new hn4 3 1 rfl (by omega) (fun h => h)))) ?_
  rintro u9 w9 ⟨hr9, hg9⟩
  refine RL.op (.yes rfl rfl rfl) rfl rfl (Does.bslice (el := 3) ([.int .i64 2]) rfl (fun w => by kernel_rfl)) ?_
  rintro _ w10 ⟨b5, rfl, hn5⟩
  refine RL.op (.yes rfl rfl rfl) rfl rfl (Does.call rfl e29 (sameInts_ok No [2] [2] u9 _ _ (Sl.own (hr9.mod hn5.grow (fun _ _ h => h)) (fun _ _ h => h)) (Sl.new hn5 1 1 rfl (by omega) (fun h => h)))) ?_
  rintro _ w11 ⟨rfl, hg11⟩
  have hg711 : Grow w7 w11 := ((hn4.grow.trans hg9).trans hn5.grow).trans hg11
  iterate 2 refine RL.p rfl rfl ?_
  refine RL.knownT (d := 36) rfl rfl (rfl) ?_
  refine RL.q (.yes rfl rfl rfl) rfl rfl (Yld.pure rfl) ?_
  refine RL.q (.yes rfl rfl rfl) rfl rfl (Yld.build (v := .agg #[.int .i64 1, .string ⟨#[97]⟩, .string ByteArray.empty]) rfl (fun w => by kernel_rfl)) ?_
  refine RL.op (.yes rfl rfl rfl) rfl rfl (Does.slice1 u51 i50 rfl rfl rfl rfl rfl) ?_
  rintro _ w12 ⟨b6, rfl, hn6⟩
  refine RL.op (.yes rfl rfl rfl) rfl rfl (Does.call rfl e30 (find_two (m := mt2) ((k7.grow hg711).grow hn6.grow) (by kernel_rfl) (fun _ => rfl) (by kernel_rfl) (by kernel_rfl) (Sl.new hn6 3 1 rfl (by omega) (fun h => h)))) ?_
  rintro u13 w13 ⟨hr13, hg13⟩
  refine RL.op (.yes rfl rfl rfl) rfl rfl (Does.bslice (el := 3) ([.int .i64 2]) rfl (fun w => by kernel_rfl)) ?_
  rintro _ w14 ⟨b7, rfl, hn7⟩
  refine RL.op (.yes rfl rfl rfl) rfl rfl (Does.call rfl e29 (sameInts_ok No [2] [2] u13 _ _ (Sl.own (hr13.mod hn7.grow (fun _ _ h => h)) (fun _ _ h => h)) (Sl.new hn7 1 1 rfl (by omega) (fun h => h)))) ?_
  rintro _ w15 ⟨rfl, hg15⟩
  have hg715 : Grow w7 w15 := (((hg711.trans hn6.grow).trans hg13).trans hn7.grow).trans hg15
  iterate 2 refine RL.p rfl rfl ?_
  refine RL.knownT (d := 44) rfl rfl (rfl) ?_
  refine RL.q (.yes rfl rfl rfl) rfl rfl (Yld.pure rfl) ?_
  refine RL.op (.yes rfl rfl rfl) rfl rfl (Does.call rfl e31 ((k7.grow hg715).size)) ?_
  rintro _ _ ⟨rfl, rfl⟩
  refine RL.q (.yes rfl rfl rfl) rfl rfl (Yld.pure rfl) ?_
  iterate 2 refine RL.p rfl rfl ?_
  refine RL.done ?_
  refine RK.ret_of Tryz.func4 (res1 rfl rfl) ?_ _
  exact ⟨_, rfl, by rw [eL2]; rfl, hg7.trans hg715⟩
end Go.Proofs.YtffbcfcoddacmaaGreat

