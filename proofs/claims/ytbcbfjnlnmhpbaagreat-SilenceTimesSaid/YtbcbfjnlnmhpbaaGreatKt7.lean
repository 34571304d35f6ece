/- What the claim stands on, part 7. Of own lemmas only those that it reaches. -/
import Derived.Test.YtbcbfjnlnmhpbaaGreatKt6
set_option linter.unusedVariables false
set_option linter.unusedSimpArgs false
set_option maxHeartbeats 3200000
set_option maxRecDepth 100000
namespace Go.Proofs.YtbcbfjnlnmhpbaaGreat
open Go Go.X
def sT (a b : Int) : SS := ⟨5, 2, 1, [⟨1, a, b, [mP], bdAll⟩]⟩
theorem fitsP (now a b : Int) : fitsS now a b [mP] = if spanS now a b = true then 0 else 8 := by
  unfold fitsS
  rw [mP_any, if_neg (by decide)]
theorem sT_yes {now a b : Int} (h : spanS now a b = true) : makeS sD now a b [mP] bdAll = (sT a b, 1, 0) := by
  have h1 : fitsS now a b [mP] = 0 := by rw [fitsP, if_pos h]
  unfold makeS
  rw [mP_right, if_neg (by decide), h1]
  rfl
theorem sT_no {now a b : Int} (h : spanS now a b = false) : makeS sD now a b [mP] bdAll = (sD, 0, 8) := by
  have h1 : fitsS now a b [mP] = 8 := by rw [fitsP, if_neg (by rw [h]; decide)]
  unfold makeS
  rw [mP_right, if_neg (by decide), h1]
  rfl
def aT14 : ByteArray := ⟨#[97]⟩
def oneT14 : ByteArray := ⟨#[49]⟩
theorem mP_a : holdsM mP [⟨aT14, oneT14⟩] = true := by
  unfold holdsM
  rw [mP_is, mP_large, if_pos (show mP.kind = 1 from rfl)]
  kernel_rfl
theorem sT_holds (a b t : Int) : holdsZ t [⟨aT14, oneT14⟩] 0 (sT a b).sl = if decide (stateS t a b = 2) = true then [1] else [] := by
  have e : holdZ t [⟨aT14, oneT14⟩] 0 ⟨1, a, b, [mP], bdAll⟩ = decide (stateS t a b = 2) := by
    unfold holdZ
    simp only [List.all_cons, List.all_nil, mP_a]
    rw [show inBd bdAll 0 = true by kernel_rfl]
    simp
  unfold holdsZ sT
  simp only
  by_cases h : decide (stateS t a b = 2) = true
  · rw [if_pos h, List.filter_cons_of_pos (by rw [e]; exact h)]; rfl
  · rw [if_neg h, List.filter_cons_of_neg (by rw [e]; exact h)]; rfl
theorem sT_get (a b : Int) : getZ (sT a b) 1 = some ⟨1, a, b, [mP], bdAll⟩ := rfl
theorem sT_list (a b t : Int) : (listZ t (stateS t a b) (sT a b).sl).length = 1 := by
  unfold listZ sT
  simp only
  rw [List.filter_cons_of_pos]
  · rfl
  · unfold wantZ; simp
theorem stimes_ok (now a b t : Int) (h0 : 0 ≤ b) (w : World) : Fx Tryz.prog 3 [.int .u64 now, .int .u64 a, .int .u64 b, .int .u64 t] w (fun u w' => u = .bool true ∧ Grow w w') := by
  have hst : stateS t a b = 2 ↔ a ≤ t ∧ t < b := by unfold stateS; split <;> (try split) <;> omega
  have hst1 : t < b → (stateS t a b = 1 ↔ t < a) := fun h => by unfold stateS; split <;> (try split) <;> omega
  cases hsp : spanS now a b with
  | true =>
    have hraw : a < b ∧ now < b ∧ b ≤ 1099511627776 := by
      unfold spanS at hsp
      simp only [Bool.and_eq_true, decide_eq_true_eq] at hsp
      omega
    have hst1' : stateS t a b = 1 ↔ t < a := by unfold stateS; split <;> (try split) <;> omega
    have hgz : Gz (sT a b) := by have h := sD_ok.make now a b h0 [mP] bdAll; rw [sT_yes hsp] at h; exact h
    refine enter Tryz.func3 rfl rfl rfl _ (Pick.sub (l := [0, 1, 2, 3]) (.cons rfl (.cons rfl (.cons rfl (.cons rfl .nil))))) ?_
    refine RK.seq ?_
    refine RK.region ?_
    refine RL.p rfl rfl ?_
    refine RL.done ?_
    refine RK.seq ?_
    refine RK.region ?_
    refine RL.op (.free rfl) rfl rfl (Does.call rfl e10 (newZ_ok 2 5 _)) ?_
    rintro _ w1 ⟨p, O1, rfl, hz1, hg1, hO1⟩
    have hsD : (⟨clampS 5 1 1048576, clampS 2 1 12, 0, []⟩ : SS) = sD := rfl
    rw [hsD] at hz1
    refine RL.p rfl rfl ?_
    refine RL.done ?_
    iterate 2 refine RK.seq ?_
    refine RK.region ?_
    refine RL.p rfl rfl ?_
    refine RL.q (.free rfl) rfl rfl (Yld.eqPtr Tryz.underlying23 rfl rfl) ?_
    refine RL.done ?_
    refine RK.condF (hcF rfl (rfl)) ?_
    refine RK.skip ?_
    refine RK.seq ?_
    refine RK.region ?_
    iterate 4 refine RL.p rfl rfl ?_
    refine RL.op (.free rfl) rfl rfl (Does.call rfl e12 (plain14_ok _)) ?_
    rintro u2 w2 ⟨hr2, hf2, hg2⟩
    have hz2 := hz1.grow hg2
    refine RL.q (.free rfl) rfl rfl (Yld.build (v := .agg (bdC bdAll).toArray) rfl (fun w => by kernel_rfl)) ?_
    refine RL.op (.free rfl) rfl rfl (Does.call rfl e11 (makeZ_ok _ p sD O1 O1 hz2 sD_ok (by decide) now a b h0 [mP] u2 bdAll (Sl.own hr2 (fun k hk e => by have := hf2 k hk; have := hz1.lt k e; omega)) (by simp))) ?_
    rintro _ w3 ⟨O3, rfl, hz3, hm3, hO3⟩
    have hg03 : Grow w w3 := (hg1.trans hg2).then hm3 (fun b hb e => by have := hO1 b e; omega)
    rw [sT_yes hsp] at hz3 ⊢
    iterate 5 refine RL.p rfl rfl ?_
    refine RL.done ?_
    iterate 2 refine RK.seq ?_
    refine RK.region ?_
    iterate 6 refine RL.p rfl rfl ?_
    refine RL.knownT (d := 33) rfl rfl (decide_eq_true hraw.1) ?_
    iterate 3 refine RL.q (.yes rfl rfl rfl) rfl rfl (Yld.pure rfl) ?_
    iterate 2 refine RL.p rfl rfl ?_
    refine RL.knownT (d := 38) rfl rfl (decide_eq_true hraw.2.1) ?_
    iterate 2 refine RL.q (.yes rfl rfl rfl) rfl rfl (Yld.pure rfl) ?_
    refine RL.p rfl rfl ?_
    refine RL.q (.free rfl) rfl rfl (Yld.neqBool u4 rfl rfl) ?_
    refine RL.done ?_
    refine RK.condF (hcF rfl ((show (decide ((0 : Int) = 0) != decide (b ≤ 1099511627776)) = false by rw [decide_eq_true hraw.2.2]; rfl))) ?_
    refine RK.skip ?_
    iterate 2 refine RK.seq ?_
    refine RK.region ?_
    iterate 2 refine RL.p rfl rfl ?_
    refine RL.done ?_
    refine RK.condF (hcF rfl (rfl)) ?_
    refine RK.skip ?_
    refine RK.seq ?_
    refine RK.region ?_
    iterate 2 refine RL.p rfl rfl ?_
    refine RL.q (.free rfl) rfl rfl (Yld.build (v := .agg #[.string aT14, .string oneT14]) rfl (fun w => by kernel_rfl)) ?_
    refine RL.op (.free rfl) rfl rfl (Does.slice1 u39 i38 rfl rfl rfl rfl rfl) ?_
    rintro _ w4 ⟨b62, rfl, hn62⟩
    refine RL.op (.free rfl) rfl rfl (Does.call rfl e15 (holdsStore_ok _ p (sT a b) _ _ (hz3.grow hn62.grow) hgz t No [⟨aT14, oneT14⟩] _ 0 (Sl.new hn62 2 1 rfl (by omega) (fun h => h)) (by simp [oneT14]; decide))) ?_
    rintro u5 w5 ⟨hr5, hf5, hg5⟩
    rw [sT_holds] at hr5
    obtain ⟨ad5, c5, rfl⟩ := hr5.slice
    have hg35 := hn62.grow.trans hg5
    refine RL.p rfl rfl ?_
    refine RL.done ?_
    refine RK.seq ?_
    refine RK.region ?_
    iterate 2 refine RL.p rfl rfl ?_
    refine RL.op (.free rfl) rfl rfl (Does.call rfl e16 (getZ_ok _ p (sT a b) _ _ (hz3.grow hg35) hgz t 1 (by simp [sT]))) ?_
    rintro _ w6 ⟨hget, hg6⟩
    rw [sT_get] at hget
    obtain ⟨v6, rfl, hr6, hf6⟩ := hget
    obtain ⟨ad6, c6, rfl⟩ := hr6.slice
    iterate 3 refine RL.p rfl rfl ?_
    refine RL.op (.free rfl) rfl rfl (Does.alloc i41) ?_
    rintro _ w7 ⟨b13, rfl, hn13⟩
    refine RL.op' (.free rfl) rfl (Does.storeN i41 rfl rfl rfl rfl hn13.blk (Nat.le_refl 8)) ?_
    rintro _ w8 ⟨hb8, hm8, _⟩
    have hg68 : Grow w6 w8 := hn13.grow.then hm8 (fun y hy e => by have e' : y = b13 := e; have := hn13.at_; omega)
    have hB8 : Blk w8 b13 41 (silC ⟨1, stateS t a b, a, b, .slice ad6 [mP].length c6, [mP], bdAll⟩) := hb8
    have hg38 := (hg35.trans hg6).trans hg68
    refine RL.p rfl rfl ?_
    refine RL.done ?_
    refine RK.seq ?_
    refine RK.region ?_
    refine RL.p rfl rfl ?_
    refine RL.q (.free rfl) rfl rfl (Yld.lenSl u35 rfl) ?_
    iterate 5 refine RL.p rfl rfl ?_
    first | refine RL.splitD (d := 76) rfl rfl (fun h75 => ?_) (fun h75 => ?_) | refine RL.splitN (d := 76) rfl rfl (fun h75 => ?_) (fun h75 => ?_) | refine RL.split (d := 76) rfl rfl (fun h75 => ?_) (fun h75 => ?_)
    · iterate 3 refine RL.q (.yes rfl rfl rfl) rfl rfl (Yld.pure rfl) ?_
      refine RL.p rfl rfl ?_
      refine RL.q (.free rfl) rfl rfl (Yld.eqBool u4 rfl rfl) ?_
      refine RL.p rfl rfl ?_
      refine RL.knownT (d := 82) rfl rfl (by first | (rw [one_len]; refine decide_eq_true ?_; rw [decide_eq_decide, hst]; omega) | (rw [one_len]; refine decide_eq_true ?_; rw [decide_eq_false]; rw [hst]; omega)) ?_
      refine RL.q (.yes rfl rfl rfl) rfl rfl (Yld.pure rfl) ?_
      iterate 2 refine RL.p rfl rfl ?_
      refine RL.knownT (d := 85) rfl rfl (rfl) ?_
      refine RL.q (.yes rfl rfl rfl) rfl rfl (Yld.fieldAddr fo41_1 rfl) ?_
      refine RL.q (.yes rfl rfl rfl) rfl rfl (Yld.load p3 rfl (at1 (hB8.cell rfl))) ?_
      iterate 2 refine RL.q (.yes rfl rfl rfl) rfl rfl (Yld.pure rfl) ?_
      refine RL.q (.yes rfl rfl rfl) rfl rfl (Yld.lenSl u35 rfl) ?_
      refine RL.q (.yes rfl rfl rfl) rfl rfl (Yld.pure rfl) ?_
      refine RL.q (.yes rfl rfl rfl) rfl rfl (Yld.eqBool u4 rfl rfl) ?_
      iterate 2 refine RL.p rfl rfl ?_
      refine RL.knownT (d := 94) rfl rfl (by rw [one_len]; exact decide_eq_true rfl) ?_
      refine RL.q (.yes rfl rfl rfl) rfl rfl (Yld.fieldAddr fo41_1 rfl) ?_
      refine RL.q (.yes rfl rfl rfl) rfl rfl (Yld.load p3 rfl (at1 (hB8.cell rfl))) ?_
      iterate 4 refine RL.q (.yes rfl rfl rfl) rfl rfl (Yld.pure rfl) ?_
      refine RL.q (.yes rfl rfl rfl) rfl rfl (Yld.eqBool u4 rfl rfl) ?_
      iterate 2 refine RL.p rfl rfl ?_
      refine RL.knownT (d := 103) rfl rfl (by refine decide_eq_true ?_; rw [decide_eq_decide]; exact hst1') ?_
      iterate 2 refine RL.q (.yes rfl rfl rfl) rfl rfl (Yld.pure rfl) ?_
      refine RL.q (.yes rfl rfl rfl) rfl rfl (Yld.fieldAddr fo41_1 rfl) ?_
      refine RL.q (.yes rfl rfl rfl) rfl rfl (Yld.load p3 rfl (at1 (hB8.cell rfl))) ?_
      refine RL.op (.yes rfl rfl rfl) rfl rfl (Does.call rfl e17 (listStore_ok _ p (sT a b) _ _ (hz3.grow hg38) hgz t (stateS t a b) (by simp [sT]))) ?_
      rintro u9 w9 ⟨⟨tl, htl, hr9, hsh9⟩, hf9, hg9⟩
      obtain ⟨ad9, c9, rfl⟩ := hr9.slice
      have htl1 : tl.length = 1 := by have h := congrArg List.length htl; rw [List.length_map, sT_list] at h; exact h
      refine RL.q (.yes rfl rfl rfl) rfl rfl (Yld.lenSl u44 rfl) ?_
      refine RL.q (.yes rfl rfl rfl) rfl rfl (Yld.pure rfl) ?_
      iterate 2 refine RL.p rfl rfl ?_
      refine RL.knownT (d := 112) rfl rfl (by rw [htl1]; rfl) ?_
      iterate 2 refine RL.q (.yes rfl rfl rfl) rfl rfl (Yld.pure rfl) ?_
      iterate 2 refine RL.p rfl rfl ?_
      refine RL.knownT (d := 116) rfl rfl (rfl) ?_
      refine RL.op (.yes rfl rfl rfl) rfl rfl (Does.call rfl e14 (sruns_ok _)) ?_
      rintro _ w10 ⟨rfl, hg10⟩
      iterate 2 refine RL.p rfl rfl ?_
      refine RL.done ?_
      refine RK.ret_of Tryz.func3 (res1 rfl rfl) ?_ _
      exact ⟨_, rfl, rfl, ((hg03.trans hg38).trans hg9).trans hg10⟩
    · iterate 3 refine RL.no (.no rfl rfl rfl rfl) rfl rfl ?_
      refine RL.p rfl rfl ?_
      refine RL.q (.free rfl) rfl rfl (Yld.eqBool u4 rfl rfl) ?_
      refine RL.p rfl rfl ?_
      refine RL.knownT (d := 82) rfl rfl (by first | (rw [one_len]; refine decide_eq_true ?_; rw [decide_eq_decide, hst]; omega) | (rw [one_len]; refine decide_eq_true ?_; rw [decide_eq_false]; rw [hst]; omega)) ?_
      refine RL.q (.yes rfl rfl rfl) rfl rfl (Yld.pure rfl) ?_
      iterate 2 refine RL.p rfl rfl ?_
      refine RL.knownT (d := 85) rfl rfl (rfl) ?_
      refine RL.q (.yes rfl rfl rfl) rfl rfl (Yld.fieldAddr fo41_1 rfl) ?_
      refine RL.q (.yes rfl rfl rfl) rfl rfl (Yld.load p3 rfl (at1 (hB8.cell rfl))) ?_
      iterate 2 refine RL.q (.yes rfl rfl rfl) rfl rfl (Yld.pure rfl) ?_
      refine RL.q (.yes rfl rfl rfl) rfl rfl (Yld.lenSl u35 rfl) ?_
      refine RL.q (.yes rfl rfl rfl) rfl rfl (Yld.pure rfl) ?_
      refine RL.q (.yes rfl rfl rfl) rfl rfl (Yld.eqBool u4 rfl rfl) ?_
      iterate 2 refine RL.p rfl rfl ?_
      refine RL.knownT (d := 94) rfl rfl (by rw [one_len]; exact decide_eq_true rfl) ?_
      refine RL.q (.yes rfl rfl rfl) rfl rfl (Yld.fieldAddr fo41_1 rfl) ?_
      refine RL.q (.yes rfl rfl rfl) rfl rfl (Yld.load p3 rfl (at1 (hB8.cell rfl))) ?_
      iterate 4 refine RL.q (.yes rfl rfl rfl) rfl rfl (Yld.pure rfl) ?_
      refine RL.q (.yes rfl rfl rfl) rfl rfl (Yld.eqBool u4 rfl rfl) ?_
      iterate 2 refine RL.p rfl rfl ?_
      refine RL.knownT (d := 103) rfl rfl (by refine decide_eq_true ?_; rw [decide_eq_decide]; exact hst1') ?_
      iterate 2 refine RL.q (.yes rfl rfl rfl) rfl rfl (Yld.pure rfl) ?_
      refine RL.q (.yes rfl rfl rfl) rfl rfl (Yld.fieldAddr fo41_1 rfl) ?_
      refine RL.q (.yes rfl rfl rfl) rfl rfl (Yld.load p3 rfl (at1 (hB8.cell rfl))) ?_
      refine RL.op (.yes rfl rfl rfl) rfl rfl (Does.call rfl e17 (listStore_ok _ p (sT a b) _ _ (hz3.grow hg38) hgz t (stateS t a b) (by simp [sT]))) ?_
      rintro u9 w9 ⟨⟨tl, htl, hr9, hsh9⟩, hf9, hg9⟩
      obtain ⟨ad9, c9, rfl⟩ := hr9.slice
      have htl1 : tl.length = 1 := by have h := congrArg List.length htl; rw [List.length_map, sT_list] at h; exact h
      refine RL.q (.yes rfl rfl rfl) rfl rfl (Yld.lenSl u44 rfl) ?_
      refine RL.q (.yes rfl rfl rfl) rfl rfl (Yld.pure rfl) ?_
      iterate 2 refine RL.p rfl rfl ?_
      refine RL.knownT (d := 112) rfl rfl (by rw [htl1]; rfl) ?_
      iterate 2 refine RL.q (.yes rfl rfl rfl) rfl rfl (Yld.pure rfl) ?_
      iterate 2 refine RL.p rfl rfl ?_
      refine RL.knownT (d := 116) rfl rfl (rfl) ?_
      refine RL.op (.yes rfl rfl rfl) rfl rfl (Does.call rfl e14 (sruns_ok _)) ?_
      rintro _ w10 ⟨rfl, hg10⟩
      iterate 2 refine RL.p rfl rfl ?_
      refine RL.done ?_
      refine RK.ret_of Tryz.func3 (res1 rfl rfl) ?_ _
      exact ⟨_, rfl, rfl, ((hg03.trans hg38).trans hg9).trans hg10⟩
  | false =>
    have hraw : a < b → now < b → ¬ b ≤ 1099511627776 := fun h1 h2 h3 => by
      unfold spanS at hsp
      rw [decide_eq_true h1, decide_eq_true h2, decide_eq_true h3] at hsp
      cases hsp
    refine enter Tryz.func3 rfl rfl rfl _ (Pick.sub (l := [0, 1, 2, 3]) (.cons rfl (.cons rfl (.cons rfl (.cons rfl .nil))))) ?_
    refine RK.seq ?_
    refine RK.region ?_
    refine RL.p rfl rfl ?_
    refine RL.done ?_
    refine RK.seq ?_
    refine RK.region ?_
    refine RL.op (.free rfl) rfl rfl (Does.call rfl e10 (newZ_ok 2 5 _)) ?_
    rintro _ w1 ⟨p, O1, rfl, hz1, hg1, hO1⟩
    have hsD : (⟨clampS 5 1 1048576, clampS 2 1 12, 0, []⟩ : SS) = sD := rfl
    rw [hsD] at hz1
    refine RL.p rfl rfl ?_
    refine RL.done ?_
    iterate 2 refine RK.seq ?_
    refine RK.region ?_
    refine RL.p rfl rfl ?_
    refine RL.q (.free rfl) rfl rfl (Yld.eqPtr Tryz.underlying23 rfl rfl) ?_
    refine RL.done ?_
    refine RK.condF (hcF rfl (rfl)) ?_
    refine RK.skip ?_
    refine RK.seq ?_
    refine RK.region ?_
    iterate 4 refine RL.p rfl rfl ?_
    refine RL.op (.free rfl) rfl rfl (Does.call rfl e12 (plain14_ok _)) ?_
    rintro u2 w2 ⟨hr2, hf2, hg2⟩
    have hz2 := hz1.grow hg2
    refine RL.q (.free rfl) rfl rfl (Yld.build (v := .agg (bdC bdAll).toArray) rfl (fun w => by kernel_rfl)) ?_
    refine RL.op (.free rfl) rfl rfl (Does.call rfl e11 (makeZ_ok _ p sD O1 O1 hz2 sD_ok (by decide) now a b h0 [mP] u2 bdAll (Sl.own hr2 (fun k hk e => by have := hf2 k hk; have := hz1.lt k e; omega)) (by simp))) ?_
    rintro _ w3 ⟨O3, rfl, hz3, hm3, hO3⟩
    have hg03 : Grow w w3 := (hg1.trans hg2).then hm3 (fun b hb e => by have := hO1 b e; omega)
    rw [sT_no hsp] at hz3 ⊢
    iterate 5 refine RL.p rfl rfl ?_
    refine RL.done ?_
    iterate 2 refine RK.seq ?_
    refine RK.region ?_
    iterate 6 refine RL.p rfl rfl ?_
    first | refine RL.splitD (d := 33) rfl rfl (fun h32 => ?_) (fun h32 => ?_) | refine RL.splitN (d := 33) rfl rfl (fun h32 => ?_) (fun h32 => ?_) | refine RL.split (d := 33) rfl rfl (fun h32 => ?_) (fun h32 => ?_)
    · iterate 3 refine RL.q (.yes rfl rfl rfl) rfl rfl (Yld.pure rfl) ?_
      iterate 2 refine RL.p rfl rfl ?_
      first | refine RL.splitD (d := 38) rfl rfl (fun h36 => ?_) (fun h36 => ?_) | refine RL.splitN (d := 38) rfl rfl (fun h36 => ?_) (fun h36 => ?_) | refine RL.split (d := 38) rfl rfl (fun h36 => ?_) (fun h36 => ?_)
      · iterate 2 refine RL.q (.yes rfl rfl rfl) rfl rfl (Yld.pure rfl) ?_
        refine RL.p rfl rfl ?_
        refine RL.q (.free rfl) rfl rfl (Yld.neqBool u4 rfl rfl) ?_
        refine RL.done ?_
        refine RK.condF (hcF rfl ((by rw [decide_eq_false (hraw h32 h36)]; rfl))) ?_
        refine RK.skip ?_
        iterate 2 refine RK.seq ?_
        refine RK.region ?_
        iterate 2 refine RL.p rfl rfl ?_
        refine RL.done ?_
        refine RK.condT (hcT rfl (rfl)) ?_
        refine RK.seq ?_
        refine RK.region ?_
        iterate 3 refine RL.p rfl rfl ?_
        refine RL.knownT (d := 47) rfl rfl (rfl) ?_
        iterate 2 refine RL.q (.yes rfl rfl rfl) rfl rfl (Yld.pure rfl) ?_
        iterate 2 refine RL.p rfl rfl ?_
        refine RL.knownT (d := 51) rfl rfl (rfl) ?_
        refine RL.q (.yes rfl rfl rfl) rfl rfl (Yld.pure rfl) ?_
        refine RL.op (.yes rfl rfl rfl) rfl rfl (Does.call rfl e13 (lenZ_ok _ p _ _ _ hz3)) ?_
        rintro _ _ ⟨rfl, rfl⟩
        refine RL.q (.yes rfl rfl rfl) rfl rfl (Yld.pure rfl) ?_
        iterate 2 refine RL.p rfl rfl ?_
        refine RL.knownT (d := 56) rfl rfl (rfl) ?_
        refine RL.op (.yes rfl rfl rfl) rfl rfl (Does.call rfl e14 (sruns_ok _)) ?_
        rintro _ w7 ⟨rfl, hg7⟩
        iterate 2 refine RL.p rfl rfl ?_
        refine RL.done ?_
        refine RK.ret_of Tryz.func3 (res1 rfl rfl) ?_ _
        exact ⟨_, rfl, rfl, hg03.trans hg7⟩
      · iterate 2 refine RL.no (.no rfl rfl rfl rfl) rfl rfl ?_
        refine RL.p rfl rfl ?_
        refine RL.q (.free rfl) rfl rfl (Yld.neqBool u4 rfl rfl) ?_
        refine RL.done ?_
        refine RK.condF (hcF rfl (rfl)) ?_
        refine RK.skip ?_
        iterate 2 refine RK.seq ?_
        refine RK.region ?_
        iterate 2 refine RL.p rfl rfl ?_
        refine RL.done ?_
        refine RK.condT (hcT rfl (rfl)) ?_
        refine RK.seq ?_
        refine RK.region ?_
        iterate 3 refine RL.p rfl rfl ?_
        refine RL.knownT (d := 47) rfl rfl (rfl) ?_
        iterate 2 refine RL.q (.yes rfl rfl rfl) rfl rfl (Yld.pure rfl) ?_
        iterate 2 refine RL.p rfl rfl ?_
        refine RL.knownT (d := 51) rfl rfl (rfl) ?_
        refine RL.q (.yes rfl rfl rfl) rfl rfl (Yld.pure rfl) ?_
        refine RL.op (.yes rfl rfl rfl) rfl rfl (Does.call rfl e13 (lenZ_ok _ p _ _ _ hz3)) ?_
        rintro _ _ ⟨rfl, rfl⟩
        refine RL.q (.yes rfl rfl rfl) rfl rfl (Yld.pure rfl) ?_
        iterate 2 refine RL.p rfl rfl ?_
        refine RL.knownT (d := 56) rfl rfl (rfl) ?_
        refine RL.op (.yes rfl rfl rfl) rfl rfl (Does.call rfl e14 (sruns_ok _)) ?_
        rintro _ w7 ⟨rfl, hg7⟩
        iterate 2 refine RL.p rfl rfl ?_
        refine RL.done ?_
        refine RK.ret_of Tryz.func3 (res1 rfl rfl) ?_ _
        exact ⟨_, rfl, rfl, hg03.trans hg7⟩
    · iterate 3 refine RL.no (.no rfl rfl rfl rfl) rfl rfl ?_
      iterate 2 refine RL.p rfl rfl ?_
      iterate 2 refine RL.no (.no rfl rfl rfl rfl) rfl rfl ?_
      refine RL.p rfl rfl ?_
      refine RL.q (.free rfl) rfl rfl (Yld.neqBool u4 rfl rfl) ?_
      refine RL.done ?_
      refine RK.condF (hcF rfl (rfl)) ?_
      refine RK.skip ?_
      iterate 2 refine RK.seq ?_
      refine RK.region ?_
      iterate 2 refine RL.p rfl rfl ?_
      refine RL.done ?_
      refine RK.condT (hcT rfl (rfl)) ?_
      refine RK.seq ?_
      refine RK.region ?_
      iterate 3 refine RL.p rfl rfl ?_
      refine RL.knownT (d := 47) rfl rfl (rfl) ?_
      iterate 2 refine RL.q (.yes rfl rfl rfl) rfl rfl (Yld.pure rfl) ?_
      iterate 2 refine RL.p rfl rfl ?_
      refine RL.knownT (d := 51) rfl rfl (rfl) ?_
      refine RL.q (.yes rfl rfl rfl) rfl rfl (Yld.pure rfl) ?_
      refine RL.op (.yes rfl rfl rfl) rfl rfl (Does.call rfl e13 (lenZ_ok _ p _ _ _ hz3)) ?_
      rintro _ _ ⟨rfl, rfl⟩
      refine RL.q (.yes rfl rfl rfl) rfl rfl (Yld.pure rfl) ?_
      iterate 2 refine RL.p rfl rfl ?_
      refine RL.knownT (d := 56) rfl rfl (rfl) ?_
      refine RL.op (.yes rfl rfl rfl) rfl rfl (Does.call rfl e14 (sruns_ok _)) ?_
      rintro _ w7 ⟨rfl, hg7⟩
      iterate 2 refine RL.p rfl rfl ?_
      refine RL.done ?_
      refine RK.ret_of Tryz.func3 (res1 rfl rfl) ?_ _
      exact ⟨_, rfl, rfl, hg03.trans hg7⟩
end Go.Proofs.YtbcbfjnlnmhpbaaGreat
set_option linter.unusedVariables false
namespace Go.X
open Go Go.RowKit Go.WideShapes Go.ChangeShapes
section
variable {H : Type} {enc : TypeId × Value → H} {P : Program} {W : World} {base : Nat} {sp : Nat → Bool} {held : Bool}
end
end Go.X
set_option linter.unusedVariables false
namespace Go.X
open Go Go.RowKit Go.WideShapes Go.ChangeShapes
section
variable {H : Type} {enc : TypeId × Value → H} {P : Program} {W : World} {base : Nat} {sp : Nat → Bool} {held : Bool}
theorem open_int {k : IntKind} {t : TypeId} {r : Reach} {b0 : Nat} {v : Value} (ht : P.underlying t = some (.int k)) (hval : Value.okWide P W r b0 t v) : ∃ n : Int, v = .int k n := by
  simp only [Value.okWide, ht, Cell.okWide, Cell.ok] at hval
  cases v with
  | int k' n =>
    obtain ⟨rfl, h⟩ := hval
    exact ⟨n, rfl⟩
  | _ => simp at hval
end
end Go.X
namespace Go.Proofs.YtbcbfjnlnmhpbaaGreat.silenceTimes
open Go.ChangeShapes Go.WideShapes Go.ChangeAt Go.RowKit Go.X
set_option linter.unusedVariables false
theorem own : ownKnob Tryz.prog.godebug = none := by kernel_rfl
theorem laidOut : laidOutB Tryz.prog = true := by kernel_rfl
theorem params_ok : ∀ t ∈ Tryz.f3.params.toList, Tryz.prog.readableRec t = true ∧ t < Tryz.prog.types.size := by
  rw [Tryz.params3]
  intro t ht
  simp only [List.mem_cons, List.not_mem_nil, or_false] at ht
  rcases ht with rfl | rfl | rfl | rfl <;> exact ⟨by kernel_rfl, of_decide_eq_true (by kernel_rfl)⟩
set_option maxRecDepth 100000 in
theorem lifted (os : Os) (started : os.Started) (H : Type) (enc : TypeId × Value → H) :
    ReturnsInHanded {} Tryz.checked os 3 .any (Rows.silenceTimesSpec.pre6 enc Tryz.prog Tryz.f3 Rows.silenceTimesRow.domain false) (Rows.silenceTimesSpec.post enc Tryz.prog Tryz.f3 false true false false) := by
  refine returnsInHanded_of_change (C := Tryz.checked) own started (by kernel_rfl) Tryz.func3
    (ChangeSpec.witness6 (enc := enc) (C := Tryz.checked) false ⟨#[], #[.int .u64 0, .int .u64 0, .int .u64 0, .int .u64 0], []⟩ 8 (by kernel_rfl) (by kernel_rfl) (by kernel_rfl) (by kernel_rfl)) ?_
  intro W base args ds gs before hval0 hW hcnd _
  have hval : ∀ (j : Nat) t v, Tryz.f3.params[j]? = some t → args[j]? = some v → Value.okWide Tryz.prog W .any base t v := hval0
  have hW' := hW
  obtain ⟨p, q, hA0, hV, rfl, hfz, hnd⟩ := hW
  have hlt : ∀ x ∈ p, x.block < W.heap.size := fun x hx => hW'.lt x (List.mem_append_left _ hx)
  have hA : DataW.TrodAll enc Tryz.prog W 0 (fun _ => true) true Tryz.f3.params.toList args.toList ds p := hA0
  have hA1 := hA
  rw [Tryz.params3] at hA hval
  obtain ⟨v0, vs0, d0, ds0, p0, q0, hargs, rfl, rfl, h0, r0⟩ := trodAll_cons hA
  obtain ⟨v1, vs1, d1, ds1, p1, q1, rfl, rfl, rfl, h1, r1⟩ := trodAll_cons r0
  obtain ⟨v2, vs2, d2, ds2, p2, q2, rfl, rfl, rfl, h2, r2⟩ := trodAll_cons r1
  obtain ⟨v3, vs3, d3, ds3, p3, q3, rfl, rfl, rfl, h3, r3⟩ := trodAll_cons r2
  obtain ⟨rfl, rfl, rfl⟩ := trodAll_nil r3
  obtain rfl : args = #[v0, v1, v2, v3] := by cases args; simp_all
  obtain ⟨rfl, rfl⟩ := trodVars_none hV
  have hv0 := hval 0 22 v0 rfl rfl
  have hv1 := hval 1 22 v1 rfl rfl
  have hv2 := hval 2 22 v2 rfl rfl
  have hv3 := hval 3 22 v3 rfl rfl
  clear hval0 hval
  simp only [List.append_nil] at hW' hlt
  obtain ⟨now, rfl⟩ := X.open_int Tryz.underlying22 hv0
  obtain ⟨a, rfl⟩ := X.open_int Tryz.underlying22 hv1
  obtain ⟨b, rfl, hb⟩ : ∃ n : Int, v2 = .int .u64 n ∧ 0 ≤ n := by
    have hq := hv2
    simp only [Value.okWide, Tryz.underlying22, Cell.okWide, Cell.ok] at hq
    cases v2 with
    | int k n =>
      obtain ⟨rfl, h⟩ := hq
      exact ⟨n, rfl, by have := h.1; simpa [IntKind.has, IntKind.min, IntKind.signed, IntKind.bits] using this⟩
    | _ => simp at hq
  obtain ⟨t, rfl⟩ := X.open_int Tryz.underlying22 hv3
  have hwalk := stimes_ok now a b t hb W
  refine Calls.mono hwalk ?_
  rintro e W' ⟨v, rfl, rfl, hg⟩
  refine ⟨_, rfl, post_grow hW' (fun _ _ _ => trodAll_cons_mk (shut_bool Tryz.underlying4 _) trodAll_mk0) (fun sp hsp => ?_) (fun _ => rfl) hg (ok_one (by kernel_rfl) rfl (okWide_bool_mk Tryz.underlying4 _))⟩
  have hA2 := hA1
  simp only [List.append_nil] at hA2 hsp
  exact trodAll_grow laidOut hg sp _ _ _ _ params_ok hlt hsp hA2
end Go.Proofs.YtbcbfjnlnmhpbaaGreat.silenceTimes
set_option linter.unusedVariables false
set_option linter.unusedSimpArgs false
set_option maxHeartbeats 3200000
set_option maxRecDepth 100000
namespace Go.Proofs.YtbcbfjnlnmhpbaaGreat
open Go Go.X
theorem sets3 {α : Type} (x y z : α) : ∀ (L : List α) (o : Nat), o + 3 ≤ L.length → L.take o ++ [x, y, z] ++ L.drop (o + 3) = ((L.set o x).set (o + 1) y).set (o + 2) z
  | [], o, h => by simp at h
  | u :: L, 0, h => by
    match L, h with
    | p :: q :: r, _ => rfl
  | u :: L, o + 1, h => by
    have ih := sets3 x y z L o (by simpa using h)
    rw [show o + 1 + 3 = (o + 3) + 1 by omega, show o + 1 + 2 = (o + 2) + 1 by omega, List.take_succ_cons, List.drop_succ_cons, List.set_cons_succ, List.set_cons_succ, List.set_cons_succ, ← ih]
    rfl
theorem set_sil2 (v : Value) (ms : List Mt) (bd : Bd) : ∀ (al : List Sil) (i : Nat) (a : Sil), al[i]? = some a → ((((al.flatMap silC).set (i * 8 + 4) v).set (i * 8 + 5) (.bool bd.all)).set (i * 8 + 5 + 1) (.float .f64 bd.lo)).set (i * 8 + 5 + 2) (.float .f64 bd.hi) = (al.set i { a with mv := v, ms := ms, bd := bd }).flatMap silC
  | [], i, a, h => by simp at h
  | x :: al, 0, a, h => by
    obtain rfl : x = a := by simpa using h
    simp only [List.flatMap_cons, silC, List.set_cons_zero]
    rfl
  | x :: al, i + 1, a, h => by
    have ih := set_sil2 v ms bd al i a (by simpa using h)
    rw [List.set_cons_succ, List.flatMap_cons, List.flatMap_cons, ← ih]
    rw [List.set_append_right _ _ (by rw [silC_len]; omega), List.set_append_right _ _ (by rw [silC_len]; omega), List.set_append_right _ _ (by rw [silC_len]; omega), List.set_append_right _ _ (by rw [silC_len]; omega), silC_len]
    rw [show (i + 1) * 8 + 4 - 8 = i * 8 + 4 by omega, show (i + 1) * 8 + 5 - 8 = i * 8 + 5 by omega, show (i + 1) * 8 + 5 + 1 - 8 = i * 8 + 5 + 1 by omega, show (i + 1) * 8 + 5 + 2 - 8 = i * 8 + 5 + 2 by omega]
def updateS (s : SS) (now id a b : Int) (ms : List Mt) (bd : Bd) : SS × Int :=
  if rightS ms bd = false then (s, 1) else
  match placeZ s id with
  | none => (s, 5)
  | some i => match s.sl[i]? with
    | none => (s, 5)
    | some x => if stateS now x.start x.stop = 3 then (s, 6) else if fitsS now a b ms ≠ 0 then (s, fitsS now a b ms) else if stateS now x.start x.stop = 2 ∧ a ≠ x.start then (s, 6) else (turnS s i ⟨x.id, a, b, ms, bd⟩, 0)
theorem updateZ_ok (w : World) (p : Nat) (s : SS) (O M : Nat → Prop) (h : ZStore O M w p s) (g : Gz s) (now id a b : Int) (hb0 : 0 ≤ b) (ms : List Mt) (vm : Value) (bd : Bd) (hms : SlM M w vm ms) (hlen : ms.length ≤ 1000000) :
    Fx Tryz.prog 21 [pp p, .int .u64 now, .int .i64 id, .int .u64 a, .int .u64 b, vm, .agg (bdC bd).toArray] w (fun u w' => ∃ O', u = .int .i64 (updateS s now id a b ms bd).2 ∧ ZStore O' (fun x => M x ∨ O' x) w' p (updateS s now id a b ms bd).1 ∧ Mod O w w' ∧ ∀ x, O' x → O x ∨ w.heap.size ≤ x) := by
  have hself := h.self
  have hback : ∀ w', Grow w w' → ZStore O (fun b => M b ∨ O b) w' p s := fun w' hg => hself.grow hg
  obtain ⟨pl, qu, vp, vq, vs, al, q, hO, h⟩ := h
  have hle := g.le
  have hal := h.len
  have hids := h.ids
  have hals := h.als
  have hql := h.qlen
  obtain ⟨adm, cm, rfl⟩ := hms.shape
  obtain ⟨ads, cs0, rfl⟩ := h.row.slice
  cases hpz : placeZ s id with
  | none =>
    refine enter Tryz.func21 rfl rfl rfl _ (Pick.sub (l := [0, 1, 2, 3, 4, 5, 6]) (.cons rfl (.cons rfl (.cons rfl (.cons rfl (.cons rfl (.cons rfl (.cons rfl .nil)))))))) ?_
    refine RK.seq ?_
    refine RK.region ?_
    refine RL.op (.free rfl) rfl rfl (Does.box rfl) ?_
    rintro _ w1 ⟨b13, rfl, hn13⟩
    have hB13 : Blk w1 b13 32 (bdC bd) := hn13.blk
    refine RL.p rfl rfl ?_
    refine RL.done ?_
    iterate 2 refine RK.seq ?_
    refine RK.region ?_
    refine RL.p rfl rfl ?_
    refine RL.q (.free rfl) rfl rfl (Yld.loadN (cs := bdC bd) a32 rfl (atN (blk0' hB13))) ?_
    refine RL.op (.free rfl) rfl rfl (Does.call rfl e45 (rightZ_ok M ms _ bd _ (hms.mod (Mod.any' hn13.grow)))) ?_
    rintro _ w2 ⟨rfl, hg2⟩
    have hg02 := hn13.grow.trans hg2
    refine RL.p rfl rfl ?_
    refine RL.done ?_
    first | refine RK.condD rfl (fun h23 => ?_) (fun h23 => ?_) | refine RK.condN rfl (fun h23 => ?_) (fun h23 => ?_) | refine RK.cond rfl (fun h23 => ?_) (fun h23 => ?_)
    · have e : updateS s now id a b ms bd = (s, 1) := by unfold updateS; rw [if_pos (by simpa using h23)]
      refine RK.seq ?_
      refine RK.region ?_
      refine RL.p rfl rfl ?_
      refine RL.done ?_
      refine RK.ret_of Tryz.func21 (res1 rfl rfl) ?_ _
      exact ⟨_, rfl, O, by rw [e], by rw [e]; exact hback _ hg02, Mod.any' hg02, fun x e => .inl e⟩
    · refine RK.skip ?_
      refine RK.seq ?_
      refine RK.region ?_
      iterate 2 refine RL.p rfl rfl ?_
      refine RL.op (.free rfl) rfl rfl (Does.call rfl e54 (findZ_ok _ p s M pl qu vp vq _ al q (h.grow hg02) g id)) ?_
      rintro _ w3 ⟨⟨i, rfl, hi⟩, hg3⟩
      rw [hpz]
      iterate 5 refine RL.p rfl rfl ?_
      refine RL.done ?_
      iterate 2 refine RK.seq ?_
      refine RK.region ?_
      iterate 2 refine RL.p rfl rfl ?_
      refine RL.done ?_
      refine RK.condT (hcT rfl (rfl)) ?_
      have e : updateS s now id a b ms bd = (s, 5) := by unfold updateS; rw [if_neg (by simpa using h23), hpz]
      refine RK.seq ?_
      refine RK.region ?_
      refine RL.p rfl rfl ?_
      refine RL.done ?_
      refine RK.ret_of Tryz.func21 (res1 rfl rfl) ?_ _
      exact ⟨_, rfl, O, by rw [e], by rw [e]; exact hback _ (hg02.trans hg3), Mod.any' (hg02.trans hg3), fun x e => .inl e⟩
  | some j =>
    refine enter Tryz.func21 rfl rfl rfl _ (Pick.sub (l := [0, 1, 2, 3, 4, 5, 6]) (.cons rfl (.cons rfl (.cons rfl (.cons rfl (.cons rfl (.cons rfl (.cons rfl .nil)))))))) ?_
    refine RK.seq ?_
    refine RK.region ?_
    refine RL.op (.free rfl) rfl rfl (Does.box rfl) ?_
    rintro _ w1 ⟨b13, rfl, hn13⟩
    have hB13 : Blk w1 b13 32 (bdC bd) := hn13.blk
    refine RL.p rfl rfl ?_
    refine RL.done ?_
    iterate 2 refine RK.seq ?_
    refine RK.region ?_
    refine RL.p rfl rfl ?_
    refine RL.q (.free rfl) rfl rfl (Yld.loadN (cs := bdC bd) a32 rfl (atN (blk0' hB13))) ?_
    refine RL.op (.free rfl) rfl rfl (Does.call rfl e45 (rightZ_ok M ms _ bd _ (hms.mod (Mod.any' hn13.grow)))) ?_
    rintro _ w2 ⟨rfl, hg2⟩
    have hg02 := hn13.grow.trans hg2
    refine RL.p rfl rfl ?_
    refine RL.done ?_
    first | refine RK.condD rfl (fun h23 => ?_) (fun h23 => ?_) | refine RK.condN rfl (fun h23 => ?_) (fun h23 => ?_) | refine RK.cond rfl (fun h23 => ?_) (fun h23 => ?_)
    · have e : updateS s now id a b ms bd = (s, 1) := by unfold updateS; rw [if_pos (by simpa using h23)]
      refine RK.seq ?_
      refine RK.region ?_
      refine RL.p rfl rfl ?_
      refine RL.done ?_
      refine RK.ret_of Tryz.func21 (res1 rfl rfl) ?_ _
      exact ⟨_, rfl, O, by rw [e], by rw [e]; exact hback _ hg02, Mod.any' hg02, fun x e => .inl e⟩
    · refine RK.skip ?_
      refine RK.seq ?_
      refine RK.region ?_
      iterate 2 refine RL.p rfl rfl ?_
      refine RL.op (.free rfl) rfl rfl (Does.call rfl e54 (findZ_ok _ p s M pl qu vp vq _ al q (h.grow hg02) g id)) ?_
      rintro _ w3 ⟨⟨i, rfl, hi⟩, hg3⟩
      obtain ⟨rfl, hil⟩ := hi j hpz
      rw [hpz]
      iterate 5 refine RL.p rfl rfl ?_
      refine RL.done ?_
      iterate 2 refine RK.seq ?_
      refine RK.region ?_
      iterate 2 refine RL.p rfl rfl ?_
      refine RL.done ?_
      refine RK.condF (hcF rfl (rfl)) ?_
      obtain ⟨x, ha⟩ : ∃ x, al[j]? = some x := ⟨al[j]'hil, List.getElem?_eq_getElem hil⟩
      have hsj : s.sl[j]? = some (pubZ x) := by rw [← hals]; simp [ha]
      have hg03 := hg02.trans hg3
      have h3 := h.grow hg03
      obtain ⟨b1, o1, c1', he1, _, _, hc1⟩ := (Sl.own (M := No) h3.row (fun _ _ h => h)).elem silC_len ha
      cases he1
      have hsm := h3.sms x (List.mem_of_getElem? ha)
      refine RK.skip ?_
      refine RK.seq ?_
      refine RK.region ?_
      iterate 2 refine RL.p rfl rfl ?_
      refine RL.q (.free rfl) rfl rfl (Yld.fieldAddr fo101_3 rfl) ?_
      refine RL.q (.free rfl) rfl rfl (Yld.load p44 rfl (at1 (h3.blk.cell rfl))) ?_
      refine RL.p rfl rfl ?_
      refine RL.q (.free rfl) rfl rfl (Yld.indexAddrN u44 i41 rfl rfl (by omega)) ?_
      refine RL.q (.free rfl) rfl rfl (Yld.loadN (cs := silC x) a41 rfl (atN (hc1))) ?_
      refine RL.op (.free rfl) rfl rfl (Does.alloc i41) ?_
      rintro _ w4 ⟨b17, rfl, hn17⟩
      refine RL.op' (.free rfl) rfl (Does.storeN i41 rfl rfl rfl (silC_one hsm) hn17.blk (Nat.le_refl 8)) ?_
      rintro _ w5 ⟨hb5, hm5, _⟩
      have hg35 : Grow w3 w5 := hn17.grow.then hm5 (fun y hy e => by have e' : y = b17 := e; have := hn17.at_; omega)
      have hg05 := hg03.trans hg35
      have hB5 : Blk w5 b17 41 [.int .i64 x.id, .int .i64 x.ver, .int .u64 x.start, .int .u64 x.stop, x.mv, .bool x.bd.all, .float .f64 x.bd.lo, .float .f64 x.bd.hi] := hb5
      refine RL.done ?_
      refine RK.seq ?_
      refine RK.region ?_
      refine RL.p rfl rfl ?_
      refine RL.q (.free rfl) rfl rfl (Yld.fieldAddr fo41_2 rfl) ?_
      refine RL.q (.free rfl) rfl rfl (Yld.load p22 rfl (at1 (hB5.cell rfl))) ?_
      refine RL.q (.free rfl) rfl rfl (Yld.fieldAddr fo41_3 rfl) ?_
      refine RL.q (.free rfl) rfl rfl (Yld.load p22 rfl (at1 (hB5.cell rfl))) ?_
      refine RL.op (.free rfl) rfl rfl (Does.call rfl e51 (state_ok now x.start x.stop _)) ?_
      rintro _ _ ⟨rfl, rfl⟩
      refine RL.p rfl rfl ?_
      refine RL.done ?_
      iterate 2 refine RK.seq ?_
      refine RK.region ?_
      iterate 2 refine RL.p rfl rfl ?_
      refine RL.done ?_
      first | refine RK.condD rfl (fun h46 => ?_) (fun h46 => ?_) | refine RK.condN rfl (fun h46 => ?_) (fun h46 => ?_) | refine RK.cond rfl (fun h46 => ?_) (fun h46 => ?_)
      · have e : updateS s now id a b ms bd = (s, 6) := by unfold updateS; rw [if_neg (by simpa using h23), hpz]; simp only; rw [hsj]; simp only; exact if_pos h46
        refine RK.seq ?_
        refine RK.region ?_
        refine RL.p rfl rfl ?_
        refine RL.done ?_
        refine RK.ret_of Tryz.func21 (res1 rfl rfl) ?_ _
        exact ⟨_, rfl, O, by rw [e], by rw [e]; exact hback _ hg05, Mod.any' hg05, fun x e => .inl e⟩
      · refine RK.skip ?_
        iterate 2 refine RK.seq ?_
        refine RK.region ?_
        iterate 4 refine RL.p rfl rfl ?_
        refine RL.op (.free rfl) rfl rfl (Does.call rfl e46 (fitsZ_ok M now a b ms _ _ (hms.mod (Mod.any' hg05)))) ?_
        rintro _ w6 ⟨rfl, hg6⟩
        have hg06 := hg05.trans hg6
        refine RL.p rfl rfl ?_
        refine RL.done ?_
        refine RK.seq ?_
        refine RK.region ?_
        iterate 2 refine RL.p rfl rfl ?_
        refine RL.done ?_
        first | refine RK.condD rfl (fun h53 => ?_) (fun h53 => ?_) | refine RK.condN rfl (fun h53 => ?_) (fun h53 => ?_) | refine RK.cond rfl (fun h53 => ?_) (fun h53 => ?_)
        · have e : updateS s now id a b ms bd = (s, fitsS now a b ms) := by unfold updateS; rw [if_neg (by simpa using h23), hpz]; simp only; rw [hsj]; simp only; rw [if_neg (show ¬ stateS now (pubZ x).start (pubZ x).stop = 3 from h46)]; exact if_pos h53
          refine RK.seq ?_
          refine RK.region ?_
          iterate 2 refine RL.p rfl rfl ?_
          refine RL.done ?_
          refine RK.ret_of Tryz.func21 (res1 rfl rfl) ?_ _
          exact ⟨_, rfl, O, by rw [e], by rw [e]; exact hback _ hg06, Mod.any' hg06, fun x e => .inl e⟩
        · have hB6 := hB5.mod hg6 (fun h => h)
          refine RK.skip ?_
          iterate 2 refine RK.seq ?_
          refine RK.region ?_
          iterate 3 refine RL.p rfl rfl ?_
          first | refine RL.splitD (d := 57) rfl rfl (fun h56 => ?_) (fun h56 => ?_) | refine RL.splitN (d := 57) rfl rfl (fun h56 => ?_) (fun h56 => ?_) | refine RL.split (d := 57) rfl rfl (fun h56 => ?_) (fun h56 => ?_)
          · refine RL.q (.yes rfl rfl rfl) rfl rfl (Yld.pure rfl) ?_
            refine RL.q (.yes rfl rfl rfl) rfl rfl (Yld.fieldAddr fo41_2 rfl) ?_
            refine RL.q (.yes rfl rfl rfl) rfl rfl (Yld.load p22 rfl (at1 (hB6.cell rfl))) ?_
            refine RL.q (.yes rfl rfl rfl) rfl rfl (Yld.pure rfl) ?_
            refine RL.p rfl rfl ?_
            refine RL.done ?_
            first | refine RK.condD rfl (fun h62 => ?_) (fun h62 => ?_) | refine RK.condN rfl (fun h62 => ?_) (fun h62 => ?_) | refine RK.cond rfl (fun h62 => ?_) (fun h62 => ?_)
            · have e : updateS s now id a b ms bd = (s, 6) := by unfold updateS; rw [if_neg (by simpa using h23), hpz]; simp only; rw [hsj]; simp only; rw [if_neg (show ¬ stateS now (pubZ x).start (pubZ x).stop = 3 from h46), if_neg h53]; exact if_pos ⟨h56, h62⟩
              refine RK.seq ?_
              refine RK.region ?_
              refine RL.p rfl rfl ?_
              refine RL.done ?_
              refine RK.ret_of Tryz.func21 (res1 rfl rfl) ?_ _
              exact ⟨_, rfl, O, by rw [e], by rw [e]; exact hback _ hg06, Mod.any' hg06, fun x e => .inl e⟩
            · have e : updateS s now id a b ms bd = (turnS s j ⟨x.id, a, b, ms, bd⟩, 0) := by unfold updateS; rw [if_neg (by simpa using h23), hpz]; simp only; rw [hsj]; simp only; rw [if_neg (show ¬ stateS now (pubZ x).start (pubZ x).stop = 3 from h46), if_neg h53]; exact if_neg (fun h => h62 h.2)
              have h6 := h.grow hg06
              obtain ⟨gb, cp, cs, hvs, hbk, hl, hkc, hcm, htk⟩ := h6.row.whole (by omega)
              cases hvs
              have hpg : p ≠ b1 := h6.blk.ty.ne hbk.ty rfl
              have hB13' := (((hB13.mod hg2 (fun h => h)).mod hg3 (fun h => h)).mod hg35 (fun h => h)).mod hg6 (fun h => h)
              have hgb13 : b1 ≠ b13 := hbk.ty.ne hB13'.ty rfl
              refine RK.skip ?_
              refine RK.seq ?_
              refine RK.drawM (· = b1) [(0, false), (1, false), (2, false), (3, false), (4, false), (5, false), (6, false), (7, false), (8, false), (9, false), (10, false), (12, false), (11, true), (13, false), (14, false), (15, true), (16, false), (17, false), (18, true)] [18] mixed (by kernel_rfl) ?_
              iterate 2 refine DL.p rfl rfl rfl ?_
              refine DL.qf rfl (.free rfl) rfl rfl (Yld.fieldAddr fo101_3 rfl) ?_
              refine DL.q rfl (.free rfl) rfl rfl rfl (Yld.load p44 rfl (atM (h6.blk.cell rfl) (hpg))) (Mod.drew _ _) ?_
              iterate 3 refine DL.p rfl rfl rfl ?_
              refine DL.qf rfl (.free rfl) rfl rfl (Yld.fieldAddr fo101_3 rfl) ?_
              refine DL.q rfl (.free rfl) rfl rfl rfl (Yld.load p44 rfl (atM (h6.blk.cell rfl) (hpg))) (Mod.drew _ _) ?_
              iterate 2 refine DL.p rfl rfl rfl ?_
              refine DL.q rfl (.free rfl) rfl rfl rfl (Yld.loadN (cs := bdC bd) a32 rfl (atNM (blk0' hB13') (hgb13.symm))) (Mod.drew _ _) ?_
              refine DL.op rfl (.free rfl) rfl rfl (Does.call rfl e48 (cloneM_ok M ms _ _ ((hms.mod (Mod.any' hg06)).mod (Mod.drew _ _)) hlen)) ?_
              rintro u7 w7 ⟨hr7, hf7, hg7'⟩
              obtain ⟨ad7, c7, rfl⟩ := hr7.slice
              have hg7 := (Mod.drew No w6).trans hg7'
              refine ⟨Mod.any' hg7, ?_⟩
              refine DL.qf rfl (.free rfl) rfl rfl (Yld.indexAddrN u44 i41 rfl rfl (by omega)) ?_
              refine DL.qf rfl (.free rfl) rfl rfl (Yld.fieldAddr fo41_4 rfl) ?_
              refine DL.op' rfl (.free rfl) rfl (Does.store i28 rfl rfl rfl (hbk.mod hg7 (fun h => h)) (SetAt.of (by rw [hl]; omega))) ?_
              rintro _ w8 ⟨hb8, hm8, hs8⟩
              refine ⟨(Mod.any' hg7).trans hm8, ?_⟩
              refine DL.qf rfl (.free rfl) rfl rfl (Yld.indexAddrN u44 i41 rfl rfl (by omega)) ?_
              refine DL.qf rfl (.free rfl) rfl rfl (Yld.fieldAddr fo41_5 rfl) ?_
              refine DL.opT rfl (.free rfl) rfl rfl (Does.storeN i32 rfl rfl rfl rfl hb8 (by rw [List.length_set, hl]; omega)) ?_
              rintro _ w9 ⟨hb9, hm9, _⟩
              obtain ⟨x', hx'⟩ : ∃ x' : Sil, x' = { x with mv := .slice ad7 ms.length c7, ms := ms, bd := bd } := ⟨_, rfl⟩
              have hb9' : Blk w9 b1 41 ((((cs.set (0 + j * 8 + 4) (.slice ad7 ms.length c7)).set (0 + j * 8 + 5) (.bool bd.all)).set (0 + j * 8 + 5 + 1) (.float .f64 bd.lo)).set (0 + j * 8 + 5 + 2) (.float .f64 bd.hi)) := by
                  rw [← sets3 _ _ _ _ _ (by rw [List.length_set, hl]; omega)]
                  exact hb9
              have hR9 : Row w9 41 8 (.slice (some ⟨b1, 0, none⟩) al.length cs0) (al.set j x').length ((al.set j x').flatMap silC) := by
                  have hR := Row.shut hb9' (sz := 8) (cap := cs0) (k := al.length) (by simp only [List.length_set]; exact hl) hkc hcm
                  rw [List.take_set, List.take_set, List.take_set, List.take_set, htk, Nat.zero_add, set_sil2 (.slice ad7 ms.length c7) ms bd al j x ha] at hR
                  rw [List.length_set, hx']
                  exact hR
              have hm69 : Mod (· = b1) w6 w9 := ((Mod.any' hg7).trans hm8).trans hm9
              have hbp9 := h6.blk.mod hm69 hpg
              have hq9 := h6.que.mod hm69 (hbk.ty.ne h6.que.blk.ty rfl).symm (fun y e1 e2 => (h6.que.row.ty e1).ne hbk.ty rfl e2)
              have hr9 := (hr7.mod hm8 (fun y e1 e2 => (hr7.ty e1).ne (hbk.mod hg7 (fun h => h)).ty rfl e2)).mod hm9 (fun y e1 e2 => ((hr7.mod hm8 (fun y e1 e2 => (hr7.ty e1).ne (hbk.mod hg7 (fun h => h)).ty rfl e2)).ty e1).ne hb8.ty rfl e2)
              have hxj : (al.set j x')[j]? = some x' := by rw [List.getElem?_set_self hil]
              have hsp := fits_span h53
              have hr0 := g.r0
              have hr1 := g.r1
              have hxid : x'.id = x.id := by rw [hx']
              refine DL.done ?_
              refine RK.seq ?_
              refine RK.region ?_
              iterate 4 refine RL.p rfl rfl ?_
              refine RL.op (.free rfl) rfl rfl (Does.call rfl e49 (turnZ_ok _ p pl qu s.ret a b vq _ (al.set j x') q j x' (by rw [List.length_set] at *; exact hbp9) hq9 h6.sort hR9 hxj (by omega) (by rw [List.length_set]; omega) (by omega) (by omega))) ?_
              rintro _ w10 ⟨rfl, vq', hb10, hq10, hr10, hm10, hf10⟩
              have hn6 : ∀ y, (y = qu ∨ vq.ownBlock = some y ∨ (Value.slice (some ⟨b1, 0, none⟩) al.length cs0).ownBlock = some y) → Ty w9 y 155 ∨ Ty w9 y 164 ∨ Ty w9 y 41 := fun y e => by
                  rcases e with rfl | e | e
                  · exact .inl hq9.blk.ty
                  · exact .inr (.inl (hq9.row.ty e))
                  · exact .inr (.inr (hR9.ty e))
              have hr10m := hr9.mod hm10 (fun y e1 e => by
                  rcases hn6 _ e with e | e | e
                  · exact (hr9.ty e1).ne e rfl rfl
                  · exact (hr9.ty e1).ne e rfl rfl
                  · exact (hr9.ty e1).ne e rfl rfl)
              have hz6 := hg06.size
              have hz7 := hg7.size
              have hz9 := hm69.size
              have hset : (al.set j x').set j { x' with start := a, stop := b } = al.set j { x' with start := a, stop := b } := by simp
              rw [hset] at hr10
              obtain ⟨O', hz, hmO, hO'⟩ := turned _ w10 p s (turnS s j ⟨x.id, a, b, ms, bd⟩) O M pl qu vp vq _ vq' al (al.set j { x' with start := a, stop := b }) q _ hO h6 rfl rfl rfl hb10 hq10 (by rw [List.length_set]; rw [List.length_set] at hr10; exact hr10) (by rw [List.map_set, hals, hx']; rfl) (set_ids ha hxid) (fun y hy => by
                  rcases List.mem_or_eq_of_mem_set hy with hy | rfl
                  · exact .inl (h6.sms y hy)
                  · exact .inr ⟨by rw [hx']; exact hr10m, fun c e => by rw [hx'] at e; have := hf7 c e; simp only [World.drew] at this; omega⟩) (turn_sort h6.sort h6.perm' (by rw [hids]; exact g.ris)) (by have hp := turn_perm (a' := { x' with start := a, stop := b }) h6.perm' (by rw [hids]; exact g.ris) ha hxid; rw [← hxid] at hp; exact hp) ((hm69.mono fun y _ e => .inr (.inr (by rw [e]; rfl))).trans hm10) (fun c e => (hf10 c e).elim .inl (fun e => .inr (by omega)))
              refine RL.done ?_
              refine RK.seq ?_
              refine RK.region ?_
              refine RL.p rfl rfl ?_
              refine RL.done ?_
              refine RK.ret_of Tryz.func21 (res1 rfl rfl) ?_ _
              exact ⟨_, rfl, O', by rw [e], by rw [e]; exact hz, (Mod.any' hg06).trans hmO, fun y e => (hO' y e).elim .inl (fun e => .inr (by omega))⟩
          · have e : updateS s now id a b ms bd = (turnS s j ⟨x.id, a, b, ms, bd⟩, 0) := by unfold updateS; rw [if_neg (by simpa using h23), hpz]; simp only; rw [hsj]; simp only; rw [if_neg (show ¬ stateS now (pubZ x).start (pubZ x).stop = 3 from h46), if_neg h53]; exact if_neg (fun h => h56 h.1)
            have h6 := h.grow hg06
            obtain ⟨gb, cp, cs, hvs, hbk, hl, hkc, hcm, htk⟩ := h6.row.whole (by omega)
            cases hvs
            have hpg : p ≠ b1 := h6.blk.ty.ne hbk.ty rfl
            have hB13' := (((hB13.mod hg2 (fun h => h)).mod hg3 (fun h => h)).mod hg35 (fun h => h)).mod hg6 (fun h => h)
            have hgb13 : b1 ≠ b13 := hbk.ty.ne hB13'.ty rfl
            iterate 4 refine RL.no (.no rfl rfl rfl rfl) rfl rfl ?_
            refine RL.p rfl rfl ?_
            refine RL.done ?_
            refine RK.condF rfl ?_
            refine RK.skip ?_
            refine RK.seq ?_
            refine RK.drawM (· = b1) [(0, false), (1, false), (2, false), (3, false), (4, false), (5, false), (6, false), (7, false), (8, false), (9, false), (10, false), (12, false), (11, true), (13, false), (14, false), (15, true), (16, false), (17, false), (18, true)] [18] mixed (by kernel_rfl) ?_
            iterate 2 refine DL.p rfl rfl rfl ?_
            refine DL.qf rfl (.free rfl) rfl rfl (Yld.fieldAddr fo101_3 rfl) ?_
            refine DL.q rfl (.free rfl) rfl rfl rfl (Yld.load p44 rfl (atM (h6.blk.cell rfl) (hpg))) (Mod.drew _ _) ?_
            iterate 3 refine DL.p rfl rfl rfl ?_
            refine DL.qf rfl (.free rfl) rfl rfl (Yld.fieldAddr fo101_3 rfl) ?_
            refine DL.q rfl (.free rfl) rfl rfl rfl (Yld.load p44 rfl (atM (h6.blk.cell rfl) (hpg))) (Mod.drew _ _) ?_
            iterate 2 refine DL.p rfl rfl rfl ?_
            refine DL.q rfl (.free rfl) rfl rfl rfl (Yld.loadN (cs := bdC bd) a32 rfl (atNM (blk0' hB13') (hgb13.symm))) (Mod.drew _ _) ?_
            refine DL.op rfl (.free rfl) rfl rfl (Does.call rfl e48 (cloneM_ok M ms _ _ ((hms.mod (Mod.any' hg06)).mod (Mod.drew _ _)) hlen)) ?_
            rintro u7 w7 ⟨hr7, hf7, hg7'⟩
            obtain ⟨ad7, c7, rfl⟩ := hr7.slice
            have hg7 := (Mod.drew No w6).trans hg7'
            refine ⟨Mod.any' hg7, ?_⟩
            refine DL.qf rfl (.free rfl) rfl rfl (Yld.indexAddrN u44 i41 rfl rfl (by omega)) ?_
            refine DL.qf rfl (.free rfl) rfl rfl (Yld.fieldAddr fo41_4 rfl) ?_
            refine DL.op' rfl (.free rfl) rfl (Does.store i28 rfl rfl rfl (hbk.mod hg7 (fun h => h)) (SetAt.of (by rw [hl]; omega))) ?_
            rintro _ w8 ⟨hb8, hm8, hs8⟩
            refine ⟨(Mod.any' hg7).trans hm8, ?_⟩
            refine DL.qf rfl (.free rfl) rfl rfl (Yld.indexAddrN u44 i41 rfl rfl (by omega)) ?_
            refine DL.qf rfl (.free rfl) rfl rfl (Yld.fieldAddr fo41_5 rfl) ?_
            refine DL.opT rfl (.free rfl) rfl rfl (Does.storeN i32 rfl rfl rfl rfl hb8 (by rw [List.length_set, hl]; omega)) ?_
            rintro _ w9 ⟨hb9, hm9, _⟩
            obtain ⟨x', hx'⟩ : ∃ x' : Sil, x' = { x with mv := .slice ad7 ms.length c7, ms := ms, bd := bd } := ⟨_, rfl⟩
            have hb9' : Blk w9 b1 41 ((((cs.set (0 + j * 8 + 4) (.slice ad7 ms.length c7)).set (0 + j * 8 + 5) (.bool bd.all)).set (0 + j * 8 + 5 + 1) (.float .f64 bd.lo)).set (0 + j * 8 + 5 + 2) (.float .f64 bd.hi)) := by
                rw [← sets3 _ _ _ _ _ (by rw [List.length_set, hl]; omega)]
                exact hb9
            have hR9 : Row w9 41 8 (.slice (some ⟨b1, 0, none⟩) al.length cs0) (al.set j x').length ((al.set j x').flatMap silC) := by
                have hR := Row.shut hb9' (sz := 8) (cap := cs0) (k := al.length) (by simp only [List.length_set]; exact hl) hkc hcm
                rw [List.take_set, List.take_set, List.take_set, List.take_set, htk, Nat.zero_add, set_sil2 (.slice ad7 ms.length c7) ms bd al j x ha] at hR
                rw [List.length_set, hx']
                exact hR
            have hm69 : Mod (· = b1) w6 w9 := ((Mod.any' hg7).trans hm8).trans hm9
            have hbp9 := h6.blk.mod hm69 hpg
            have hq9 := h6.que.mod hm69 (hbk.ty.ne h6.que.blk.ty rfl).symm (fun y e1 e2 => (h6.que.row.ty e1).ne hbk.ty rfl e2)
            have hr9 := (hr7.mod hm8 (fun y e1 e2 => (hr7.ty e1).ne (hbk.mod hg7 (fun h => h)).ty rfl e2)).mod hm9 (fun y e1 e2 => ((hr7.mod hm8 (fun y e1 e2 => (hr7.ty e1).ne (hbk.mod hg7 (fun h => h)).ty rfl e2)).ty e1).ne hb8.ty rfl e2)
            have hxj : (al.set j x')[j]? = some x' := by rw [List.getElem?_set_self hil]
            have hsp := fits_span h53
            have hr0 := g.r0
            have hr1 := g.r1
            have hxid : x'.id = x.id := by rw [hx']
            refine DL.done ?_
            refine RK.seq ?_
            refine RK.region ?_
            iterate 4 refine RL.p rfl rfl ?_
            refine RL.op (.free rfl) rfl rfl (Does.call rfl e49 (turnZ_ok _ p pl qu s.ret a b vq _ (al.set j x') q j x' (by rw [List.length_set] at *; exact hbp9) hq9 h6.sort hR9 hxj (by omega) (by rw [List.length_set]; omega) (by omega) (by omega))) ?_
            rintro _ w10 ⟨rfl, vq', hb10, hq10, hr10, hm10, hf10⟩
            have hn6 : ∀ y, (y = qu ∨ vq.ownBlock = some y ∨ (Value.slice (some ⟨b1, 0, none⟩) al.length cs0).ownBlock = some y) → Ty w9 y 155 ∨ Ty w9 y 164 ∨ Ty w9 y 41 := fun y e => by
                rcases e with rfl | e | e
                · exact .inl hq9.blk.ty
                · exact .inr (.inl (hq9.row.ty e))
                · exact .inr (.inr (hR9.ty e))
            have hr10m := hr9.mod hm10 (fun y e1 e => by
                rcases hn6 _ e with e | e | e
                · exact (hr9.ty e1).ne e rfl rfl
                · exact (hr9.ty e1).ne e rfl rfl
                · exact (hr9.ty e1).ne e rfl rfl)
            have hz6 := hg06.size
            have hz7 := hg7.size
            have hz9 := hm69.size
            have hset : (al.set j x').set j { x' with start := a, stop := b } = al.set j { x' with start := a, stop := b } := by simp
            rw [hset] at hr10
            obtain ⟨O', hz, hmO, hO'⟩ := turned _ w10 p s (turnS s j ⟨x.id, a, b, ms, bd⟩) O M pl qu vp vq _ vq' al (al.set j { x' with start := a, stop := b }) q _ hO h6 rfl rfl rfl hb10 hq10 (by rw [List.length_set]; rw [List.length_set] at hr10; exact hr10) (by rw [List.map_set, hals, hx']; rfl) (set_ids ha hxid) (fun y hy => by
                rcases List.mem_or_eq_of_mem_set hy with hy | rfl
                · exact .inl (h6.sms y hy)
                · exact .inr ⟨by rw [hx']; exact hr10m, fun c e => by rw [hx'] at e; have := hf7 c e; simp only [World.drew] at this; omega⟩) (turn_sort h6.sort h6.perm' (by rw [hids]; exact g.ris)) (by have hp := turn_perm (a' := { x' with start := a, stop := b }) h6.perm' (by rw [hids]; exact g.ris) ha hxid; rw [← hxid] at hp; exact hp) ((hm69.mono fun y _ e => .inr (.inr (by rw [e]; rfl))).trans hm10) (fun c e => (hf10 c e).elim .inl (fun e => .inr (by omega)))
            refine RL.done ?_
            refine RK.seq ?_
            refine RK.region ?_
            refine RL.p rfl rfl ?_
            refine RL.done ?_
            refine RK.ret_of Tryz.func21 (res1 rfl rfl) ?_ _
            exact ⟨_, rfl, O', by rw [e], by rw [e]; exact hz, (Mod.any' hg06).trans hmO, fun y e => (hO' y e).elim .inl (fun e => .inr (by omega))⟩
end Go.Proofs.YtbcbfjnlnmhpbaaGreat
set_option linter.unusedVariables false
set_option linter.unusedSimpArgs false
set_option maxHeartbeats 2000000
set_option maxRecDepth 100000
namespace Go.Proofs.YtbcbfjnlnmhpbaaGreat
open Go Go.X Go.Rex
theorem hasR9_ok (M : Nat → Prop) (xs : List Int) (x : Int) (v : Value) (w : World) (hv : Sl M w v 1 xs.length (ints xs)) :
    Fx Tryz.prog 19 [v, .int .i64 x] w (fun u w' => u = .bool (decide (x ∈ xs)) ∧ Grow w w') := by
  obtain ⟨ad, c, rfl⟩ := hv.shape
  have hbig := hv.big
  refine enter Tryz.func19 rfl rfl rfl _ (Pick.sub (l := [0, 1]) (.cons rfl (.cons rfl .nil))) ?_
  refine RK.seq ?_
  refine RK.region ?_
  refine RL.p rfl rfl ?_
  refine RL.done ?_
  iterate 2 refine RK.seq ?_
  refine RK.region ?_
  refine RL.p rfl rfl ?_
  refine RL.done ?_
  refine RK.block ?_
  refine RK.loop (fun k : Nat => [(0, .slice ad xs.length c), (1, .int .i64 x), (5, .int .i64 k)]) (fun k w' => Grow w w' ∧ k ≤ xs.length ∧ x ∉ xs.take k) (fun k => xs.length - k) 0 ⟨rfl, rfl, rfl, trivial⟩ ⟨Mod.refl _ _, by omega, by simp⟩ (fun k w' hI ih => ?_)
  obtain ⟨hg, hk, hno⟩ := hI
  iterate 2 refine RK.seq ?_
  refine RK.region ?_
  iterate 2 refine RL.p rfl rfl ?_
  refine RL.q (.free rfl) rfl rfl (Yld.lenSl u35 rfl) ?_
  refine RL.p rfl rfl ?_
  refine RL.done ?_
  first | refine RK.condD rfl (fun h9 => ?_) (fun h9 => ?_) | refine RK.condN rfl (fun h9 => ?_) (fun h9 => ?_) | refine RK.cond rfl (fun h9 => ?_) (fun h9 => ?_)
  · obtain ⟨y, hy⟩ : ∃ y, xs[k]? = some y := ⟨xs[k]'(by omega), List.getElem?_eq_getElem (by omega)⟩
    obtain ⟨b1, o1, c1', he1, _, _, hc1⟩ := hv.elem1 (k := k) (u := .int .i64 y) (by simp [hy])
    cases he1
    refine RK.skip ?_
    refine RK.seq ?_
    refine RK.block ?_
    refine RK.seq ?_
    refine RK.region ?_
    iterate 2 refine RL.p rfl rfl ?_
    refine RL.q (.free rfl) rfl rfl (Yld.indexAddrN u35 i3 rfl rfl (by omega)) ?_
    refine RL.q (.free rfl) rfl rfl (Yld.load p3 rfl (at1 (hg.cell (hc1 k (.int .i64 y) (by simp [hy])) (fun h => h)))) ?_
    iterate 2 refine RL.p rfl rfl ?_
    refine RL.done ?_
    first | refine RK.condD rfl (fun h17 => ?_) (fun h17 => ?_) | refine RK.condN rfl (fun h17 => ?_) (fun h17 => ?_) | refine RK.cond rfl (fun h17 => ?_) (fun h17 => ?_)
    · refine RK.seq ?_
      refine RK.region ?_
      refine RL.p rfl rfl ?_
      refine RL.done ?_
      refine RK.ret_of Tryz.func19 (res1 rfl rfl) ?_ _
      exact ⟨_, rfl, congrArg _ (by rw [eq_comm, decide_eq_true_eq]; exact (show y = x by simpa using h17) ▸ List.mem_of_getElem? hy), hg⟩
    · refine RK.skip ?_
      refine RK.inBlock ?_
      refine RK.region ?_
      iterate 2 refine RL.p rfl rfl ?_
      refine RL.re (d := 11) rfl rfl (succ_i64 (by omega)) ?_
      refine RL.p rfl rfl ?_
      refine RL.done ?_
      exact RK.back (ih (k + 1) _ ⟨hg, by omega, by
          rw [List.take_succ_eq_append_getElem (by omega), (List.getElem?_eq_some_iff.1 hy).2]
          have e : ¬ y = x := by simpa using h17
          simp [hno, Ne.symm e]⟩ (by omega)) ⟨rfl, rfl, rfl, trivial⟩
  · refine RK.exit rfl ?_
    refine RK.seq ?_
    refine RK.region ?_
    refine RL.p rfl rfl ?_
    refine RL.done ?_
    refine RK.ret_of Tryz.func19 (res1 rfl rfl) ?_ _
    exact ⟨_, rfl, congrArg _ (by rw [eq_comm, decide_eq_false_iff_not]; rwa [List.take_of_length_le (by omega)] at hno), hg⟩
end Go.Proofs.YtbcbfjnlnmhpbaaGreat
set_option linter.unusedVariables false
set_option linter.unusedSimpArgs false
set_option maxHeartbeats 3200000
set_option maxRecDepth 100000
namespace Go.Proofs.YtbcbfjnlnmhpbaaGreat
open Go Go.X
theorem Gz.update {s : SS} (g : Gz s) (now id a b : Int) (hb : 0 ≤ b) (ms : List Mt) (bd : Bd) : Gz (updateS s now id a b ms bd).1 := by
  unfold updateS
  split
  · exact g
  · split
    · exact g
    · split
      · exact g
      · rename_i x hx
        split
        · exact g
        · split
          · exact g
          · rename_i hf
            have hsp := fits_span hf
            split
            · exact g
            · exact g.turn hx rfl ⟨hb, hsp.2.2⟩
def sF : SS := ⟨7, 3, 0, []⟩
theorem sF_ok : Gz sF := ⟨by decide, by decide, by decide, by decide, List.Pairwise.nil, by decide, fun a h => (by cases h), fun a h => (by cases h)⟩
def sG (a b : Int) : SS := ⟨7, 3, 1, [⟨1, a, b, [mP], bdAll⟩]⟩
def sH (a b : Int) : SS := ⟨7, 3, 2, [⟨1, a, b, [mP], bdAll⟩, ⟨2, 1, 1099511627776, [mP], bdAll⟩]⟩
theorem sF_yes {a b : Int} (h : spanS 0 a b = true) : makeS sF 0 a b [mP] bdAll = (sG a b, 1, 0) := by
  have h1 : fitsS 0 a b [mP] = 0 := by rw [fitsP, if_pos h]
  unfold makeS
  rw [mP_right, if_neg (by decide), h1]
  rfl
theorem sF_no {a b : Int} (h : spanS 0 a b = false) : makeS sF 0 a b [mP] bdAll = (sF, 0, 8) := by
  have h1 : fitsS 0 a b [mP] = 8 := by rw [fitsP, if_neg (by rw [h]; decide)]
  unfold makeS
  rw [mP_right, if_neg (by decide), h1]
  rfl
theorem sG_make (a b : Int) : makeS (sG a b) 0 1 1099511627776 [mP] bdAll = (sH a b, 2, 0) := by
  have h1 : fitsS 0 1 1099511627776 [mP] = 0 := by rw [fitsP]; rfl
  unfold makeS
  rw [mP_right, if_neg (by decide), h1]
  rfl
theorem sH_expire {a b t : Int} : expireS (sH a b) t 1 = if stateS t a b = 3 then (sH a b, 6) else (sH (minS a t) t, 0) := by
  unfold expireS
  rw [show placeZ (sH a b) 1 = some 0 from rfl]
  simp only
  rw [show (sH a b).sl[0]? = some ⟨1, a, b, [mP], bdAll⟩ from rfl]
  rfl
theorem sH_get1 (a b : Int) : getZ (sH a b) 1 = some ⟨1, a, b, [mP], bdAll⟩ := rfl
theorem sH_get2 (a b : Int) : getZ (sH a b) 2 = some ⟨2, 1, 1099511627776, [mP], bdAll⟩ := rfl
theorem sH_holds {a b t : Int} (h : stateS t a b = 3) (v : Nat) : 1 ∉ holdsZ t [] v (sH a b).sl := by
  unfold holdsZ sH
  simp only
  rw [List.filter_cons_of_neg (by unfold holdZ; simp [h])]
  intro hm
  obtain ⟨x, hx, e⟩ := List.mem_map.1 hm
  have h1 := (List.mem_filter.1 hx).1
  obtain rfl := List.mem_singleton.1 h1
  cases e
theorem sH_update {a b t : Int} (h : stateS t a b = 3) : updateS (sH a b) t 1 0 1099511627776 [mP] bdAll = (sH a b, 6) := by
  unfold updateS
  rw [mP_right, if_neg (by decide), show placeZ (sH a b) 1 = some 0 from rfl]
  simp only
  rw [show (sH a b).sl[0]? = some ⟨1, a, b, [mP], bdAll⟩ from rfl]
  simp only
  exact if_pos h
theorem ZStore.ltM {O M : Nat → Prop} {w : World} {p : Nat} {s : SS} (h : ZStore O M w p s) : ∀ b, M b → b < w.heap.size := by
  obtain ⟨pl, qu, vp, vq, vs, al, q, hO, h⟩ := h
  exact h.ltM
def maxS (a b : Int) : Int := if b > a then b else a
theorem sends_ok (a b t t2 : Int) (h1 : 0 ≤ b) (ht : 0 ≤ t) (w : World) : Fx Tryz.prog 5 [.int .u64 a, .int .u64 b, .int .u64 t, .int .u64 t2] w (fun u w' => u = .bool true ∧ Grow w w') := by
  cases hsp : spanS 0 a b with
  | false =>
    have hgF := sF_ok
    refine enter Tryz.func5 rfl rfl rfl _ (Pick.sub (l := [0, 1, 2, 3]) (.cons rfl (.cons rfl (.cons rfl (.cons rfl .nil))))) ?_
    refine RK.seq ?_
    refine RK.region ?_
    refine RL.p rfl rfl ?_
    refine RL.done ?_
    refine RK.seq ?_
    refine RK.region ?_
    refine RL.op (.free rfl) rfl rfl (Does.call rfl e10 (newZ_ok 3 7 _)) ?_
    rintro _ w1 ⟨p, O1, rfl, hz1, hg1, hO1⟩
    have hsF : (⟨clampS 7 1 1048576, clampS 3 1 12, 0, []⟩ : SS) = sF := rfl
    rw [hsF] at hz1
    refine RL.p rfl rfl ?_
    refine RL.done ?_
    iterate 2 refine RK.seq ?_
    refine RK.region ?_
    refine RL.p rfl rfl ?_
    refine RL.q (.free rfl) rfl rfl (Yld.eqPtr Tryz.underlying23 rfl rfl) ?_
    refine RL.done ?_
    refine RK.condF (hcF rfl (rfl)) ?_
    refine RK.skip ?_
    refine RK.seq ?_
    refine RK.region ?_
    iterate 3 refine RL.p rfl rfl ?_
    refine RL.op (.free rfl) rfl rfl (Does.call rfl e12 (plain14_ok _)) ?_
    rintro u2 w2 ⟨hr2, hf2, hg2⟩
    have hz2 := hz1.grow hg2
    refine RL.q (.free rfl) rfl rfl (Yld.build (v := .agg (bdC bdAll).toArray) rfl (fun w => by kernel_rfl)) ?_
    refine RL.op (.free rfl) rfl rfl (Does.call rfl e11 (makeZ_ok _ p sF O1 O1 hz2 sF_ok (by decide) 0 a b h1 [mP] u2 bdAll (Sl.own hr2 (fun k hk e => by have := hf2 k hk; have := hz1.lt k e; omega)) (by simp))) ?_
    rintro _ w3 ⟨O3, rfl, hz3, hm3, hO3⟩
    have hg03 : Grow w w3 := (hg1.trans hg2).then hm3 (fun b hb e => by have := hO1 b e; omega)
    have hs03 := hg03.size
    have hs02 := (hg1.trans hg2).size
    have hF3 : ∀ b, O3 b → w.heap.size ≤ b := fun b e => (hO3 b e).elim (hO1 b) (fun e => by omega)
    iterate 5 refine RL.p rfl rfl ?_
    refine RL.done ?_
    refine RK.seq ?_
    refine RK.region ?_
    refine RL.p rfl rfl ?_
    refine RL.op (.free rfl) rfl rfl (Does.call rfl e12 (plain14_ok _)) ?_
    rintro uu4 w4 ⟨hr4, hf4, hg4⟩
    have hz4 := hz3.grow hg4
    have hlt4 : ∀ b, (O1 b ∨ O3 b) → b < w3.heap.size := fun b e => e.elim (fun e => Nat.lt_of_lt_of_le (hz2.lt b e) hm3.size) (fun e => hz3.lt b e)
    rw [sF_no hsp] at hz4 ⊢
    refine RL.q (.free rfl) rfl rfl (Yld.build (v := .agg (bdC bdAll).toArray) rfl (fun w => by kernel_rfl)) ?_
    refine RL.op (.free rfl) rfl rfl (Does.call rfl e11 (makeZ_ok _ p sF O3 _ hz4 sF_ok (by decide) 0 1 1099511627776 (by decide) [mP] uu4 bdAll (Sl.own hr4 (fun k hk e => by have := hf4 k hk; have := hlt4 k e; omega)) (by simp))) ?_
    rintro _ w5 ⟨O5, rfl, hz5, hm5, hO5⟩
    have hg05 : Grow w w5 := (hg03.trans hg4).then hm5 (fun b hb e => by have := hF3 b e; omega)
    rw [sF_yes (a := 1) (b := 1099511627776) rfl]
    iterate 5 refine RL.p rfl rfl ?_
    refine RL.done ?_
    iterate 2 refine RK.seq ?_
    refine RK.region ?_
    iterate 3 refine RL.p rfl rfl ?_
    refine RL.knownF (d := 41) rfl rfl (rfl) ?_
    iterate 2 refine RL.q (.yes rfl rfl rfl) rfl rfl (Yld.pure rfl) ?_
    refine RL.p rfl rfl ?_
    refine RL.done ?_
    refine RK.condT (hcT rfl (rfl)) ?_
    refine RK.seq ?_
    refine RK.region ?_
    refine RL.op (.free rfl) rfl rfl (Does.call rfl e14 (sruns_ok _)) ?_
    rintro _ w7 ⟨rfl, hg7⟩
    refine RL.p rfl rfl ?_
    refine RL.done ?_
    refine RK.ret_of Tryz.func5 (res1 rfl rfl) ?_ _
    exact ⟨_, rfl, rfl, hg05.trans hg7⟩
  | true =>
    have hraw : a < b ∧ 0 < b ∧ b ≤ 1099511627776 := by
      unfold spanS at hsp
      simp only [Bool.and_eq_true, decide_eq_true_eq] at hsp
      omega
    have hgG : Gz (sG a b) := by have h := sF_ok.make 0 a b h1 [mP] bdAll; rw [sF_yes hsp] at h; exact h
    have hgH : Gz (sH a b) := by have h := hgG.make 0 1 1099511627776 (by decide) [mP] bdAll; rw [sG_make] at h; exact h
    by_cases hbt : t < b
    · skip
      refine enter Tryz.func5 rfl rfl rfl _ (Pick.sub (l := [0, 1, 2, 3]) (.cons rfl (.cons rfl (.cons rfl (.cons rfl .nil))))) ?_
      refine RK.seq ?_
      refine RK.region ?_
      refine RL.p rfl rfl ?_
      refine RL.done ?_
      refine RK.seq ?_
      refine RK.region ?_
      refine RL.op (.free rfl) rfl rfl (Does.call rfl e10 (newZ_ok 3 7 _)) ?_
      rintro _ w1 ⟨p, O1, rfl, hz1, hg1, hO1⟩
      have hsF : (⟨clampS 7 1 1048576, clampS 3 1 12, 0, []⟩ : SS) = sF := rfl
      rw [hsF] at hz1
      refine RL.p rfl rfl ?_
      refine RL.done ?_
      iterate 2 refine RK.seq ?_
      refine RK.region ?_
      refine RL.p rfl rfl ?_
      refine RL.q (.free rfl) rfl rfl (Yld.eqPtr Tryz.underlying23 rfl rfl) ?_
      refine RL.done ?_
      refine RK.condF (hcF rfl (rfl)) ?_
      refine RK.skip ?_
      refine RK.seq ?_
      refine RK.region ?_
      iterate 3 refine RL.p rfl rfl ?_
      refine RL.op (.free rfl) rfl rfl (Does.call rfl e12 (plain14_ok _)) ?_
      rintro u2 w2 ⟨hr2, hf2, hg2⟩
      have hz2 := hz1.grow hg2
      refine RL.q (.free rfl) rfl rfl (Yld.build (v := .agg (bdC bdAll).toArray) rfl (fun w => by kernel_rfl)) ?_
      refine RL.op (.free rfl) rfl rfl (Does.call rfl e11 (makeZ_ok _ p sF O1 O1 hz2 sF_ok (by decide) 0 a b h1 [mP] u2 bdAll (Sl.own hr2 (fun k hk e => by have := hf2 k hk; have := hz1.lt k e; omega)) (by simp))) ?_
      rintro _ w3 ⟨O3, rfl, hz3, hm3, hO3⟩
      have hg03 : Grow w w3 := (hg1.trans hg2).then hm3 (fun b hb e => by have := hO1 b e; omega)
      have hs03 := hg03.size
      have hs02 := (hg1.trans hg2).size
      have hF3 : ∀ b, O3 b → w.heap.size ≤ b := fun b e => (hO3 b e).elim (hO1 b) (fun e => by omega)
      iterate 5 refine RL.p rfl rfl ?_
      refine RL.done ?_
      refine RK.seq ?_
      refine RK.region ?_
      refine RL.p rfl rfl ?_
      refine RL.op (.free rfl) rfl rfl (Does.call rfl e12 (plain14_ok _)) ?_
      rintro uu4 w4 ⟨hr4, hf4, hg4⟩
      have hz4 := hz3.grow hg4
      have hlt4 : ∀ b, (O1 b ∨ O3 b) → b < w3.heap.size := fun b e => e.elim (fun e => Nat.lt_of_lt_of_le (hz2.lt b e) hm3.size) (fun e => hz3.lt b e)
      rw [sF_yes hsp] at hz4 ⊢
      refine RL.q (.free rfl) rfl rfl (Yld.build (v := .agg (bdC bdAll).toArray) rfl (fun w => by kernel_rfl)) ?_
      refine RL.op (.free rfl) rfl rfl (Does.call rfl e11 (makeZ_ok _ p (sG a b) O3 _ hz4 hgG (by show (1 : Int) < 2147483647; decide) 0 1 1099511627776 (by decide) [mP] uu4 bdAll (Sl.own hr4 (fun k hk e => by have := hf4 k hk; have := hlt4 k e; omega)) (by simp))) ?_
      rintro _ w5 ⟨O5, rfl, hz5, hm5, hO5⟩
      have hg05 : Grow w w5 := (hg03.trans hg4).then hm5 (fun b hb e => by have := hF3 b e; omega)
      have hs4 := (hg03.trans hg4).size
      have hF5 : ∀ b, O5 b → w.heap.size ≤ b := fun b e => (hO5 b e).elim (hF3 b) (fun e => by omega)
      rw [sG_make] at hz5 ⊢
      iterate 5 refine RL.p rfl rfl ?_
      refine RL.done ?_
      iterate 2 refine RK.seq ?_
      refine RK.region ?_
      iterate 3 refine RL.p rfl rfl ?_
      refine RL.knownF (d := 41) rfl rfl (rfl) ?_
      iterate 2 refine RL.q (.yes rfl rfl rfl) rfl rfl (Yld.pure rfl) ?_
      refine RL.p rfl rfl ?_
      refine RL.done ?_
      refine RK.condF (hcF rfl (rfl)) ?_
      refine RK.skip ?_
      refine RK.seq ?_
      refine RK.region ?_
      iterate 2 refine RL.p rfl rfl ?_
      refine RL.op (.free rfl) rfl rfl (Does.call rfl e20 (expireZ_ok _ p _ _ _ hz5 hgH t 1 ht)) ?_
      rintro _ w6 ⟨O6, rfl, hz6, hm6, hO6⟩
      have hg06 : Grow w w6 := hg05.then hm6 (fun b hb e => by have := hF5 b e; omega)
      have hs5 := hg05.size
      have hF6 : ∀ b, O6 b → w.heap.size ≤ b := fun b e => (hO6 b e).elim (hF5 b) (fun e => by omega)
      have hmx : t ≤ maxS t t2 := by unfold maxS; split <;> omega
      have hstop : stateS t a b = 3 ↔ b ≤ t := by unfold stateS; split <;> (try split) <;> omega
      rw [sH_expire, if_neg (by rw [hstop]; omega)] at hz6 ⊢
      have hgA := hgH.expire t 1 ht
      rw [sH_expire, if_neg (by rw [hstop]; omega)] at hgA
      obtain ⟨a', ha'⟩ : ∃ a', a' = minS a t := ⟨_, rfl⟩
      obtain ⟨b', hb'⟩ : ∃ b', b' = t := ⟨_, rfl⟩
      have hgH' : Gz (sH a' b') := by rw [ha', hb']; exact hgA
      have hz7 : ZStore O6 (fun x => (((O1 x ∨ O3 x) ∨ O5 x) ∨ O6 x)) w6 p (sH a' b') := by rw [ha', hb']; exact hz6
      have h3 : stateS (maxS t t2) a' b' = 3 := by unfold stateS; rw [if_pos (by omega)]
      have hab : a' ≤ b' := by rw [ha', hb']; unfold minS; split <;> omega
      have hbb : b' ≤ b := by omega
      refine RL.p rfl rfl ?_
      refine RL.done ?_
      iterate 2 refine RK.seq ?_
      refine RK.region ?_
      iterate 5 refine RL.p rfl rfl ?_
      refine RL.q (.free rfl) rfl rfl (Yld.neqBool u4 rfl rfl) ?_
      refine RL.p rfl rfl ?_
      refine RL.knownF (d := 55) rfl rfl ((by rw [decide_eq_true hbt]; rfl)) ?_
      iterate 3 refine RL.q (.yes rfl rfl rfl) rfl rfl (Yld.pure rfl) ?_
      refine RL.knownF (d := 58) rfl rfl (rfl) ?_
      iterate 2 refine RL.no (.no rfl rfl rfl rfl) rfl rfl ?_
      refine RL.q (.yes rfl rfl rfl) rfl rfl (Yld.pure rfl) ?_
      refine RL.p rfl rfl ?_
      refine RL.done ?_
      refine RK.condF (hcF rfl (rfl)) ?_
      refine RK.skip ?_
      refine RK.seq ?_
      refine RK.region ?_
      iterate 2 refine RL.p rfl rfl ?_
      refine RL.q (.free rfl) rfl rfl (Yld.max2k rfl rfl) ?_
      refine RL.p rfl rfl ?_
      refine RL.done ?_
      refine RK.seq ?_
      refine RK.region ?_
      iterate 2 refine RL.p rfl rfl ?_
      refine RL.op (.free rfl) rfl rfl (Does.call rfl e16 (getZ_ok _ p _ _ _ hz7 hgH' (maxS t t2) 1 (by simp [sH]))) ?_
      rintro _ w8 ⟨hget, hg8⟩
      rw [sH_get1] at hget
      obtain ⟨v8, rfl, hr8, hf8⟩ := hget
      obtain ⟨ad8, c8, rfl⟩ := hr8.slice
      iterate 3 refine RL.p rfl rfl ?_
      refine RL.op (.free rfl) rfl rfl (Does.alloc i41) ?_
      rintro _ w9 ⟨b16, rfl, hn16⟩
      refine RL.op' (.free rfl) rfl (Does.storeN i41 rfl rfl rfl rfl hn16.blk (Nat.le_refl 8)) ?_
      rintro _ w10 ⟨hb10, hm10, _⟩
      have hg10 : Grow w8 w10 := hn16.grow.then hm10 (fun y hy e => by have e' : y = b16 := e; have := hn16.at_; omega)
      have hB10 : Blk w10 b16 41 (silC ⟨1, stateS (maxS t t2) a' b', a', b', .slice ad8 [mP].length c8, [mP], bdAll⟩) := hb10
      have hg610 := hg8.trans hg10
      refine RL.p rfl rfl ?_
      refine RL.done ?_
      iterate 2 refine RK.seq ?_
      refine RK.region ?_
      iterate 3 refine RL.p rfl rfl ?_
      refine RL.knownF (d := 74) rfl rfl (rfl) ?_
      refine RL.q (.yes rfl rfl rfl) rfl rfl (Yld.fieldAddr fo41_1 rfl) ?_
      refine RL.q (.yes rfl rfl rfl) rfl rfl (Yld.load p3 rfl (at1 (hB10.cell rfl))) ?_
      refine RL.q (.yes rfl rfl rfl) rfl rfl (Yld.pure rfl) ?_
      iterate 2 refine RL.p rfl rfl ?_
      refine RL.knownF (d := 79) rfl rfl ((by rw [h3]; rfl)) ?_
      refine RL.q (.yes rfl rfl rfl) rfl rfl (Yld.fieldAddr fo41_2 rfl) ?_
      refine RL.q (.yes rfl rfl rfl) rfl rfl (Yld.load p22 rfl (at1 (hB10.cell rfl))) ?_
      refine RL.q (.yes rfl rfl rfl) rfl rfl (Yld.fieldAddr fo41_3 rfl) ?_
      refine RL.q (.yes rfl rfl rfl) rfl rfl (Yld.load p22 rfl (at1 (hB10.cell rfl))) ?_
      refine RL.q (.yes rfl rfl rfl) rfl rfl (Yld.pure rfl) ?_
      iterate 2 refine RL.p rfl rfl ?_
      refine RL.knownF (d := 86) rfl rfl (decide_eq_false (show ¬ (a' > b') by omega)) ?_
      refine RL.q (.yes rfl rfl rfl) rfl rfl (Yld.fieldAddr fo41_3 rfl) ?_
      refine RL.q (.yes rfl rfl rfl) rfl rfl (Yld.load p22 rfl (at1 (hB10.cell rfl))) ?_
      iterate 2 refine RL.q (.yes rfl rfl rfl) rfl rfl (Yld.pure rfl) ?_
      refine RL.p rfl rfl ?_
      refine RL.done ?_
      refine RK.condF (hcF rfl (decide_eq_false (show ¬ (b' > b) by omega))) ?_
      refine RK.skip ?_
      refine RK.seq ?_
      refine RK.region ?_
      iterate 2 refine RL.p rfl rfl ?_
      refine RL.op (.free rfl) rfl rfl (Does.call rfl e16 (getZ_ok _ p _ _ _ (hz7.grow hg610) hgH' (maxS t t2) 2 (by simp [sH]))) ?_
      rintro _ w11 ⟨hget2, hg11⟩
      rw [sH_get2] at hget2
      obtain ⟨v11, rfl, hr11, hf11⟩ := hget2
      obtain ⟨ad11, c11, rfl⟩ := hr11.slice
      iterate 3 refine RL.p rfl rfl ?_
      refine RL.op (.free rfl) rfl rfl (Does.alloc i41) ?_
      rintro _ w12 ⟨b18, rfl, hn18⟩
      refine RL.op' (.free rfl) rfl (Does.storeN i41 rfl rfl rfl rfl hn18.blk (Nat.le_refl 8)) ?_
      rintro _ w13 ⟨hb13, hm13, _⟩
      have hg13 : Grow w11 w13 := hn18.grow.then hm13 (fun y hy e => by have e' : y = b18 := e; have := hn18.at_; omega)
      have hB13 : Blk w13 b18 41 (silC ⟨2, stateS (maxS t t2) 1 1099511627776, 1, 1099511627776, .slice ad11 [mP].length c11, [mP], bdAll⟩) := hb13
      have hg613 := (hg610.trans hg11).trans hg13
      refine RL.p rfl rfl ?_
      refine RL.done ?_
      refine RK.seq ?_
      refine RK.region ?_
      iterate 2 refine RL.p rfl rfl ?_
      refine RL.op (.free rfl) rfl rfl (Does.call rfl e15 (holdsStore_ok _ p _ _ _ (hz7.grow hg613) hgH' (maxS t t2) No [] (.slice none 0 0) 0 (Sl.nil _ _ _ _ _) (by simp))) ?_
      rintro u14 w14 ⟨hr14, hf14, hg14⟩
      have hnot := sH_holds h3 0
      refine RL.op (.free rfl) rfl rfl (Does.call rfl e19 (hasR9_ok No _ 1 u14 _ (Sl.own hr14 (fun _ _ h => h)))) ?_
      rintro _ w15 ⟨rfl, hg15⟩
      have hg615 := (hg613.trans hg14).trans hg15
      iterate 2 refine RL.p rfl rfl ?_
      refine RL.knownT (d := 103) rfl rfl ((by rw [decide_eq_false hnot]; rfl)) ?_
      iterate 2 refine RL.q (.yes rfl rfl rfl) rfl rfl (Yld.pure rfl) ?_
      refine RL.op (.yes rfl rfl rfl) rfl rfl (Does.call rfl e20 (expireZ_ok _ p _ _ _ (hz7.grow hg615) hgH' (maxS t t2) 1 (by omega))) ?_
      rintro _ w16 ⟨O16, rfl, hz16, hm16, hO16⟩
      rw [sH_expire, if_pos h3] at hz16 ⊢
      refine RL.q (.yes rfl rfl rfl) rfl rfl (Yld.pure rfl) ?_
      iterate 2 refine RL.p rfl rfl ?_
      refine RL.knownT (d := 109) rfl rfl (rfl) ?_
      iterate 2 refine RL.q (.yes rfl rfl rfl) rfl rfl (Yld.pure rfl) ?_
      refine RL.op (.yes rfl rfl rfl) rfl rfl (Does.call rfl e12 (plain14_ok _)) ?_
      rintro u17 w17 ⟨hr17, hf17, hg17⟩
      refine RL.q (.yes rfl rfl rfl) rfl rfl (Yld.build (v := .agg (bdC bdAll).toArray) rfl (fun w => by kernel_rfl)) ?_
      refine RL.op (.yes rfl rfl rfl) rfl rfl (Does.call rfl e21 (updateZ_ok _ p _ _ _ (hz16.grow hg17) hgH' (maxS t t2) 1 0 1099511627776 (by decide) [mP] u17 bdAll (Sl.own hr17 (fun k hk e => by have := hf17 k hk; have := hz16.ltM k e; omega)) (by simp))) ?_
      rintro _ w18 ⟨O18, rfl, hz18, hm18, hO18⟩
      rw [sH_update h3] at hz18 ⊢
      refine RL.q (.yes rfl rfl rfl) rfl rfl (Yld.pure rfl) ?_
      iterate 2 refine RL.p rfl rfl ?_
      refine RL.knownT (d := 117) rfl rfl (rfl) ?_
      refine RL.q (.yes rfl rfl rfl) rfl rfl (Yld.pure rfl) ?_
      iterate 2 refine RL.p rfl rfl ?_
      refine RL.knownT (d := 120) rfl rfl (rfl) ?_
      refine RL.q (.yes rfl rfl rfl) rfl rfl (Yld.fieldAddr fo41_2 rfl) ?_
      have z6 := hg610.size
      have z11 := hg11.size
      have z13 := hg13.size
      have z14 := (hg14.trans hg15).size
      have z16 := hm16.size
      have z17 := hg17.size
      have a18 := hn18.at_
      have l18 := hB13.lt
      have z60 := hg06.size
      have hB18 := ((hB13.mod (hg14.trans hg15) (fun h => h)).mod hm16 (fun e => by have := hz7.lt _ e; omega)).mod (hg17.any (fun _ => False)) (fun h => h)
      have hB19 := hB18.mod hm18 (fun e => (hO16 _ e).elim (fun e => by have := hz7.lt _ e; omega) (fun e => by omega))
      refine RL.q (.yes rfl rfl rfl) rfl rfl (Yld.load p22 rfl (at1 (hB19.cell rfl))) ?_
      refine RL.q (.yes rfl rfl rfl) rfl rfl (Yld.pure rfl) ?_
      iterate 2 refine RL.p rfl rfl ?_
      refine RL.knownT (d := 125) rfl rfl (rfl) ?_
      refine RL.q (.yes rfl rfl rfl) rfl rfl (Yld.fieldAddr fo41_3 rfl) ?_
      refine RL.q (.yes rfl rfl rfl) rfl rfl (Yld.load p22 rfl (at1 (hB19.cell rfl))) ?_
      refine RL.q (.yes rfl rfl rfl) rfl rfl (Yld.pure rfl) ?_
      iterate 2 refine RL.p rfl rfl ?_
      refine RL.knownT (d := 130) rfl rfl (rfl) ?_
      have hF16 : ∀ b, O16 b → w.heap.size ≤ b := fun b e => (hO16 b e).elim (hF6 b) (fun e => by omega)
      refine RL.op (.yes rfl rfl rfl) rfl rfl (Does.call rfl e14 (sruns_ok _)) ?_
      rintro _ w20 ⟨rfl, hg20⟩
      iterate 2 refine RL.p rfl rfl ?_
      refine RL.done ?_
      refine RK.ret_of Tryz.func5 (res1 rfl rfl) ?_ _
      exact ⟨_, rfl, rfl, ((((hg06.trans hg615).then hm16 (fun b hb e => by have := hF6 b e; omega)).trans hg17).then hm18 (fun b hb e => by have := hF16 b e; omega)).trans hg20⟩
    · skip
      refine enter Tryz.func5 rfl rfl rfl _ (Pick.sub (l := [0, 1, 2, 3]) (.cons rfl (.cons rfl (.cons rfl (.cons rfl .nil))))) ?_
      refine RK.seq ?_
      refine RK.region ?_
      refine RL.p rfl rfl ?_
      refine RL.done ?_
      refine RK.seq ?_
      refine RK.region ?_
      refine RL.op (.free rfl) rfl rfl (Does.call rfl e10 (newZ_ok 3 7 _)) ?_
      rintro _ w1 ⟨p, O1, rfl, hz1, hg1, hO1⟩
      have hsF : (⟨clampS 7 1 1048576, clampS 3 1 12, 0, []⟩ : SS) = sF := rfl
      rw [hsF] at hz1
      refine RL.p rfl rfl ?_
      refine RL.done ?_
      iterate 2 refine RK.seq ?_
      refine RK.region ?_
      refine RL.p rfl rfl ?_
      refine RL.q (.free rfl) rfl rfl (Yld.eqPtr Tryz.underlying23 rfl rfl) ?_
      refine RL.done ?_
      refine RK.condF (hcF rfl (rfl)) ?_
      refine RK.skip ?_
      refine RK.seq ?_
      refine RK.region ?_
      iterate 3 refine RL.p rfl rfl ?_
      refine RL.op (.free rfl) rfl rfl (Does.call rfl e12 (plain14_ok _)) ?_
      rintro u2 w2 ⟨hr2, hf2, hg2⟩
      have hz2 := hz1.grow hg2
      refine RL.q (.free rfl) rfl rfl (Yld.build (v := .agg (bdC bdAll).toArray) rfl (fun w => by kernel_rfl)) ?_
      refine RL.op (.free rfl) rfl rfl (Does.call rfl e11 (makeZ_ok _ p sF O1 O1 hz2 sF_ok (by decide) 0 a b h1 [mP] u2 bdAll (Sl.own hr2 (fun k hk e => by have := hf2 k hk; have := hz1.lt k e; omega)) (by simp))) ?_
      rintro _ w3 ⟨O3, rfl, hz3, hm3, hO3⟩
      have hg03 : Grow w w3 := (hg1.trans hg2).then hm3 (fun b hb e => by have := hO1 b e; omega)
      have hs03 := hg03.size
      have hs02 := (hg1.trans hg2).size
      have hF3 : ∀ b, O3 b → w.heap.size ≤ b := fun b e => (hO3 b e).elim (hO1 b) (fun e => by omega)
      iterate 5 refine RL.p rfl rfl ?_
      refine RL.done ?_
      refine RK.seq ?_
      refine RK.region ?_
      refine RL.p rfl rfl ?_
      refine RL.op (.free rfl) rfl rfl (Does.call rfl e12 (plain14_ok _)) ?_
      rintro uu4 w4 ⟨hr4, hf4, hg4⟩
      have hz4 := hz3.grow hg4
      have hlt4 : ∀ b, (O1 b ∨ O3 b) → b < w3.heap.size := fun b e => e.elim (fun e => Nat.lt_of_lt_of_le (hz2.lt b e) hm3.size) (fun e => hz3.lt b e)
      rw [sF_yes hsp] at hz4 ⊢
      refine RL.q (.free rfl) rfl rfl (Yld.build (v := .agg (bdC bdAll).toArray) rfl (fun w => by kernel_rfl)) ?_
      refine RL.op (.free rfl) rfl rfl (Does.call rfl e11 (makeZ_ok _ p (sG a b) O3 _ hz4 hgG (by show (1 : Int) < 2147483647; decide) 0 1 1099511627776 (by decide) [mP] uu4 bdAll (Sl.own hr4 (fun k hk e => by have := hf4 k hk; have := hlt4 k e; omega)) (by simp))) ?_
      rintro _ w5 ⟨O5, rfl, hz5, hm5, hO5⟩
      have hg05 : Grow w w5 := (hg03.trans hg4).then hm5 (fun b hb e => by have := hF3 b e; omega)
      have hs4 := (hg03.trans hg4).size
      have hF5 : ∀ b, O5 b → w.heap.size ≤ b := fun b e => (hO5 b e).elim (hF3 b) (fun e => by omega)
      rw [sG_make] at hz5 ⊢
      iterate 5 refine RL.p rfl rfl ?_
      refine RL.done ?_
      iterate 2 refine RK.seq ?_
      refine RK.region ?_
      iterate 3 refine RL.p rfl rfl ?_
      refine RL.knownF (d := 41) rfl rfl (rfl) ?_
      iterate 2 refine RL.q (.yes rfl rfl rfl) rfl rfl (Yld.pure rfl) ?_
      refine RL.p rfl rfl ?_
      refine RL.done ?_
      refine RK.condF (hcF rfl (rfl)) ?_
      refine RK.skip ?_
      refine RK.seq ?_
      refine RK.region ?_
      iterate 2 refine RL.p rfl rfl ?_
      refine RL.op (.free rfl) rfl rfl (Does.call rfl e20 (expireZ_ok _ p _ _ _ hz5 hgH t 1 ht)) ?_
      rintro _ w6 ⟨O6, rfl, hz6, hm6, hO6⟩
      have hg06 : Grow w w6 := hg05.then hm6 (fun b hb e => by have := hF5 b e; omega)
      have hs5 := hg05.size
      have hF6 : ∀ b, O6 b → w.heap.size ≤ b := fun b e => (hO6 b e).elim (hF5 b) (fun e => by omega)
      have hmx : t ≤ maxS t t2 := by unfold maxS; split <;> omega
      have hstop : stateS t a b = 3 ↔ b ≤ t := by unfold stateS; split <;> (try split) <;> omega
      rw [sH_expire, if_pos (by rw [hstop]; omega)] at hz6 ⊢
      obtain ⟨a', ha'⟩ : ∃ a', a' = a := ⟨_, rfl⟩
      obtain ⟨b', hb'⟩ : ∃ b', b' = b := ⟨_, rfl⟩
      have hgH' : Gz (sH a' b') := by rw [ha', hb']; exact hgH
      have hz7 : ZStore O6 (fun x => (((O1 x ∨ O3 x) ∨ O5 x) ∨ O6 x)) w6 p (sH a' b') := by rw [ha', hb']; exact hz6
      have h3 : stateS (maxS t t2) a' b' = 3 := by unfold stateS; rw [if_pos (by omega)]
      have hab : a' ≤ b' := by omega
      have hbb : b' ≤ b := by omega
      refine RL.p rfl rfl ?_
      refine RL.done ?_
      iterate 2 refine RK.seq ?_
      refine RK.region ?_
      iterate 5 refine RL.p rfl rfl ?_
      refine RL.q (.free rfl) rfl rfl (Yld.neqBool u4 rfl rfl) ?_
      refine RL.p rfl rfl ?_
      refine RL.knownF (d := 55) rfl rfl ((by rw [decide_eq_false hbt]; rfl)) ?_
      iterate 3 refine RL.q (.yes rfl rfl rfl) rfl rfl (Yld.pure rfl) ?_
      refine RL.knownT (d := 58) rfl rfl (rfl) ?_
      iterate 3 refine RL.q (.yes rfl rfl rfl) rfl rfl (Yld.pure rfl) ?_
      refine RL.p rfl rfl ?_
      refine RL.done ?_
      refine RK.condF (hcF rfl (rfl)) ?_
      refine RK.skip ?_
      refine RK.seq ?_
      refine RK.region ?_
      iterate 2 refine RL.p rfl rfl ?_
      refine RL.q (.free rfl) rfl rfl (Yld.max2k rfl rfl) ?_
      refine RL.p rfl rfl ?_
      refine RL.done ?_
      refine RK.seq ?_
      refine RK.region ?_
      iterate 2 refine RL.p rfl rfl ?_
      refine RL.op (.free rfl) rfl rfl (Does.call rfl e16 (getZ_ok _ p _ _ _ hz7 hgH' (maxS t t2) 1 (by simp [sH]))) ?_
      rintro _ w8 ⟨hget, hg8⟩
      rw [sH_get1] at hget
      obtain ⟨v8, rfl, hr8, hf8⟩ := hget
      obtain ⟨ad8, c8, rfl⟩ := hr8.slice
      iterate 3 refine RL.p rfl rfl ?_
      refine RL.op (.free rfl) rfl rfl (Does.alloc i41) ?_
      rintro _ w9 ⟨b16, rfl, hn16⟩
      refine RL.op' (.free rfl) rfl (Does.storeN i41 rfl rfl rfl rfl hn16.blk (Nat.le_refl 8)) ?_
      rintro _ w10 ⟨hb10, hm10, _⟩
      have hg10 : Grow w8 w10 := hn16.grow.then hm10 (fun y hy e => by have e' : y = b16 := e; have := hn16.at_; omega)
      have hB10 : Blk w10 b16 41 (silC ⟨1, stateS (maxS t t2) a' b', a', b', .slice ad8 [mP].length c8, [mP], bdAll⟩) := hb10
      have hg610 := hg8.trans hg10
      refine RL.p rfl rfl ?_
      refine RL.done ?_
      iterate 2 refine RK.seq ?_
      refine RK.region ?_
      iterate 3 refine RL.p rfl rfl ?_
      refine RL.knownF (d := 74) rfl rfl (rfl) ?_
      refine RL.q (.yes rfl rfl rfl) rfl rfl (Yld.fieldAddr fo41_1 rfl) ?_
      refine RL.q (.yes rfl rfl rfl) rfl rfl (Yld.load p3 rfl (at1 (hB10.cell rfl))) ?_
      refine RL.q (.yes rfl rfl rfl) rfl rfl (Yld.pure rfl) ?_
      iterate 2 refine RL.p rfl rfl ?_
      refine RL.knownF (d := 79) rfl rfl ((by rw [h3]; rfl)) ?_
      refine RL.q (.yes rfl rfl rfl) rfl rfl (Yld.fieldAddr fo41_2 rfl) ?_
      refine RL.q (.yes rfl rfl rfl) rfl rfl (Yld.load p22 rfl (at1 (hB10.cell rfl))) ?_
      refine RL.q (.yes rfl rfl rfl) rfl rfl (Yld.fieldAddr fo41_3 rfl) ?_
      refine RL.q (.yes rfl rfl rfl) rfl rfl (Yld.load p22 rfl (at1 (hB10.cell rfl))) ?_
      refine RL.q (.yes rfl rfl rfl) rfl rfl (Yld.pure rfl) ?_
      iterate 2 refine RL.p rfl rfl ?_
      refine RL.knownF (d := 86) rfl rfl (decide_eq_false (show ¬ (a' > b') by omega)) ?_
      refine RL.q (.yes rfl rfl rfl) rfl rfl (Yld.fieldAddr fo41_3 rfl) ?_
      refine RL.q (.yes rfl rfl rfl) rfl rfl (Yld.load p22 rfl (at1 (hB10.cell rfl))) ?_
      iterate 2 refine RL.q (.yes rfl rfl rfl) rfl rfl (Yld.pure rfl) ?_
      refine RL.p rfl rfl ?_
      refine RL.done ?_
      refine RK.condF (hcF rfl (decide_eq_false (show ¬ (b' > b) by omega))) ?_
      refine RK.skip ?_
      refine RK.seq ?_
      refine RK.region ?_
      iterate 2 refine RL.p rfl rfl ?_
      refine RL.op (.free rfl) rfl rfl (Does.call rfl e16 (getZ_ok _ p _ _ _ (hz7.grow hg610) hgH' (maxS t t2) 2 (by simp [sH]))) ?_
      rintro _ w11 ⟨hget2, hg11⟩
      rw [sH_get2] at hget2
      obtain ⟨v11, rfl, hr11, hf11⟩ := hget2
      obtain ⟨ad11, c11, rfl⟩ := hr11.slice
      iterate 3 refine RL.p rfl rfl ?_
      refine RL.op (.free rfl) rfl rfl (Does.alloc i41) ?_
      rintro _ w12 ⟨b18, rfl, hn18⟩
      refine RL.op' (.free rfl) rfl (Does.storeN i41 rfl rfl rfl rfl hn18.blk (Nat.le_refl 8)) ?_
      rintro _ w13 ⟨hb13, hm13, _⟩
      have hg13 : Grow w11 w13 := hn18.grow.then hm13 (fun y hy e => by have e' : y = b18 := e; have := hn18.at_; omega)
      have hB13 : Blk w13 b18 41 (silC ⟨2, stateS (maxS t t2) 1 1099511627776, 1, 1099511627776, .slice ad11 [mP].length c11, [mP], bdAll⟩) := hb13
      have hg613 := (hg610.trans hg11).trans hg13
      refine RL.p rfl rfl ?_
      refine RL.done ?_
      refine RK.seq ?_
      refine RK.region ?_
      iterate 2 refine RL.p rfl rfl ?_
      refine RL.op (.free rfl) rfl rfl (Does.call rfl e15 (holdsStore_ok _ p _ _ _ (hz7.grow hg613) hgH' (maxS t t2) No [] (.slice none 0 0) 0 (Sl.nil _ _ _ _ _) (by simp))) ?_
      rintro u14 w14 ⟨hr14, hf14, hg14⟩
      have hnot := sH_holds h3 0
      refine RL.op (.free rfl) rfl rfl (Does.call rfl e19 (hasR9_ok No _ 1 u14 _ (Sl.own hr14 (fun _ _ h => h)))) ?_
      rintro _ w15 ⟨rfl, hg15⟩
      have hg615 := (hg613.trans hg14).trans hg15
      iterate 2 refine RL.p rfl rfl ?_
      refine RL.knownT (d := 103) rfl rfl ((by rw [decide_eq_false hnot]; rfl)) ?_
      iterate 2 refine RL.q (.yes rfl rfl rfl) rfl rfl (Yld.pure rfl) ?_
      refine RL.op (.yes rfl rfl rfl) rfl rfl (Does.call rfl e20 (expireZ_ok _ p _ _ _ (hz7.grow hg615) hgH' (maxS t t2) 1 (by omega))) ?_
      rintro _ w16 ⟨O16, rfl, hz16, hm16, hO16⟩
      rw [sH_expire, if_pos h3] at hz16 ⊢
      refine RL.q (.yes rfl rfl rfl) rfl rfl (Yld.pure rfl) ?_
      iterate 2 refine RL.p rfl rfl ?_
      refine RL.knownT (d := 109) rfl rfl (rfl) ?_
      iterate 2 refine RL.q (.yes rfl rfl rfl) rfl rfl (Yld.pure rfl) ?_
      refine RL.op (.yes rfl rfl rfl) rfl rfl (Does.call rfl e12 (plain14_ok _)) ?_
      rintro u17 w17 ⟨hr17, hf17, hg17⟩
      refine RL.q (.yes rfl rfl rfl) rfl rfl (Yld.build (v := .agg (bdC bdAll).toArray) rfl (fun w => by kernel_rfl)) ?_
      refine RL.op (.yes rfl rfl rfl) rfl rfl (Does.call rfl e21 (updateZ_ok _ p _ _ _ (hz16.grow hg17) hgH' (maxS t t2) 1 0 1099511627776 (by decide) [mP] u17 bdAll (Sl.own hr17 (fun k hk e => by have := hf17 k hk; have := hz16.ltM k e; omega)) (by simp))) ?_
      rintro _ w18 ⟨O18, rfl, hz18, hm18, hO18⟩
      rw [sH_update h3] at hz18 ⊢
      refine RL.q (.yes rfl rfl rfl) rfl rfl (Yld.pure rfl) ?_
      iterate 2 refine RL.p rfl rfl ?_
      refine RL.knownT (d := 117) rfl rfl (rfl) ?_
      refine RL.q (.yes rfl rfl rfl) rfl rfl (Yld.pure rfl) ?_
      iterate 2 refine RL.p rfl rfl ?_
      refine RL.knownT (d := 120) rfl rfl (rfl) ?_
      refine RL.q (.yes rfl rfl rfl) rfl rfl (Yld.fieldAddr fo41_2 rfl) ?_
      have z6 := hg610.size
      have z11 := hg11.size
      have z13 := hg13.size
      have z14 := (hg14.trans hg15).size
      have z16 := hm16.size
      have z17 := hg17.size
      have a18 := hn18.at_
      have l18 := hB13.lt
      have z60 := hg06.size
      have hB18 := ((hB13.mod (hg14.trans hg15) (fun h => h)).mod hm16 (fun e => by have := hz7.lt _ e; omega)).mod (hg17.any (fun _ => False)) (fun h => h)
      have hB19 := hB18.mod hm18 (fun e => (hO16 _ e).elim (fun e => by have := hz7.lt _ e; omega) (fun e => by omega))
      refine RL.q (.yes rfl rfl rfl) rfl rfl (Yld.load p22 rfl (at1 (hB19.cell rfl))) ?_
      refine RL.q (.yes rfl rfl rfl) rfl rfl (Yld.pure rfl) ?_
      iterate 2 refine RL.p rfl rfl ?_
      refine RL.knownT (d := 125) rfl rfl (rfl) ?_
      refine RL.q (.yes rfl rfl rfl) rfl rfl (Yld.fieldAddr fo41_3 rfl) ?_
      refine RL.q (.yes rfl rfl rfl) rfl rfl (Yld.load p22 rfl (at1 (hB19.cell rfl))) ?_
      refine RL.q (.yes rfl rfl rfl) rfl rfl (Yld.pure rfl) ?_
      iterate 2 refine RL.p rfl rfl ?_
      refine RL.knownT (d := 130) rfl rfl (rfl) ?_
      have hF16 : ∀ b, O16 b → w.heap.size ≤ b := fun b e => (hO16 b e).elim (hF6 b) (fun e => by omega)
      refine RL.op (.yes rfl rfl rfl) rfl rfl (Does.call rfl e14 (sruns_ok _)) ?_
      rintro _ w20 ⟨rfl, hg20⟩
      iterate 2 refine RL.p rfl rfl ?_
      refine RL.done ?_
      refine RK.ret_of Tryz.func5 (res1 rfl rfl) ?_ _
      exact ⟨_, rfl, rfl, ((((hg06.trans hg615).then hm16 (fun b hb e => by have := hF6 b e; omega)).trans hg17).then hm18 (fun b hb e => by have := hF16 b e; omega)).trans hg20⟩
end Go.Proofs.YtbcbfjnlnmhpbaaGreat
namespace Go.Proofs.YtbcbfjnlnmhpbaaGreat.silenceEnds
open Go.ChangeShapes Go.WideShapes Go.ChangeAt Go.RowKit Go.X
set_option linter.unusedVariables false
theorem own : ownKnob Tryz.prog.godebug = none := by kernel_rfl
theorem laidOut : laidOutB Tryz.prog = true := by kernel_rfl
theorem params_ok : ∀ t ∈ Tryz.f5.params.toList, Tryz.prog.readableRec t = true ∧ t < Tryz.prog.types.size := by
  rw [Tryz.params5]
  intro t ht
  simp only [List.mem_cons, List.not_mem_nil, or_false] at ht
  rcases ht with rfl | rfl | rfl | rfl <;> exact ⟨by kernel_rfl, of_decide_eq_true (by kernel_rfl)⟩
set_option maxRecDepth 100000 in
theorem lifted (os : Os) (started : os.Started) (H : Type) (enc : TypeId × Value → H) :
    ReturnsInHanded {} Tryz.checked os 5 .any (Rows.silenceEndsSpec.pre6 enc Tryz.prog Tryz.f5 Rows.silenceEndsRow.domain false) (Rows.silenceEndsSpec.post enc Tryz.prog Tryz.f5 false true false false) := by
  refine returnsInHanded_of_change (C := Tryz.checked) own started (by kernel_rfl) Tryz.func5
    (ChangeSpec.witness6 (enc := enc) (C := Tryz.checked) false ⟨#[], #[.int .u64 0, .int .u64 0, .int .u64 0, .int .u64 0], []⟩ 8 (by kernel_rfl) (by kernel_rfl) (by kernel_rfl) (by kernel_rfl)) ?_
  intro W base args ds gs before hval0 hW hcnd _
  have hval : ∀ (j : Nat) t v, Tryz.f5.params[j]? = some t → args[j]? = some v → Value.okWide Tryz.prog W .any base t v := hval0
  have hW' := hW
  obtain ⟨p, q, hA0, hV, rfl, hfz, hnd⟩ := hW
  have hlt : ∀ x ∈ p, x.block < W.heap.size := fun x hx => hW'.lt x (List.mem_append_left _ hx)
  have hA : DataW.TrodAll enc Tryz.prog W 0 (fun _ => true) true Tryz.f5.params.toList args.toList ds p := hA0
  have hA1 := hA
  rw [Tryz.params5] at hA hval
  obtain ⟨v0, vs0, d0, ds0, p0, q0, hargs, rfl, rfl, h0, r0⟩ := trodAll_cons hA
  obtain ⟨v1, vs1, d1, ds1, p1, q1, rfl, rfl, rfl, h1, r1⟩ := trodAll_cons r0
  obtain ⟨v2, vs2, d2, ds2, p2, q2, rfl, rfl, rfl, h2, r2⟩ := trodAll_cons r1
  obtain ⟨v3, vs3, d3, ds3, p3, q3, rfl, rfl, rfl, h3, r3⟩ := trodAll_cons r2
  obtain ⟨rfl, rfl, rfl⟩ := trodAll_nil r3
  obtain rfl : args = #[v0, v1, v2, v3] := by cases args; simp_all
  obtain ⟨rfl, rfl⟩ := trodVars_none hV
  have hv0 := hval 0 22 v0 rfl rfl
  have hv1 := hval 1 22 v1 rfl rfl
  have hv2 := hval 2 22 v2 rfl rfl
  have hv3 := hval 3 22 v3 rfl rfl
  clear hval0 hval
  simp only [List.append_nil] at hW' hlt
  obtain ⟨a, rfl⟩ := X.open_int Tryz.underlying22 hv0
  obtain ⟨b, rfl, hb⟩ : ∃ n : Int, v1 = .int .u64 n ∧ 0 ≤ n := by
    have hq := hv1
    simp only [Value.okWide, Tryz.underlying22, Cell.okWide, Cell.ok] at hq
    cases v1 with
    | int k n =>
      obtain ⟨rfl, h⟩ := hq
      exact ⟨n, rfl, by have := h.1; simpa [IntKind.has, IntKind.min, IntKind.signed, IntKind.bits] using this⟩
    | _ => simp at hq
  obtain ⟨t, rfl, ht⟩ : ∃ n : Int, v2 = .int .u64 n ∧ 0 ≤ n := by
    have hq := hv2
    simp only [Value.okWide, Tryz.underlying22, Cell.okWide, Cell.ok] at hq
    cases v2 with
    | int k n =>
      obtain ⟨rfl, h⟩ := hq
      exact ⟨n, rfl, by have := h.1; simpa [IntKind.has, IntKind.min, IntKind.signed, IntKind.bits] using this⟩
    | _ => simp at hq
  obtain ⟨t2, rfl⟩ := X.open_int Tryz.underlying22 hv3
  have hwalk := sends_ok a b t t2 hb ht W
  refine Calls.mono hwalk ?_
  rintro e W' ⟨v, rfl, rfl, hg⟩
  refine ⟨_, rfl, post_grow hW' (fun _ _ _ => trodAll_cons_mk (shut_bool Tryz.underlying4 _) trodAll_mk0) (fun sp hsp => ?_) (fun _ => rfl) hg (ok_one (by kernel_rfl) rfl (okWide_bool_mk Tryz.underlying4 _))⟩
  have hA2 := hA1
  simp only [List.append_nil] at hA2 hsp
  exact trodAll_grow laidOut hg sp _ _ _ _ params_ok hlt hsp hA2
end Go.Proofs.YtbcbfjnlnmhpbaaGreat.silenceEnds
set_option linter.unusedVariables false
set_option linter.unusedSimpArgs false
set_option maxHeartbeats 3200000
set_option maxRecDepth 100000
namespace Go.Proofs.YtbcbfjnlnmhpbaaGreat
open Go Go.X
def bd12 : Bd := ⟨false, 4607182418800017408, 4611686018427387904⟩
theorem bd12_right : rightS [mP] bd12 = true := by kernel_rfl
def sU (c d : Int) : SS := ⟨7, 3, 1, [⟨1, c, d, [mP], bd12⟩]⟩
theorem sG_update {a b n c d : Int} (h3 : ¬ stateS n a b = 3) : updateS (sG a b) n 1 c d [mP] bd12 = if spanS n c d = true then (if stateS n a b = 2 ∧ c ≠ a then (sG a b, 6) else (sU c d, 0)) else (sG a b, 8) := by
  unfold updateS
  rw [bd12_right, if_neg (by decide), show placeZ (sG a b) 1 = some 0 from rfl]
  simp only
  rw [show (sG a b).sl[0]? = some ⟨1, a, b, [mP], bdAll⟩ from rfl]
  simp only
  rw [if_neg h3, fitsP]
  by_cases h : spanS n c d = true
  · rw [if_pos h, if_pos h, if_neg (by decide)]
    rfl
  · rw [if_neg h, if_neg h, if_pos (by decide)]
theorem sG_get (a b : Int) : getZ (sG a b) 1 = some ⟨1, a, b, [mP], bdAll⟩ := rfl
theorem sU_get (c d : Int) : getZ (sU c d) 1 = some ⟨1, c, d, [mP], bd12⟩ := rfl
theorem supdates_ok (a b n c d : Int) (h1 : 0 ≤ b) (hd : 0 ≤ d) (w : World) : Fx Tryz.prog 6 [.int .u64 a, .int .u64 b, .int .u64 n, .int .u64 c, .int .u64 d] w (fun u w' => u = .bool true ∧ Grow w w') := by
  cases hsp : spanS 0 a b with
  | false =>
    refine enter Tryz.func6 rfl rfl rfl _ (Pick.sub (l := [0, 1, 2, 3, 4]) (.cons rfl (.cons rfl (.cons rfl (.cons rfl (.cons rfl .nil)))))) ?_
    refine RK.seq ?_
    refine RK.region ?_
    refine RL.p rfl rfl ?_
    refine RL.done ?_
    refine RK.seq ?_
    refine RK.region ?_
    refine RL.op (.free rfl) rfl rfl (Does.call rfl e10 (newZ_ok 3 7 _)) ?_
    rintro _ w1 ⟨p, O1, rfl, hz1, hg1, hO1⟩
    have hsF : (⟨clampS 7 1 1048576, clampS 3 1 12, 0, []⟩ : SS) = sF := rfl
    rw [hsF] at hz1
    refine RL.p rfl rfl ?_
    refine RL.done ?_
    iterate 2 refine RK.seq ?_
    refine RK.region ?_
    refine RL.p rfl rfl ?_
    refine RL.q (.free rfl) rfl rfl (Yld.eqPtr Tryz.underlying23 rfl rfl) ?_
    refine RL.done ?_
    refine RK.condF (hcF rfl (rfl)) ?_
    refine RK.skip ?_
    refine RK.seq ?_
    refine RK.region ?_
    iterate 3 refine RL.p rfl rfl ?_
    refine RL.op (.free rfl) rfl rfl (Does.call rfl e12 (plain14_ok _)) ?_
    rintro uu2 w2 ⟨hr2, hf2, hg2⟩
    have hz2 := hz1.grow hg2
    refine RL.q (.free rfl) rfl rfl (Yld.build (v := .agg (bdC bdAll).toArray) rfl (fun w => by kernel_rfl)) ?_
    refine RL.op (.free rfl) rfl rfl (Does.call rfl e11 (makeZ_ok _ p sF O1 O1 hz2 sF_ok (by decide) 0 a b h1 [mP] uu2 bdAll (Sl.own hr2 (fun k hk e => by have := hf2 k hk; have := hz1.lt k e; omega)) (by simp))) ?_
    rintro _ w3 ⟨O3, rfl, hz3, hm3, hO3⟩
    have hg03 : Grow w w3 := (hg1.trans hg2).then hm3 (fun b hb e => by have := hO1 b e; omega)
    have hs02 := (hg1.trans hg2).size
    have hF3 : ∀ b, O3 b → w.heap.size ≤ b := fun b e => (hO3 b e).elim (hO1 b) (fun e => by omega)
    rw [sF_no hsp] at hz3 ⊢
    iterate 5 refine RL.p rfl rfl ?_
    refine RL.done ?_
    iterate 2 refine RK.seq ?_
    refine RK.region ?_
    iterate 3 refine RL.p rfl rfl ?_
    refine RL.knownT (d := 33) rfl rfl (rfl) ?_
    iterate 3 refine RL.no (.no rfl rfl rfl rfl) rfl rfl ?_
    refine RL.p rfl rfl ?_
    refine RL.done ?_
    refine RK.condT (hcT rfl (rfl)) ?_
    refine RK.seq ?_
    refine RK.region ?_
    refine RL.op (.free rfl) rfl rfl (Does.call rfl e14 (sruns_ok _)) ?_
    rintro _ w7 ⟨rfl, hg7⟩
    refine RL.p rfl rfl ?_
    refine RL.done ?_
    refine RK.ret_of Tryz.func6 (res1 rfl rfl) ?_ _
    exact ⟨_, rfl, rfl, hg03.trans hg7⟩
  | true =>
    have hgG : Gz (sG a b) := by have h := sF_ok.make 0 a b h1 [mP] bdAll; rw [sF_yes hsp] at h; exact h
    by_cases hnb : b ≤ n
    · skip
      refine enter Tryz.func6 rfl rfl rfl _ (Pick.sub (l := [0, 1, 2, 3, 4]) (.cons rfl (.cons rfl (.cons rfl (.cons rfl (.cons rfl .nil)))))) ?_
      refine RK.seq ?_
      refine RK.region ?_
      refine RL.p rfl rfl ?_
      refine RL.done ?_
      refine RK.seq ?_
      refine RK.region ?_
      refine RL.op (.free rfl) rfl rfl (Does.call rfl e10 (newZ_ok 3 7 _)) ?_
      rintro _ w1 ⟨p, O1, rfl, hz1, hg1, hO1⟩
      have hsF : (⟨clampS 7 1 1048576, clampS 3 1 12, 0, []⟩ : SS) = sF := rfl
      rw [hsF] at hz1
      refine RL.p rfl rfl ?_
      refine RL.done ?_
      iterate 2 refine RK.seq ?_
      refine RK.region ?_
      refine RL.p rfl rfl ?_
      refine RL.q (.free rfl) rfl rfl (Yld.eqPtr Tryz.underlying23 rfl rfl) ?_
      refine RL.done ?_
      refine RK.condF (hcF rfl (rfl)) ?_
      refine RK.skip ?_
      refine RK.seq ?_
      refine RK.region ?_
      iterate 3 refine RL.p rfl rfl ?_
      refine RL.op (.free rfl) rfl rfl (Does.call rfl e12 (plain14_ok _)) ?_
      rintro uu2 w2 ⟨hr2, hf2, hg2⟩
      have hz2 := hz1.grow hg2
      refine RL.q (.free rfl) rfl rfl (Yld.build (v := .agg (bdC bdAll).toArray) rfl (fun w => by kernel_rfl)) ?_
      refine RL.op (.free rfl) rfl rfl (Does.call rfl e11 (makeZ_ok _ p sF O1 O1 hz2 sF_ok (by decide) 0 a b h1 [mP] uu2 bdAll (Sl.own hr2 (fun k hk e => by have := hf2 k hk; have := hz1.lt k e; omega)) (by simp))) ?_
      rintro _ w3 ⟨O3, rfl, hz3, hm3, hO3⟩
      have hg03 : Grow w w3 := (hg1.trans hg2).then hm3 (fun b hb e => by have := hO1 b e; omega)
      have hs02 := (hg1.trans hg2).size
      have hF3 : ∀ b, O3 b → w.heap.size ≤ b := fun b e => (hO3 b e).elim (hO1 b) (fun e => by omega)
      rw [sF_yes hsp] at hz3 ⊢
      iterate 5 refine RL.p rfl rfl ?_
      refine RL.done ?_
      iterate 2 refine RK.seq ?_
      refine RK.region ?_
      iterate 3 refine RL.p rfl rfl ?_
      refine RL.knownF (d := 33) rfl rfl (rfl) ?_
      iterate 3 refine RL.q (.yes rfl rfl rfl) rfl rfl (Yld.pure rfl) ?_
      refine RL.p rfl rfl ?_
      refine RL.done ?_
      refine RK.condT (hcT rfl (decide_eq_true (by omega))) ?_
      refine RK.seq ?_
      refine RK.region ?_
      refine RL.op (.free rfl) rfl rfl (Does.call rfl e14 (sruns_ok _)) ?_
      rintro _ w7 ⟨rfl, hg7⟩
      refine RL.p rfl rfl ?_
      refine RL.done ?_
      refine RK.ret_of Tryz.func6 (res1 rfl rfl) ?_ _
      exact ⟨_, rfl, rfl, hg03.trans hg7⟩
    · have h3 : ¬ stateS n a b = 3 := by unfold stateS; rw [if_neg hnb]; split <;> omega
      have h2 : stateS n a b = 2 ↔ a ≤ n := by unfold stateS; rw [if_neg hnb]; split <;> omega
      have hup := sG_update (c := c) (d := d) h3
      cases hs2 : spanS n c d with
      | false =>
        have hraw : c < d → n < d → ¬ d ≤ 1099511627776 := fun h1 h2 h3 => by
          unfold spanS at hs2
          rw [decide_eq_true h1, decide_eq_true h2, decide_eq_true h3] at hs2
          cases hs2
        rw [if_neg (by rw [hs2]; decide)] at hup
        refine enter Tryz.func6 rfl rfl rfl _ (Pick.sub (l := [0, 1, 2, 3, 4]) (.cons rfl (.cons rfl (.cons rfl (.cons rfl (.cons rfl .nil)))))) ?_
        refine RK.seq ?_
        refine RK.region ?_
        refine RL.p rfl rfl ?_
        refine RL.done ?_
        refine RK.seq ?_
        refine RK.region ?_
        refine RL.op (.free rfl) rfl rfl (Does.call rfl e10 (newZ_ok 3 7 _)) ?_
        rintro _ w1 ⟨p, O1, rfl, hz1, hg1, hO1⟩
        have hsF : (⟨clampS 7 1 1048576, clampS 3 1 12, 0, []⟩ : SS) = sF := rfl
        rw [hsF] at hz1
        refine RL.p rfl rfl ?_
        refine RL.done ?_
        iterate 2 refine RK.seq ?_
        refine RK.region ?_
        refine RL.p rfl rfl ?_
        refine RL.q (.free rfl) rfl rfl (Yld.eqPtr Tryz.underlying23 rfl rfl) ?_
        refine RL.done ?_
        refine RK.condF (hcF rfl (rfl)) ?_
        refine RK.skip ?_
        refine RK.seq ?_
        refine RK.region ?_
        iterate 3 refine RL.p rfl rfl ?_
        refine RL.op (.free rfl) rfl rfl (Does.call rfl e12 (plain14_ok _)) ?_
        rintro uu2 w2 ⟨hr2, hf2, hg2⟩
        have hz2 := hz1.grow hg2
        refine RL.q (.free rfl) rfl rfl (Yld.build (v := .agg (bdC bdAll).toArray) rfl (fun w => by kernel_rfl)) ?_
        refine RL.op (.free rfl) rfl rfl (Does.call rfl e11 (makeZ_ok _ p sF O1 O1 hz2 sF_ok (by decide) 0 a b h1 [mP] uu2 bdAll (Sl.own hr2 (fun k hk e => by have := hf2 k hk; have := hz1.lt k e; omega)) (by simp))) ?_
        rintro _ w3 ⟨O3, rfl, hz3, hm3, hO3⟩
        have hg03 : Grow w w3 := (hg1.trans hg2).then hm3 (fun b hb e => by have := hO1 b e; omega)
        have hs02 := (hg1.trans hg2).size
        have hF3 : ∀ b, O3 b → w.heap.size ≤ b := fun b e => (hO3 b e).elim (hO1 b) (fun e => by omega)
        rw [sF_yes hsp] at hz3 ⊢
        iterate 5 refine RL.p rfl rfl ?_
        refine RL.done ?_
        iterate 2 refine RK.seq ?_
        refine RK.region ?_
        iterate 3 refine RL.p rfl rfl ?_
        refine RL.knownF (d := 33) rfl rfl (rfl) ?_
        iterate 3 refine RL.q (.yes rfl rfl rfl) rfl rfl (Yld.pure rfl) ?_
        refine RL.p rfl rfl ?_
        refine RL.done ?_
        refine RK.condF (hcF rfl (decide_eq_false (by omega))) ?_
        refine RK.skip ?_
        refine RK.seq ?_
        refine RK.region ?_
        iterate 4 refine RL.p rfl rfl ?_
        first | refine RL.splitD (d := 42) rfl rfl (fun h41 => ?_) (fun h41 => ?_) | refine RL.splitN (d := 42) rfl rfl (fun h41 => ?_) (fun h41 => ?_) | refine RL.split (d := 42) rfl rfl (fun h41 => ?_) (fun h41 => ?_)
        · iterate 3 refine RL.q (.yes rfl rfl rfl) rfl rfl (Yld.pure rfl) ?_
          iterate 2 refine RL.p rfl rfl ?_
          first | refine RL.splitD (d := 47) rfl rfl (fun h45 => ?_) (fun h45 => ?_) | refine RL.splitN (d := 47) rfl rfl (fun h45 => ?_) (fun h45 => ?_) | refine RL.split (d := 47) rfl rfl (fun h45 => ?_) (fun h45 => ?_)
          · iterate 2 refine RL.q (.yes rfl rfl rfl) rfl rfl (Yld.pure rfl) ?_
            iterate 2 refine RL.p rfl rfl ?_
            refine RL.done ?_
            refine RK.seq ?_
            refine RK.region ?_
            refine RL.p rfl rfl ?_
            refine RL.done ?_
            iterate 2 refine RK.seq ?_
            refine RK.region ?_
            iterate 2 refine RL.p rfl rfl ?_
            refine RL.done ?_
            refine RK.condT (hcT rfl ((by rw [decide_eq_false (hraw h41 h45)]; rfl))) ?_
            refine RK.region ?_
            refine RL.p rfl rfl ?_
            refine RL.done ?_
            refine RK.seq ?_
            refine RK.region ?_
            iterate 4 refine RL.p rfl rfl ?_
            refine RL.op (.free rfl) rfl rfl (Does.call rfl e12 (plain14_ok _)) ?_
            rintro uu4 w4 ⟨hr4, hf4, hg4⟩
            have hz4 := hz3.grow hg4
            refine RL.q (.free rfl) rfl rfl (Yld.build (v := .agg (bdC bd12).toArray) rfl (fun w => by kernel_rfl)) ?_
            refine RL.op (.free rfl) rfl rfl (Does.call rfl e21 (updateZ_ok _ p _ _ _ hz4 hgG n 1 c d hd [mP] uu4 bd12 (Sl.own hr4 (fun k hk e => by have := hf4 k hk; have := hz3.ltM k e; omega)) (by simp))) ?_
            rintro _ w5 ⟨O5, rfl, hz5, hm5, hO5⟩
            have hs04 := (hg03.trans hg4).size
            have hg05 : Grow w w5 := (hg03.trans hg4).then hm5 (fun b hb e => by have := hF3 b e; omega)
            rw [hup] at hz5 ⊢
            refine RL.p rfl rfl ?_
            refine RL.done ?_
            refine RK.seq ?_
            refine RK.region ?_
            iterate 2 refine RL.p rfl rfl ?_
            refine RL.op (.free rfl) rfl rfl (Does.call rfl e16 (getZ_ok _ p _ _ _ hz5 hgG n 1 (by simp [sG]))) ?_
            rintro _ w6 ⟨hget, hg6⟩
            rw [sG_get] at hget
            obtain ⟨v6, rfl, hr6, hf6⟩ := hget
            obtain ⟨ad6, c6, rfl⟩ := hr6.slice
            iterate 3 refine RL.p rfl rfl ?_
            refine RL.op (.free rfl) rfl rfl (Does.alloc i41) ?_
            rintro _ w7 ⟨b17, rfl, hn17⟩
            refine RL.op' (.free rfl) rfl (Does.storeN i41 rfl rfl rfl rfl hn17.blk (Nat.le_refl 8)) ?_
            rintro _ w8 ⟨hb8, hm8, _⟩
            have hg68 : Grow w6 w8 := hn17.grow.then hm8 (fun y hy e => by have e' : y = b17 := e; have := hn17.at_; omega)
            have hB8 : Blk w8 b17 41 (silC ⟨1, stateS n a b, a, b, .slice ad6 [mP].length c6, [mP], bdAll⟩) := hb8
            refine RL.p rfl rfl ?_
            refine RL.done ?_
            iterate 2 refine RK.seq ?_
            refine RK.region ?_
            iterate 4 refine RL.p rfl rfl ?_
            refine RL.knownF (d := 77) rfl rfl (rfl) ?_
            iterate 2 refine RL.q (.yes rfl rfl rfl) rfl rfl (Yld.pure rfl) ?_
            refine RL.p rfl rfl ?_
            refine RL.done ?_
            refine RK.condF (hcF rfl (rfl)) ?_
            refine RK.skip ?_
            iterate 2 refine RK.seq ?_
            refine RK.region ?_
            iterate 2 refine RL.p rfl rfl ?_
            refine RL.done ?_
            refine RK.condF (hcF rfl (rfl)) ?_
            refine RK.skip ?_
            refine RK.seq ?_
            refine RK.region ?_
            refine RL.q (.free rfl) rfl rfl (Yld.fieldAddr fo41_2 rfl) ?_
            refine RL.q (.free rfl) rfl rfl (Yld.load p22 rfl (at1 (hB8.cell rfl))) ?_
            iterate 3 refine RL.p rfl rfl ?_
            refine RL.knownT (d := 117) rfl rfl (decide_eq_true rfl) ?_
            refine RL.q (.yes rfl rfl rfl) rfl rfl (Yld.fieldAddr fo41_3 rfl) ?_
            refine RL.q (.yes rfl rfl rfl) rfl rfl (Yld.load p22 rfl (at1 (hB8.cell rfl))) ?_
            iterate 2 refine RL.q (.yes rfl rfl rfl) rfl rfl (Yld.pure rfl) ?_
            iterate 2 refine RL.p rfl rfl ?_
            refine RL.knownT (d := 123) rfl rfl (decide_eq_true rfl) ?_
            refine RL.q (.yes rfl rfl rfl) rfl rfl (Yld.fieldAddr fo41_5 rfl) ?_
            refine RL.q (.yes rfl rfl rfl) rfl rfl (Yld.fieldAddr fo32_0 rfl) ?_
            refine RL.q (.yes rfl rfl rfl) rfl rfl (Yld.load p4 rfl (at1 (hB8.cell rfl))) ?_
            iterate 2 refine RL.p rfl rfl ?_
            refine RL.knownT (d := 128) rfl rfl (rfl) ?_
            refine RL.op (.yes rfl rfl rfl) rfl rfl (Does.call rfl e14 (sruns_ok _)) ?_
            rintro _ w9 ⟨rfl, hg9⟩
            iterate 2 refine RL.p rfl rfl ?_
            refine RL.done ?_
            refine RK.ret_of Tryz.func6 (res1 rfl rfl) ?_ _
            exact ⟨_, rfl, rfl, ((hg05.trans hg6).trans hg68).trans hg9⟩
          · iterate 2 refine RL.no (.no rfl rfl rfl rfl) rfl rfl ?_
            iterate 2 refine RL.p rfl rfl ?_
            refine RL.done ?_
            refine RK.seq ?_
            refine RK.region ?_
            refine RL.p rfl rfl ?_
            refine RL.done ?_
            iterate 2 refine RK.seq ?_
            refine RK.region ?_
            iterate 2 refine RL.p rfl rfl ?_
            refine RL.done ?_
            refine RK.condT (hcT rfl (rfl)) ?_
            refine RK.region ?_
            refine RL.p rfl rfl ?_
            refine RL.done ?_
            refine RK.seq ?_
            refine RK.region ?_
            iterate 4 refine RL.p rfl rfl ?_
            refine RL.op (.free rfl) rfl rfl (Does.call rfl e12 (plain14_ok _)) ?_
            rintro uu4 w4 ⟨hr4, hf4, hg4⟩
            have hz4 := hz3.grow hg4
            refine RL.q (.free rfl) rfl rfl (Yld.build (v := .agg (bdC bd12).toArray) rfl (fun w => by kernel_rfl)) ?_
            refine RL.op (.free rfl) rfl rfl (Does.call rfl e21 (updateZ_ok _ p _ _ _ hz4 hgG n 1 c d hd [mP] uu4 bd12 (Sl.own hr4 (fun k hk e => by have := hf4 k hk; have := hz3.ltM k e; omega)) (by simp))) ?_
            rintro _ w5 ⟨O5, rfl, hz5, hm5, hO5⟩
            have hs04 := (hg03.trans hg4).size
            have hg05 : Grow w w5 := (hg03.trans hg4).then hm5 (fun b hb e => by have := hF3 b e; omega)
            rw [hup] at hz5 ⊢
            refine RL.p rfl rfl ?_
            refine RL.done ?_
            refine RK.seq ?_
            refine RK.region ?_
            iterate 2 refine RL.p rfl rfl ?_
            refine RL.op (.free rfl) rfl rfl (Does.call rfl e16 (getZ_ok _ p _ _ _ hz5 hgG n 1 (by simp [sG]))) ?_
            rintro _ w6 ⟨hget, hg6⟩
            rw [sG_get] at hget
            obtain ⟨v6, rfl, hr6, hf6⟩ := hget
            obtain ⟨ad6, c6, rfl⟩ := hr6.slice
            iterate 3 refine RL.p rfl rfl ?_
            refine RL.op (.free rfl) rfl rfl (Does.alloc i41) ?_
            rintro _ w7 ⟨b17, rfl, hn17⟩
            refine RL.op' (.free rfl) rfl (Does.storeN i41 rfl rfl rfl rfl hn17.blk (Nat.le_refl 8)) ?_
            rintro _ w8 ⟨hb8, hm8, _⟩
            have hg68 : Grow w6 w8 := hn17.grow.then hm8 (fun y hy e => by have e' : y = b17 := e; have := hn17.at_; omega)
            have hB8 : Blk w8 b17 41 (silC ⟨1, stateS n a b, a, b, .slice ad6 [mP].length c6, [mP], bdAll⟩) := hb8
            refine RL.p rfl rfl ?_
            refine RL.done ?_
            iterate 2 refine RK.seq ?_
            refine RK.region ?_
            iterate 4 refine RL.p rfl rfl ?_
            refine RL.knownF (d := 77) rfl rfl (rfl) ?_
            iterate 2 refine RL.q (.yes rfl rfl rfl) rfl rfl (Yld.pure rfl) ?_
            refine RL.p rfl rfl ?_
            refine RL.done ?_
            refine RK.condF (hcF rfl (rfl)) ?_
            refine RK.skip ?_
            iterate 2 refine RK.seq ?_
            refine RK.region ?_
            iterate 2 refine RL.p rfl rfl ?_
            refine RL.done ?_
            refine RK.condF (hcF rfl (rfl)) ?_
            refine RK.skip ?_
            refine RK.seq ?_
            refine RK.region ?_
            refine RL.q (.free rfl) rfl rfl (Yld.fieldAddr fo41_2 rfl) ?_
            refine RL.q (.free rfl) rfl rfl (Yld.load p22 rfl (at1 (hB8.cell rfl))) ?_
            iterate 3 refine RL.p rfl rfl ?_
            refine RL.knownT (d := 117) rfl rfl (decide_eq_true rfl) ?_
            refine RL.q (.yes rfl rfl rfl) rfl rfl (Yld.fieldAddr fo41_3 rfl) ?_
            refine RL.q (.yes rfl rfl rfl) rfl rfl (Yld.load p22 rfl (at1 (hB8.cell rfl))) ?_
            iterate 2 refine RL.q (.yes rfl rfl rfl) rfl rfl (Yld.pure rfl) ?_
            iterate 2 refine RL.p rfl rfl ?_
            refine RL.knownT (d := 123) rfl rfl (decide_eq_true rfl) ?_
            refine RL.q (.yes rfl rfl rfl) rfl rfl (Yld.fieldAddr fo41_5 rfl) ?_
            refine RL.q (.yes rfl rfl rfl) rfl rfl (Yld.fieldAddr fo32_0 rfl) ?_
            refine RL.q (.yes rfl rfl rfl) rfl rfl (Yld.load p4 rfl (at1 (hB8.cell rfl))) ?_
            iterate 2 refine RL.p rfl rfl ?_
            refine RL.knownT (d := 128) rfl rfl (rfl) ?_
            refine RL.op (.yes rfl rfl rfl) rfl rfl (Does.call rfl e14 (sruns_ok _)) ?_
            rintro _ w9 ⟨rfl, hg9⟩
            iterate 2 refine RL.p rfl rfl ?_
            refine RL.done ?_
            refine RK.ret_of Tryz.func6 (res1 rfl rfl) ?_ _
            exact ⟨_, rfl, rfl, ((hg05.trans hg6).trans hg68).trans hg9⟩
        · iterate 3 refine RL.no (.no rfl rfl rfl rfl) rfl rfl ?_
          iterate 2 refine RL.p rfl rfl ?_
          iterate 2 refine RL.no (.no rfl rfl rfl rfl) rfl rfl ?_
          iterate 2 refine RL.p rfl rfl ?_
          refine RL.done ?_
          refine RK.seq ?_
          refine RK.region ?_
          refine RL.p rfl rfl ?_
          refine RL.done ?_
          iterate 2 refine RK.seq ?_
          refine RK.region ?_
          iterate 2 refine RL.p rfl rfl ?_
          refine RL.done ?_
          refine RK.condT (hcT rfl (rfl)) ?_
          refine RK.region ?_
          refine RL.p rfl rfl ?_
          refine RL.done ?_
          refine RK.seq ?_
          refine RK.region ?_
          iterate 4 refine RL.p rfl rfl ?_
          refine RL.op (.free rfl) rfl rfl (Does.call rfl e12 (plain14_ok _)) ?_
          rintro uu4 w4 ⟨hr4, hf4, hg4⟩
          have hz4 := hz3.grow hg4
          refine RL.q (.free rfl) rfl rfl (Yld.build (v := .agg (bdC bd12).toArray) rfl (fun w => by kernel_rfl)) ?_
          refine RL.op (.free rfl) rfl rfl (Does.call rfl e21 (updateZ_ok _ p _ _ _ hz4 hgG n 1 c d hd [mP] uu4 bd12 (Sl.own hr4 (fun k hk e => by have := hf4 k hk; have := hz3.ltM k e; omega)) (by simp))) ?_
          rintro _ w5 ⟨O5, rfl, hz5, hm5, hO5⟩
          have hs04 := (hg03.trans hg4).size
          have hg05 : Grow w w5 := (hg03.trans hg4).then hm5 (fun b hb e => by have := hF3 b e; omega)
          rw [hup] at hz5 ⊢
          refine RL.p rfl rfl ?_
          refine RL.done ?_
          refine RK.seq ?_
          refine RK.region ?_
          iterate 2 refine RL.p rfl rfl ?_
          refine RL.op (.free rfl) rfl rfl (Does.call rfl e16 (getZ_ok _ p _ _ _ hz5 hgG n 1 (by simp [sG]))) ?_
          rintro _ w6 ⟨hget, hg6⟩
          rw [sG_get] at hget
          obtain ⟨v6, rfl, hr6, hf6⟩ := hget
          obtain ⟨ad6, c6, rfl⟩ := hr6.slice
          iterate 3 refine RL.p rfl rfl ?_
          refine RL.op (.free rfl) rfl rfl (Does.alloc i41) ?_
          rintro _ w7 ⟨b17, rfl, hn17⟩
          refine RL.op' (.free rfl) rfl (Does.storeN i41 rfl rfl rfl rfl hn17.blk (Nat.le_refl 8)) ?_
          rintro _ w8 ⟨hb8, hm8, _⟩
          have hg68 : Grow w6 w8 := hn17.grow.then hm8 (fun y hy e => by have e' : y = b17 := e; have := hn17.at_; omega)
          have hB8 : Blk w8 b17 41 (silC ⟨1, stateS n a b, a, b, .slice ad6 [mP].length c6, [mP], bdAll⟩) := hb8
          refine RL.p rfl rfl ?_
          refine RL.done ?_
          iterate 2 refine RK.seq ?_
          refine RK.region ?_
          iterate 4 refine RL.p rfl rfl ?_
          refine RL.knownF (d := 77) rfl rfl (rfl) ?_
          iterate 2 refine RL.q (.yes rfl rfl rfl) rfl rfl (Yld.pure rfl) ?_
          refine RL.p rfl rfl ?_
          refine RL.done ?_
          refine RK.condF (hcF rfl (rfl)) ?_
          refine RK.skip ?_
          iterate 2 refine RK.seq ?_
          refine RK.region ?_
          iterate 2 refine RL.p rfl rfl ?_
          refine RL.done ?_
          refine RK.condF (hcF rfl (rfl)) ?_
          refine RK.skip ?_
          refine RK.seq ?_
          refine RK.region ?_
          refine RL.q (.free rfl) rfl rfl (Yld.fieldAddr fo41_2 rfl) ?_
          refine RL.q (.free rfl) rfl rfl (Yld.load p22 rfl (at1 (hB8.cell rfl))) ?_
          iterate 3 refine RL.p rfl rfl ?_
          refine RL.knownT (d := 117) rfl rfl (decide_eq_true rfl) ?_
          refine RL.q (.yes rfl rfl rfl) rfl rfl (Yld.fieldAddr fo41_3 rfl) ?_
          refine RL.q (.yes rfl rfl rfl) rfl rfl (Yld.load p22 rfl (at1 (hB8.cell rfl))) ?_
          iterate 2 refine RL.q (.yes rfl rfl rfl) rfl rfl (Yld.pure rfl) ?_
          iterate 2 refine RL.p rfl rfl ?_
          refine RL.knownT (d := 123) rfl rfl (decide_eq_true rfl) ?_
          refine RL.q (.yes rfl rfl rfl) rfl rfl (Yld.fieldAddr fo41_5 rfl) ?_
          refine RL.q (.yes rfl rfl rfl) rfl rfl (Yld.fieldAddr fo32_0 rfl) ?_
          refine RL.q (.yes rfl rfl rfl) rfl rfl (Yld.load p4 rfl (at1 (hB8.cell rfl))) ?_
          iterate 2 refine RL.p rfl rfl ?_
          refine RL.knownT (d := 128) rfl rfl (rfl) ?_
          refine RL.op (.yes rfl rfl rfl) rfl rfl (Does.call rfl e14 (sruns_ok _)) ?_
          rintro _ w9 ⟨rfl, hg9⟩
          iterate 2 refine RL.p rfl rfl ?_
          refine RL.done ?_
          refine RK.ret_of Tryz.func6 (res1 rfl rfl) ?_ _
          exact ⟨_, rfl, rfl, ((hg05.trans hg6).trans hg68).trans hg9⟩
      | true =>
        have hraw : c < d ∧ n < d ∧ d ≤ 1099511627776 := by
          unfold spanS at hs2
          simp only [Bool.and_eq_true, decide_eq_true_eq] at hs2
          omega
        rw [if_pos hs2] at hup
        have hgU : ¬ (stateS n a b = 2 ∧ c ≠ a) → Gz (sU c d) := fun h => by
          have h' := hgG.update n 1 c d hd [mP] bd12
          rw [hup, if_neg h] at h'; exact h'
        refine enter Tryz.func6 rfl rfl rfl _ (Pick.sub (l := [0, 1, 2, 3, 4]) (.cons rfl (.cons rfl (.cons rfl (.cons rfl (.cons rfl .nil)))))) ?_
        refine RK.seq ?_
        refine RK.region ?_
        refine RL.p rfl rfl ?_
        refine RL.done ?_
        refine RK.seq ?_
        refine RK.region ?_
        refine RL.op (.free rfl) rfl rfl (Does.call rfl e10 (newZ_ok 3 7 _)) ?_
        rintro _ w1 ⟨p, O1, rfl, hz1, hg1, hO1⟩
        have hsF : (⟨clampS 7 1 1048576, clampS 3 1 12, 0, []⟩ : SS) = sF := rfl
        rw [hsF] at hz1
        refine RL.p rfl rfl ?_
        refine RL.done ?_
        iterate 2 refine RK.seq ?_
        refine RK.region ?_
        refine RL.p rfl rfl ?_
        refine RL.q (.free rfl) rfl rfl (Yld.eqPtr Tryz.underlying23 rfl rfl) ?_
        refine RL.done ?_
        refine RK.condF (hcF rfl (rfl)) ?_
        refine RK.skip ?_
        refine RK.seq ?_
        refine RK.region ?_
        iterate 3 refine RL.p rfl rfl ?_
        refine RL.op (.free rfl) rfl rfl (Does.call rfl e12 (plain14_ok _)) ?_
        rintro uu2 w2 ⟨hr2, hf2, hg2⟩
        have hz2 := hz1.grow hg2
        refine RL.q (.free rfl) rfl rfl (Yld.build (v := .agg (bdC bdAll).toArray) rfl (fun w => by kernel_rfl)) ?_
        refine RL.op (.free rfl) rfl rfl (Does.call rfl e11 (makeZ_ok _ p sF O1 O1 hz2 sF_ok (by decide) 0 a b h1 [mP] uu2 bdAll (Sl.own hr2 (fun k hk e => by have := hf2 k hk; have := hz1.lt k e; omega)) (by simp))) ?_
        rintro _ w3 ⟨O3, rfl, hz3, hm3, hO3⟩
        have hg03 : Grow w w3 := (hg1.trans hg2).then hm3 (fun b hb e => by have := hO1 b e; omega)
        have hs02 := (hg1.trans hg2).size
        have hF3 : ∀ b, O3 b → w.heap.size ≤ b := fun b e => (hO3 b e).elim (hO1 b) (fun e => by omega)
        rw [sF_yes hsp] at hz3 ⊢
        iterate 5 refine RL.p rfl rfl ?_
        refine RL.done ?_
        iterate 2 refine RK.seq ?_
        refine RK.region ?_
        iterate 3 refine RL.p rfl rfl ?_
        refine RL.knownF (d := 33) rfl rfl (rfl) ?_
        iterate 3 refine RL.q (.yes rfl rfl rfl) rfl rfl (Yld.pure rfl) ?_
        refine RL.p rfl rfl ?_
        refine RL.done ?_
        refine RK.condF (hcF rfl (decide_eq_false (by omega))) ?_
        refine RK.skip ?_
        refine RK.seq ?_
        refine RK.region ?_
        iterate 4 refine RL.p rfl rfl ?_
        refine RL.knownT (d := 42) rfl rfl (decide_eq_true hraw.1) ?_
        iterate 3 refine RL.q (.yes rfl rfl rfl) rfl rfl (Yld.pure rfl) ?_
        iterate 2 refine RL.p rfl rfl ?_
        refine RL.knownT (d := 47) rfl rfl (decide_eq_true hraw.2.1) ?_
        iterate 2 refine RL.q (.yes rfl rfl rfl) rfl rfl (Yld.pure rfl) ?_
        iterate 2 refine RL.p rfl rfl ?_
        refine RL.done ?_
        refine RK.seq ?_
        refine RK.region ?_
        refine RL.p rfl rfl ?_
        refine RL.done ?_
        iterate 2 refine RK.seq ?_
        refine RK.region ?_
        iterate 2 refine RL.p rfl rfl ?_
        refine RL.done ?_
        refine RK.condF (hcF rfl ((by rw [decide_eq_true hraw.2.2]; rfl))) ?_
        refine RK.seq ?_
        refine RK.region ?_
        iterate 4 refine RL.p rfl rfl ?_
        first | refine RL.splitD (d := 56) rfl rfl (fun h55 => ?_) (fun h55 => ?_) | refine RL.splitN (d := 56) rfl rfl (fun h55 => ?_) (fun h55 => ?_) | refine RL.split (d := 56) rfl rfl (fun h55 => ?_) (fun h55 => ?_)
        · iterate 3 refine RL.q (.yes rfl rfl rfl) rfl rfl (Yld.pure rfl) ?_
          refine RL.p rfl rfl ?_
          refine RL.done ?_
          first | refine RK.condD rfl (fun h60 => ?_) (fun h60 => ?_) | refine RK.condN rfl (fun h60 => ?_) (fun h60 => ?_) | refine RK.cond rfl (fun h60 => ?_) (fun h60 => ?_)
          · have hyes : stateS n a b = 2 ∧ c ≠ a := ⟨h2.2 h55, h60⟩
            rw [if_pos hyes] at hup
            refine RK.region ?_
            refine RL.p rfl rfl ?_
            refine RL.done ?_
            refine RK.seq ?_
            refine RK.region ?_
            iterate 4 refine RL.p rfl rfl ?_
            refine RL.op (.free rfl) rfl rfl (Does.call rfl e12 (plain14_ok _)) ?_
            rintro uu4 w4 ⟨hr4, hf4, hg4⟩
            have hz4 := hz3.grow hg4
            refine RL.q (.free rfl) rfl rfl (Yld.build (v := .agg (bdC bd12).toArray) rfl (fun w => by kernel_rfl)) ?_
            refine RL.op (.free rfl) rfl rfl (Does.call rfl e21 (updateZ_ok _ p _ _ _ hz4 hgG n 1 c d hd [mP] uu4 bd12 (Sl.own hr4 (fun k hk e => by have := hf4 k hk; have := hz3.ltM k e; omega)) (by simp))) ?_
            rintro _ w5 ⟨O5, rfl, hz5, hm5, hO5⟩
            have hs04 := (hg03.trans hg4).size
            have hg05 : Grow w w5 := (hg03.trans hg4).then hm5 (fun b hb e => by have := hF3 b e; omega)
            rw [hup] at hz5 ⊢
            refine RL.p rfl rfl ?_
            refine RL.done ?_
            refine RK.seq ?_
            refine RK.region ?_
            iterate 2 refine RL.p rfl rfl ?_
            refine RL.op (.free rfl) rfl rfl (Does.call rfl e16 (getZ_ok _ p _ _ _ hz5 hgG n 1 (by simp [sG]))) ?_
            rintro _ w6 ⟨hget, hg6⟩
            rw [sG_get] at hget
            obtain ⟨v6, rfl, hr6, hf6⟩ := hget
            obtain ⟨ad6, c6, rfl⟩ := hr6.slice
            iterate 3 refine RL.p rfl rfl ?_
            refine RL.op (.free rfl) rfl rfl (Does.alloc i41) ?_
            rintro _ w7 ⟨b17, rfl, hn17⟩
            refine RL.op' (.free rfl) rfl (Does.storeN i41 rfl rfl rfl rfl hn17.blk (Nat.le_refl 8)) ?_
            rintro _ w8 ⟨hb8, hm8, _⟩
            have hg68 : Grow w6 w8 := hn17.grow.then hm8 (fun y hy e => by have e' : y = b17 := e; have := hn17.at_; omega)
            have hB8 : Blk w8 b17 41 (silC ⟨1, stateS n a b, a, b, .slice ad6 [mP].length c6, [mP], bdAll⟩) := hb8
            refine RL.p rfl rfl ?_
            refine RL.done ?_
            iterate 2 refine RK.seq ?_
            refine RK.region ?_
            iterate 4 refine RL.p rfl rfl ?_
            refine RL.knownF (d := 77) rfl rfl (rfl) ?_
            iterate 2 refine RL.q (.yes rfl rfl rfl) rfl rfl (Yld.pure rfl) ?_
            refine RL.p rfl rfl ?_
            refine RL.done ?_
            refine RK.condF (hcF rfl (rfl)) ?_
            refine RK.skip ?_
            iterate 2 refine RK.seq ?_
            refine RK.region ?_
            iterate 2 refine RL.p rfl rfl ?_
            refine RL.done ?_
            refine RK.condF (hcF rfl (rfl)) ?_
            refine RK.skip ?_
            refine RK.seq ?_
            refine RK.region ?_
            refine RL.q (.free rfl) rfl rfl (Yld.fieldAddr fo41_2 rfl) ?_
            refine RL.q (.free rfl) rfl rfl (Yld.load p22 rfl (at1 (hB8.cell rfl))) ?_
            iterate 3 refine RL.p rfl rfl ?_
            refine RL.knownT (d := 117) rfl rfl (decide_eq_true rfl) ?_
            refine RL.q (.yes rfl rfl rfl) rfl rfl (Yld.fieldAddr fo41_3 rfl) ?_
            refine RL.q (.yes rfl rfl rfl) rfl rfl (Yld.load p22 rfl (at1 (hB8.cell rfl))) ?_
            iterate 2 refine RL.q (.yes rfl rfl rfl) rfl rfl (Yld.pure rfl) ?_
            iterate 2 refine RL.p rfl rfl ?_
            refine RL.knownT (d := 123) rfl rfl (decide_eq_true rfl) ?_
            refine RL.q (.yes rfl rfl rfl) rfl rfl (Yld.fieldAddr fo41_5 rfl) ?_
            refine RL.q (.yes rfl rfl rfl) rfl rfl (Yld.fieldAddr fo32_0 rfl) ?_
            refine RL.q (.yes rfl rfl rfl) rfl rfl (Yld.load p4 rfl (at1 (hB8.cell rfl))) ?_
            iterate 2 refine RL.p rfl rfl ?_
            refine RL.knownT (d := 128) rfl rfl (rfl) ?_
            refine RL.op (.yes rfl rfl rfl) rfl rfl (Does.call rfl e14 (sruns_ok _)) ?_
            rintro _ w9 ⟨rfl, hg9⟩
            iterate 2 refine RL.p rfl rfl ?_
            refine RL.done ?_
            refine RK.ret_of Tryz.func6 (res1 rfl rfl) ?_ _
            exact ⟨_, rfl, rfl, ((hg05.trans hg6).trans hg68).trans hg9⟩
          · have hno : ¬ (stateS n a b = 2 ∧ c ≠ a) := fun h => h60 h.2
            have hgU := hgU hno
            rw [if_neg hno] at hup
            refine RK.skip ?_
            refine RK.seq ?_
            refine RK.region ?_
            iterate 4 refine RL.p rfl rfl ?_
            refine RL.op (.free rfl) rfl rfl (Does.call rfl e12 (plain14_ok _)) ?_
            rintro uu4 w4 ⟨hr4, hf4, hg4⟩
            have hz4 := hz3.grow hg4
            refine RL.q (.free rfl) rfl rfl (Yld.build (v := .agg (bdC bd12).toArray) rfl (fun w => by kernel_rfl)) ?_
            refine RL.op (.free rfl) rfl rfl (Does.call rfl e21 (updateZ_ok _ p _ _ _ hz4 hgG n 1 c d hd [mP] uu4 bd12 (Sl.own hr4 (fun k hk e => by have := hf4 k hk; have := hz3.ltM k e; omega)) (by simp))) ?_
            rintro _ w5 ⟨O5, rfl, hz5, hm5, hO5⟩
            have hs04 := (hg03.trans hg4).size
            have hg05 : Grow w w5 := (hg03.trans hg4).then hm5 (fun b hb e => by have := hF3 b e; omega)
            rw [hup] at hz5 ⊢
            refine RL.p rfl rfl ?_
            refine RL.done ?_
            refine RK.seq ?_
            refine RK.region ?_
            iterate 2 refine RL.p rfl rfl ?_
            refine RL.op (.free rfl) rfl rfl (Does.call rfl e16 (getZ_ok _ p _ _ _ hz5 hgU n 1 (by simp [sU]))) ?_
            rintro _ w6 ⟨hget, hg6⟩
            rw [sU_get] at hget
            obtain ⟨v6, rfl, hr6, hf6⟩ := hget
            obtain ⟨ad6, c6, rfl⟩ := hr6.slice
            iterate 3 refine RL.p rfl rfl ?_
            refine RL.op (.free rfl) rfl rfl (Does.alloc i41) ?_
            rintro _ w7 ⟨b17, rfl, hn17⟩
            refine RL.op' (.free rfl) rfl (Does.storeN i41 rfl rfl rfl rfl hn17.blk (Nat.le_refl 8)) ?_
            rintro _ w8 ⟨hb8, hm8, _⟩
            have hg68 : Grow w6 w8 := hn17.grow.then hm8 (fun y hy e => by have e' : y = b17 := e; have := hn17.at_; omega)
            have hB8 : Blk w8 b17 41 (silC ⟨1, stateS n c d, c, d, .slice ad6 [mP].length c6, [mP], bd12⟩) := hb8
            refine RL.p rfl rfl ?_
            refine RL.done ?_
            iterate 2 refine RK.seq ?_
            refine RK.region ?_
            iterate 4 refine RL.p rfl rfl ?_
            refine RL.knownF (d := 77) rfl rfl (rfl) ?_
            iterate 2 refine RL.q (.yes rfl rfl rfl) rfl rfl (Yld.pure rfl) ?_
            refine RL.p rfl rfl ?_
            refine RL.done ?_
            refine RK.condF (hcF rfl (rfl)) ?_
            refine RK.skip ?_
            iterate 2 refine RK.seq ?_
            refine RK.region ?_
            iterate 2 refine RL.p rfl rfl ?_
            refine RL.done ?_
            refine RK.condT (hcT rfl (rfl)) ?_
            refine RK.seq ?_
            refine RK.region ?_
            refine RL.q (.free rfl) rfl rfl (Yld.fieldAddr fo41_2 rfl) ?_
            refine RL.q (.free rfl) rfl rfl (Yld.load p22 rfl (at1 (hB8.cell rfl))) ?_
            iterate 3 refine RL.p rfl rfl ?_
            refine RL.knownT (d := 87) rfl rfl (decide_eq_true rfl) ?_
            refine RL.q (.yes rfl rfl rfl) rfl rfl (Yld.fieldAddr fo41_3 rfl) ?_
            refine RL.q (.yes rfl rfl rfl) rfl rfl (Yld.load p22 rfl (at1 (hB8.cell rfl))) ?_
            iterate 2 refine RL.q (.yes rfl rfl rfl) rfl rfl (Yld.pure rfl) ?_
            iterate 2 refine RL.p rfl rfl ?_
            refine RL.knownT (d := 93) rfl rfl (decide_eq_true rfl) ?_
            refine RL.q (.yes rfl rfl rfl) rfl rfl (Yld.fieldAddr fo41_5 rfl) ?_
            refine RL.q (.yes rfl rfl rfl) rfl rfl (Yld.fieldAddr fo32_0 rfl) ?_
            refine RL.q (.yes rfl rfl rfl) rfl rfl (Yld.load p4 rfl (at1 (hB8.cell rfl))) ?_
            refine RL.q (.yes rfl rfl rfl) rfl rfl (Yld.pure rfl) ?_
            iterate 2 refine RL.p rfl rfl ?_
            refine RL.knownT (d := 99) rfl rfl (rfl) ?_
            refine RL.q (.yes rfl rfl rfl) rfl rfl (Yld.fieldAddr fo41_5 rfl) ?_
            refine RL.q (.yes rfl rfl rfl) rfl rfl (Yld.fieldAddr fo32_2 rfl) ?_
            refine RL.q (.yes rfl rfl rfl) rfl rfl (Yld.load p30 rfl (at1 (hB8.cell rfl))) ?_
            refine RL.q (.yes rfl rfl rfl) rfl rfl (Yld.pure rfl) ?_
            iterate 2 refine RL.p rfl rfl ?_
            refine RL.knownT (d := 105) rfl rfl ((show (FloatKind.f64.format.order 4611686018427387904 4611686018427387904 == some Ordering.eq) = true by kernel_rfl)) ?_
            refine RL.q (.yes rfl rfl rfl) rfl rfl (Yld.pure rfl) ?_
            refine RL.op (.yes rfl rfl rfl) rfl rfl (Does.call rfl e13 (lenZ_ok _ p _ _ _ (hz5.grow (hg6.trans hg68)))) ?_
            rintro _ _ ⟨rfl, rfl⟩
            refine RL.q (.yes rfl rfl rfl) rfl rfl (Yld.pure rfl) ?_
            iterate 2 refine RL.p rfl rfl ?_
            refine RL.knownT (d := 110) rfl rfl (rfl) ?_
            refine RL.op (.yes rfl rfl rfl) rfl rfl (Does.call rfl e14 (sruns_ok _)) ?_
            rintro _ w9 ⟨rfl, hg9⟩
            iterate 2 refine RL.p rfl rfl ?_
            refine RL.done ?_
            refine RK.ret_of Tryz.func6 (res1 rfl rfl) ?_ _
            exact ⟨_, rfl, rfl, ((hg05.trans hg6).trans hg68).trans hg9⟩
        · have hno : ¬ (stateS n a b = 2 ∧ c ≠ a) := fun h => h55 (h2.1 h.1)
          have hgU := hgU hno
          rw [if_neg hno] at hup
          iterate 3 refine RL.no (.no rfl rfl rfl rfl) rfl rfl ?_
          refine RL.p rfl rfl ?_
          refine RL.done ?_
          refine RK.condF rfl ?_
          refine RK.skip ?_
          refine RK.seq ?_
          refine RK.region ?_
          iterate 4 refine RL.p rfl rfl ?_
          refine RL.op (.free rfl) rfl rfl (Does.call rfl e12 (plain14_ok _)) ?_
          rintro uu4 w4 ⟨hr4, hf4, hg4⟩
          have hz4 := hz3.grow hg4
          refine RL.q (.free rfl) rfl rfl (Yld.build (v := .agg (bdC bd12).toArray) rfl (fun w => by kernel_rfl)) ?_
          refine RL.op (.free rfl) rfl rfl (Does.call rfl e21 (updateZ_ok _ p _ _ _ hz4 hgG n 1 c d hd [mP] uu4 bd12 (Sl.own hr4 (fun k hk e => by have := hf4 k hk; have := hz3.ltM k e; omega)) (by simp))) ?_
          rintro _ w5 ⟨O5, rfl, hz5, hm5, hO5⟩
          have hs04 := (hg03.trans hg4).size
          have hg05 : Grow w w5 := (hg03.trans hg4).then hm5 (fun b hb e => by have := hF3 b e; omega)
          rw [hup] at hz5 ⊢
          refine RL.p rfl rfl ?_
          refine RL.done ?_
          refine RK.seq ?_
          refine RK.region ?_
          iterate 2 refine RL.p rfl rfl ?_
          refine RL.op (.free rfl) rfl rfl (Does.call rfl e16 (getZ_ok _ p _ _ _ hz5 hgU n 1 (by simp [sU]))) ?_
          rintro _ w6 ⟨hget, hg6⟩
          rw [sU_get] at hget
          obtain ⟨v6, rfl, hr6, hf6⟩ := hget
          obtain ⟨ad6, c6, rfl⟩ := hr6.slice
          iterate 3 refine RL.p rfl rfl ?_
          refine RL.op (.free rfl) rfl rfl (Does.alloc i41) ?_
          rintro _ w7 ⟨b17, rfl, hn17⟩
          refine RL.op' (.free rfl) rfl (Does.storeN i41 rfl rfl rfl rfl hn17.blk (Nat.le_refl 8)) ?_
          rintro _ w8 ⟨hb8, hm8, _⟩
          have hg68 : Grow w6 w8 := hn17.grow.then hm8 (fun y hy e => by have e' : y = b17 := e; have := hn17.at_; omega)
          have hB8 : Blk w8 b17 41 (silC ⟨1, stateS n c d, c, d, .slice ad6 [mP].length c6, [mP], bd12⟩) := hb8
          refine RL.p rfl rfl ?_
          refine RL.done ?_
          iterate 2 refine RK.seq ?_
          refine RK.region ?_
          iterate 4 refine RL.p rfl rfl ?_
          refine RL.knownF (d := 77) rfl rfl (rfl) ?_
          iterate 2 refine RL.q (.yes rfl rfl rfl) rfl rfl (Yld.pure rfl) ?_
          refine RL.p rfl rfl ?_
          refine RL.done ?_
          refine RK.condF (hcF rfl (rfl)) ?_
          refine RK.skip ?_
          iterate 2 refine RK.seq ?_
          refine RK.region ?_
          iterate 2 refine RL.p rfl rfl ?_
          refine RL.done ?_
          refine RK.condT (hcT rfl (rfl)) ?_
          refine RK.seq ?_
          refine RK.region ?_
          refine RL.q (.free rfl) rfl rfl (Yld.fieldAddr fo41_2 rfl) ?_
          refine RL.q (.free rfl) rfl rfl (Yld.load p22 rfl (at1 (hB8.cell rfl))) ?_
          iterate 3 refine RL.p rfl rfl ?_
          refine RL.knownT (d := 87) rfl rfl (decide_eq_true rfl) ?_
          refine RL.q (.yes rfl rfl rfl) rfl rfl (Yld.fieldAddr fo41_3 rfl) ?_
          refine RL.q (.yes rfl rfl rfl) rfl rfl (Yld.load p22 rfl (at1 (hB8.cell rfl))) ?_
          iterate 2 refine RL.q (.yes rfl rfl rfl) rfl rfl (Yld.pure rfl) ?_
          iterate 2 refine RL.p rfl rfl ?_
          refine RL.knownT (d := 93) rfl rfl (decide_eq_true rfl) ?_
          refine RL.q (.yes rfl rfl rfl) rfl rfl (Yld.fieldAddr fo41_5 rfl) ?_
          refine RL.q (.yes rfl rfl rfl) rfl rfl (Yld.fieldAddr fo32_0 rfl) ?_
          refine RL.q (.yes rfl rfl rfl) rfl rfl (Yld.load p4 rfl (at1 (hB8.cell rfl))) ?_
          refine RL.q (.yes rfl rfl rfl) rfl rfl (Yld.pure rfl) ?_
          iterate 2 refine RL.p rfl rfl ?_
          refine RL.knownT (d := 99) rfl rfl (rfl) ?_
          refine RL.q (.yes rfl rfl rfl) rfl rfl (Yld.fieldAddr fo41_5 rfl) ?_
          refine RL.q (.yes rfl rfl rfl) rfl rfl (Yld.fieldAddr fo32_2 rfl) ?_
          refine RL.q (.yes rfl rfl rfl) rfl rfl (Yld.load p30 rfl (at1 (hB8.cell rfl))) ?_
          refine RL.q (.yes rfl rfl rfl) rfl rfl (Yld.pure rfl) ?_
          iterate 2 refine RL.p rfl rfl ?_
          refine RL.knownT (d := 105) rfl rfl ((show (FloatKind.f64.format.order 4611686018427387904 4611686018427387904 == some Ordering.eq) = true by kernel_rfl)) ?_
          refine RL.q (.yes rfl rfl rfl) rfl rfl (Yld.pure rfl) ?_
          refine RL.op (.yes rfl rfl rfl) rfl rfl (Does.call rfl e13 (lenZ_ok _ p _ _ _ (hz5.grow (hg6.trans hg68)))) ?_
          rintro _ _ ⟨rfl, rfl⟩
          refine RL.q (.yes rfl rfl rfl) rfl rfl (Yld.pure rfl) ?_
          iterate 2 refine RL.p rfl rfl ?_
          refine RL.knownT (d := 110) rfl rfl (rfl) ?_
          refine RL.op (.yes rfl rfl rfl) rfl rfl (Does.call rfl e14 (sruns_ok _)) ?_
          rintro _ w9 ⟨rfl, hg9⟩
          iterate 2 refine RL.p rfl rfl ?_
          refine RL.done ?_
          refine RK.ret_of Tryz.func6 (res1 rfl rfl) ?_ _
          exact ⟨_, rfl, rfl, ((hg05.trans hg6).trans hg68).trans hg9⟩
end Go.Proofs.YtbcbfjnlnmhpbaaGreat
namespace Go.Proofs.YtbcbfjnlnmhpbaaGreat.silenceUpdates
open Go.ChangeShapes Go.WideShapes Go.ChangeAt Go.RowKit Go.X
set_option linter.unusedVariables false
theorem own : ownKnob Tryz.prog.godebug = none := by kernel_rfl
theorem laidOut : laidOutB Tryz.prog = true := by kernel_rfl
theorem params_ok : ∀ t ∈ Tryz.f6.params.toList, Tryz.prog.readableRec t = true ∧ t < Tryz.prog.types.size := by
  rw [Tryz.params6]
  intro t ht
  simp only [List.mem_cons, List.not_mem_nil, or_false] at ht
  rcases ht with rfl | rfl | rfl | rfl | rfl <;> exact ⟨by kernel_rfl, of_decide_eq_true (by kernel_rfl)⟩
set_option maxRecDepth 100000 in
theorem lifted (os : Os) (started : os.Started) (H : Type) (enc : TypeId × Value → H) :
    ReturnsInHanded {} Tryz.checked os 6 .any (Rows.silenceUpdatesSpec.pre6 enc Tryz.prog Tryz.f6 Rows.silenceUpdatesRow.domain false) (Rows.silenceUpdatesSpec.post enc Tryz.prog Tryz.f6 false true false false) := by
  refine returnsInHanded_of_change (C := Tryz.checked) own started (by kernel_rfl) Tryz.func6
    (ChangeSpec.witness6 (enc := enc) (C := Tryz.checked) false ⟨#[], #[.int .u64 0, .int .u64 0, .int .u64 0, .int .u64 0, .int .u64 0], []⟩ 8 (by kernel_rfl) (by kernel_rfl) (by kernel_rfl) (by kernel_rfl)) ?_
  intro W base args ds gs before hval0 hW hcnd _
  have hval : ∀ (j : Nat) t v, Tryz.f6.params[j]? = some t → args[j]? = some v → Value.okWide Tryz.prog W .any base t v := hval0
  have hW' := hW
  obtain ⟨p, q, hA0, hV, rfl, hfz, hnd⟩ := hW
  have hlt : ∀ x ∈ p, x.block < W.heap.size := fun x hx => hW'.lt x (List.mem_append_left _ hx)
  have hA : DataW.TrodAll enc Tryz.prog W 0 (fun _ => true) true Tryz.f6.params.toList args.toList ds p := hA0
  have hA1 := hA
  rw [Tryz.params6] at hA hval
  obtain ⟨v0, vs0, d0, ds0, p0, q0, hargs, rfl, rfl, h0, r0⟩ := trodAll_cons hA
  obtain ⟨v1, vs1, d1, ds1, p1, q1, rfl, rfl, rfl, h1, r1⟩ := trodAll_cons r0
  obtain ⟨v2, vs2, d2, ds2, p2, q2, rfl, rfl, rfl, h2, r2⟩ := trodAll_cons r1
  obtain ⟨v3, vs3, d3, ds3, p3, q3, rfl, rfl, rfl, h3, r3⟩ := trodAll_cons r2
  obtain ⟨v4, vs4, d4, ds4, p4, q4, rfl, rfl, rfl, h4, r4⟩ := trodAll_cons r3
  obtain ⟨rfl, rfl, rfl⟩ := trodAll_nil r4
  obtain rfl : args = #[v0, v1, v2, v3, v4] := by cases args; simp_all
  obtain ⟨rfl, rfl⟩ := trodVars_none hV
  have hv0 := hval 0 22 v0 rfl rfl
  have hv1 := hval 1 22 v1 rfl rfl
  have hv2 := hval 2 22 v2 rfl rfl
  have hv3 := hval 3 22 v3 rfl rfl
  have hv4 := hval 4 22 v4 rfl rfl
  clear hval0 hval
  simp only [List.append_nil] at hW' hlt
  obtain ⟨a, rfl⟩ := X.open_int Tryz.underlying22 hv0
  obtain ⟨b, rfl, hb⟩ : ∃ n : Int, v1 = .int .u64 n ∧ 0 ≤ n := by
    have hq := hv1
    simp only [Value.okWide, Tryz.underlying22, Cell.okWide, Cell.ok] at hq
    cases v1 with
    | int k n =>
      obtain ⟨rfl, h⟩ := hq
      exact ⟨n, rfl, by have := h.1; simpa [IntKind.has, IntKind.min, IntKind.signed, IntKind.bits] using this⟩
    | _ => simp at hq
  obtain ⟨n, rfl⟩ := X.open_int Tryz.underlying22 hv2
  obtain ⟨c, rfl⟩ := X.open_int Tryz.underlying22 hv3
  obtain ⟨d, rfl, hd⟩ : ∃ n : Int, v4 = .int .u64 n ∧ 0 ≤ n := by
    have hq := hv4
    simp only [Value.okWide, Tryz.underlying22, Cell.okWide, Cell.ok] at hq
    cases v4 with
    | int k n =>
      obtain ⟨rfl, h⟩ := hq
      exact ⟨n, rfl, by have := h.1; simpa [IntKind.has, IntKind.min, IntKind.signed, IntKind.bits] using this⟩
    | _ => simp at hq
  have hwalk := supdates_ok a b n c d hb hd W
  refine Calls.mono hwalk ?_
  rintro e W' ⟨v, rfl, rfl, hg⟩
  refine ⟨_, rfl, post_grow hW' (fun _ _ _ => trodAll_cons_mk (shut_bool Tryz.underlying4 _) trodAll_mk0) (fun sp hsp => ?_) (fun _ => rfl) hg (ok_one (by kernel_rfl) rfl (okWide_bool_mk Tryz.underlying4 _))⟩
  have hA2 := hA1
  simp only [List.append_nil] at hA2 hsp
  exact trodAll_grow laidOut hg sp _ _ _ _ params_ok hlt hsp hA2
end Go.Proofs.YtbcbfjnlnmhpbaaGreat.silenceUpdates
