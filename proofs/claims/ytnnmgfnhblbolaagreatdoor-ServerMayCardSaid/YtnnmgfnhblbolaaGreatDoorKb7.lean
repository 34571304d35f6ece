/- What the claim stands on, part 7. Of own lemmas only those that it reaches. -/
import Derived.Test.YtnnmgfnhblbolaaGreatDoorKb6
set_option linter.unusedVariables false
set_option linter.unusedSimpArgs false
set_option maxHeartbeats 6400000
set_option maxRecDepth 100000
namespace Go.Proofs.YtnnmgfnhblbolaaGreatDoor
open Go Go.X
theorem Yld.neqPtr {P : Program} {n : Nat} {e : Env} {C : World → Prop} {d : Option Tmp} {t el : Nat} {x y : Operand} {t' ty : TypeId} {pos : String} {af : Array Edge} {g : Option (Nat × Bool)} (hT : P.underlying t = some (.pointer el)) {p : Option Addr} (hx : ev e x = some (.pointer p)) (hy : ev e y = some (.pointer none)) :
    Yld P n C e ⟨d, .binOp .neq t x y t', ty, pos, af, g⟩ (.bool (!p.isNone)) := by
  intro a ha w _
  have hp : P.underlying t = some (.pointer (P.pointee t)) := by rw [hT]; simp [Program.pointee, hT]
  have h1 := run_equal_pointer_nil (P := P) w t p hp
  simp only [execOp, ha.ev hx, ha.ev hy, Sem.run_bind, eqGuard, binOp, Sem.run_pure, Result.andThen_ok]
  simp [h1]
theorem isTokR_ok (s : ByteArray) (w : World) : Fx Tryz.prog 44 [.string s] w (fun u w' => u = .bool (decide (4 ≤ s.size ∧ s.size ≤ 16)) ∧ w = w') := by
  refine enter Tryz.func44 rfl rfl rfl _ (Pick.sub (l := [0]) (.cons rfl .nil)) ?_
  refine RK.seq ?_
  refine RK.region ?_
  refine RL.p rfl rfl ?_
  refine RL.done ?_
  refine RK.seq ?_
  refine RK.region ?_
  refine RL.p rfl rfl ?_
  refine RL.q (.free rfl) rfl rfl (Yld.lenStr u9 rfl) ?_
  iterate 2 refine RL.p rfl rfl ?_
  first | refine RL.splitD (d := 6) rfl rfl (fun h5 => ?_) (fun h5 => ?_) | refine RL.splitN (d := 6) rfl rfl (fun h5 => ?_) (fun h5 => ?_) | refine RL.split (d := 6) rfl rfl (fun h5 => ?_) (fun h5 => ?_)
  · refine RL.q (.yes rfl rfl rfl) rfl rfl (Yld.pure rfl) ?_
    refine RL.q (.yes rfl rfl rfl) rfl rfl (Yld.lenStr u9 rfl) ?_
    refine RL.q (.yes rfl rfl rfl) rfl rfl (Yld.pure rfl) ?_
    iterate 2 refine RL.p rfl rfl ?_
    refine RL.done ?_
    refine RK.ret_of Tryz.func44 (res1 rfl rfl) ?_ _
    exact ⟨_, rfl, congrArg Value.bool (decide_eq_decide.2 (by omega)), rfl⟩
  · iterate 3 refine RL.no (.no rfl rfl rfl rfl) rfl rfl ?_
    iterate 2 refine RL.p rfl rfl ?_
    refine RL.done ?_
    refine RK.ret_of Tryz.func44 (res1 rfl rfl) ?_ _
    exact ⟨_, rfl, congrArg Value.bool (decide_eq_false (by omega)).symm, rfl⟩
def mostL : List Int := [6, 4, 16, 12, 6, 200, 200]
theorem svMayNo {tok : ByteArray} {a b c d e f g r : Int} {i : Nat} {x y : Int} (hx : [a, b, c, d, e, f, g][i]? = some x) (hy : mostL[i]? = some y) (h : ¬ (1 ≤ x ∧ x ≤ y)) : svMayS tok a b c d e f g r = false := by
  unfold svMayS
  refine decide_eq_false fun hh => h ?_
  obtain ⟨_, h1, h2, h3, h4, h5, h6, h7, _⟩ := hh
  rcases i with _ | _ | _ | _ | _ | _ | _ | i
  · cases hx; cases hy; exact h1
  · cases hx; cases hy; exact h2
  · cases hx; cases hy; exact h3
  · cases hx; cases hy; exact h4
  · cases hx; cases hy; exact h5
  · cases hx; cases hy; exact h6
  · cases hx; cases hy; exact h7
  · simp [mostL] at hy
theorem svMayAll {tok : ByteArray} {a b c d e f g r : Int} (h : ∀ i, i < 7 → ∃ x y, [a, b, c, d, e, f, g][i]? = some x ∧ mostL[i]? = some y ∧ 1 ≤ x ∧ x ≤ y) : svMayS tok a b c d e f g r = decide ((4 ≤ tok.size ∧ tok.size ≤ 16) ∧ 1 ≤ r ∧ r ≤ 1048576) := by
  have hk : ∀ (i : Nat) (u v : Int), i < 7 → [a, b, c, d, e, f, g][i]? = some u → mostL[i]? = some v → 1 ≤ u ∧ u ≤ v := fun i u v hi h1 h2 => by
    obtain ⟨x, y, hx, hy, h3⟩ := h i hi
    rw [h1] at hx; rw [h2] at hy
    cases hx; cases hy
    exact h3
  have h0 := hk 0 a 6 (by decide) rfl rfl
  have h1 := hk 1 b 4 (by decide) rfl rfl
  have h2 := hk 2 c 16 (by decide) rfl rfl
  have h3 := hk 3 d 12 (by decide) rfl rfl
  have h4 := hk 4 e 6 (by decide) rfl rfl
  have h5 := hk 5 f 200 (by decide) rfl rfl
  have h6 := hk 6 g 200 (by decide) rfl rfl
  unfold svMayS
  refine decide_eq_decide.2 ⟨fun hh => ⟨hh.1, hh.2.2.2.2.2.2.2.2⟩, fun hh => ⟨hh.1, h0, h1, h2, h3, h4, h5, h6, hh.2⟩⟩
theorem mayRef_ok (tok : ByteArray) (a b c d e f g r : Int) (w : World) : Fx Tryz.prog 16 [.agg (cfgC tok a b c d e f g r).toArray] w (fun u w' => u = .bool (svMayS tok a b c d e f g r) ∧ Grow w w') := by
  obtain ⟨nl, hnl⟩ : ∃ nl : List Int, nl = [a, b, c, d, e, f, g] := ⟨_, rfl⟩
  have hnn : nl.length = 7 := by rw [hnl]; rfl
  refine enter Tryz.func16 rfl rfl rfl _ (Pick.sub (l := [0]) (.cons rfl .nil)) ?_
  refine RK.seq ?_
  refine RK.region ?_
  refine RL.op (.free rfl) rfl rfl (Does.box rfl) ?_
  rintro _ w1 ⟨b1, rfl, hn1⟩
  have hB : Blk w1 b1 26 (cfgC tok a b c d e f g r) := hn1.blk
  refine RL.p rfl rfl ?_
  refine RL.done ?_
  refine RK.seq ?_
  refine RK.region ?_
  refine RL.q (.free rfl) rfl rfl (Yld.fieldAddr fo26_1 rfl) ?_
  refine RL.q (.free rfl) rfl rfl (Yld.load p3 rfl (at1 (hB.cell rfl))) ?_
  refine RL.q (.free rfl) rfl rfl (Yld.fieldAddr fo26_2 rfl) ?_
  refine RL.q (.free rfl) rfl rfl (Yld.load p3 rfl (at1 (hB.cell rfl))) ?_
  refine RL.q (.free rfl) rfl rfl (Yld.fieldAddr fo26_3 rfl) ?_
  refine RL.q (.free rfl) rfl rfl (Yld.load p3 rfl (at1 (hB.cell rfl))) ?_
  refine RL.q (.free rfl) rfl rfl (Yld.fieldAddr fo26_4 rfl) ?_
  refine RL.q (.free rfl) rfl rfl (Yld.load p3 rfl (at1 (hB.cell rfl))) ?_
  refine RL.q (.free rfl) rfl rfl (Yld.fieldAddr fo26_5 rfl) ?_
  refine RL.q (.free rfl) rfl rfl (Yld.load p3 rfl (at1 (hB.cell rfl))) ?_
  refine RL.q (.free rfl) rfl rfl (Yld.fieldAddr fo26_6 rfl) ?_
  refine RL.q (.free rfl) rfl rfl (Yld.load p3 rfl (at1 (hB.cell rfl))) ?_
  refine RL.q (.free rfl) rfl rfl (Yld.fieldAddr fo26_7 rfl) ?_
  refine RL.q (.free rfl) rfl rfl (Yld.load p3 rfl (at1 (hB.cell rfl))) ?_
  refine RL.q (.free rfl) rfl rfl (Yld.build (v := .agg #[.int .i64 a, .int .i64 b, .int .i64 c, .int .i64 d, .int .i64 e, .int .i64 f, .int .i64 g]) rfl (fun w => by kernel_rfl)) ?_
  refine RL.op (.free rfl) rfl rfl (Does.alloc i103) ?_
  rintro _ w2 ⟨b3, rfl, hn3⟩
  have ha3 := hn3.at_
  have hz3 := hn3.size
  refine RL.op' (.free rfl) rfl (Does.storeN i103 rfl rfl rfl rfl hn3.blk (Nat.le_of_ble_eq_true rfl)) ?_
  rintro _ w3 ⟨hb3, hm3, hs3⟩
  have hB3 : Blk w3 b3 103 (nl.map (Value.int .i64)) := by rw [hnl]; exact hb3
  refine RL.done ?_
  refine RK.seq ?_
  refine RK.region ?_
  refine RL.q (.free rfl) rfl rfl (Yld.build (v := .agg #[.int .i64 6, .int .i64 4, .int .i64 16, .int .i64 12, .int .i64 6, .int .i64 200, .int .i64 200]) rfl (fun w => by kernel_rfl)) ?_
  refine RL.op (.free rfl) rfl rfl (Does.alloc i103) ?_
  rintro _ w4 ⟨b4, rfl, hn4⟩
  have ha4 := hn4.at_
  have hz4 := hn4.size
  refine RL.op' (.free rfl) rfl (Does.storeN i103 rfl rfl rfl rfl hn4.blk (Nat.le_of_ble_eq_true rfl)) ?_
  rintro _ w5 ⟨hb4, hm4, hs4⟩
  have hB4 : Blk w5 b4 103 (mostL.map (Value.int .i64)) := hb4
  have hg13 : Grow w1 w3 := hn3.grow.then hm3 (fun x hx e => by have e' : x = b3 := e; omega)
  have hg35 : Grow w3 w5 := hn4.grow.then hm4 (fun x hx e => by have e' : x = b4 := e; omega)
  have hB35 := hB3.mod hg35 (fun h => h)
  have hG5 := hn1.grow.trans (hg13.trans hg35)
  refine RL.done ?_
  iterate 2 refine RK.seq ?_
  refine RK.region ?_
  refine RL.p rfl rfl ?_
  refine RL.done ?_
  refine RK.block ?_
  refine RK.loop (fun k : Nat => [(1, pp b1), (3, pp b3), (4, pp b4), (5, .int .i64 (k : Int))]) (fun k w' => Grow w5 w' ∧ k ≤ 7 ∧ ∀ i, i < k → ∃ x y, nl[i]? = some x ∧ mostL[i]? = some y ∧ 1 ≤ x ∧ x ≤ y) (fun k => 7 - k) 0 ⟨rfl, rfl, rfl, rfl, trivial⟩ ⟨Mod.refl _ _, Nat.zero_le _, fun i hi => absurd hi (Nat.not_lt_zero _)⟩ (fun k w' hI ih => ?_)
  obtain ⟨hg, hk, hall⟩ := hI
  iterate 2 refine RK.seq ?_
  refine RK.region ?_
  iterate 2 refine RL.p rfl rfl ?_
  refine RL.done ?_
  first | refine RK.condD rfl (fun h23 => ?_) (fun h23 => ?_) | refine RK.condN rfl (fun h23 => ?_) (fun h23 => ?_) | refine RK.cond rfl (fun h23 => ?_) (fun h23 => ?_)
  · have hk7 : k < 7 := by omega
    obtain ⟨x, hx⟩ : ∃ x, nl[k]? = some x := ⟨nl[k]'(by omega), List.getElem?_eq_getElem (by omega)⟩
    obtain ⟨y, hy⟩ : ∃ y, mostL[k]? = some y := ⟨mostL[k]'hk7, List.getElem?_eq_getElem hk7⟩
    have hxd := (hB35.mod (hg.trans (Mod.drew No _)) (fun h => h)).at1 (show (nl.map (Value.int .i64))[k]? = some (.int .i64 x) by simp [hx])
    have hyd := (hB4.mod (hg.trans (Mod.drew No _)) (fun h => h)).at1 (show (mostL.map (Value.int .i64))[k]? = some (.int .i64 y) by simp [hy])
    refine RK.skip ?_
    refine RK.seq ?_
    refine RK.block ?_
    refine RK.seq ?_
    refine RK.drawM No [(0, false), (1, false), (2, false), (3, false), (4, false), (5, false), (6, false), (7, false), (8, false), (9, false), (10, false), (11, false), (12, false)] [] mixed (by kernel_rfl) ?_
    refine DL.p rfl rfl rfl ?_
    refine DL.qf rfl (.free rfl) rfl rfl (Yld.indexArr Tryz.underlying103 i3 rfl rfl (hk7)) ?_
    refine DL.q rfl (.free rfl) rfl rfl rfl (Yld.load p3 rfl (atM (hxd) id)) (Mod.drew _ _) ?_
    iterate 2 refine DL.p rfl rfl rfl ?_
    first | refine DL.splitD (d := 30) rfl rfl (fun h30 => ?_) (fun h30 => ?_) | refine DL.splitN (d := 30) rfl rfl (fun h30 => ?_) (fun h30 => ?_) | refine DL.split (d := 30) rfl rfl (fun h30 => ?_) (fun h30 => ?_)
    · iterate 7 refine DL.no rfl (.no rfl rfl rfl rfl) rfl rfl ?_
      refine DL.p rfl rfl rfl ?_
      refine DL.done ?_
      refine RK.condT rfl ?_
      refine RK.seq ?_
      refine RK.region ?_
      refine RL.p rfl rfl ?_
      refine RL.done ?_
      refine RK.ret_of Tryz.func16 (res1 rfl rfl) ?_ _
      exact ⟨_, rfl, congrArg Value.bool (svMayNo (by rw [← hnl]; exact hx) hy (by omega)).symm, hG5.trans (hg.trans (Mod.drew _ _))⟩
    · refine DL.qf rfl (.yes rfl rfl rfl) rfl rfl (Yld.pure rfl) ?_
      refine DL.qf rfl (.yes rfl rfl rfl) rfl rfl (Yld.indexArr Tryz.underlying103 i3 rfl rfl (hk7)) ?_
      refine DL.q rfl (.yes rfl rfl rfl) rfl rfl rfl (Yld.load p3 rfl (atM (hxd) id)) (Mod.drew _ _) ?_
      refine DL.qf rfl (.yes rfl rfl rfl) rfl rfl (Yld.pure rfl) ?_
      refine DL.qf rfl (.yes rfl rfl rfl) rfl rfl (Yld.indexArr Tryz.underlying103 i3 rfl rfl (hk7)) ?_
      refine DL.q rfl (.yes rfl rfl rfl) rfl rfl rfl (Yld.load p3 rfl (atM (hyd) id)) (Mod.drew _ _) ?_
      refine DL.qf rfl (.yes rfl rfl rfl) rfl rfl (Yld.pure rfl) ?_
      refine DL.p rfl rfl rfl ?_
      refine DL.done ?_
      first | refine RK.condD rfl (fun h38 => ?_) (fun h38 => ?_) | refine RK.condN rfl (fun h38 => ?_) (fun h38 => ?_) | refine RK.cond rfl (fun h38 => ?_) (fun h38 => ?_)
      · refine RK.seq ?_
        refine RK.region ?_
        refine RL.p rfl rfl ?_
        refine RL.done ?_
        refine RK.ret_of Tryz.func16 (res1 rfl rfl) ?_ _
        exact ⟨_, rfl, congrArg Value.bool (svMayNo (by rw [← hnl]; exact hx) hy (by omega)).symm, hG5.trans (hg.trans (Mod.drew _ _))⟩
      · refine RK.skip ?_
        refine RK.inBlock ?_
        refine RK.region ?_
        iterate 2 refine RL.p rfl rfl ?_
        refine RL.re (d := 25) rfl rfl (succ_i64 (by omega)) ?_
        refine RL.p rfl rfl ?_
        refine RL.done ?_
        exact RK.back (ih (k + 1) _ ⟨hg.trans (Mod.drew _ _), by omega, fun i hi => by
            by_cases e : i = k
            · subst e; exact ⟨x, y, hx, hy, by omega, by omega⟩
            · exact hall i (by omega)⟩ (by omega)) ⟨rfl, rfl, rfl, rfl, trivial⟩
  · obtain rfl : k = 7 := by omega
    rw [hnl] at hall
    have hM := svMayAll (tok := tok) (r := r) hall
    have hB7 := hB.mod ((hg13.trans hg35).trans hg) (fun h => h)
    refine RK.exit rfl ?_
    refine RK.seq ?_
    refine RK.region ?_
    refine RL.q (.free rfl) rfl rfl (Yld.fieldAddr fo26_0 rfl) ?_
    refine RL.q (.free rfl) rfl rfl (Yld.load p9 rfl (at1 (hB7.cell rfl))) ?_
    refine RL.op (.free rfl) rfl rfl (Does.call rfl e44 (isTokR_ok tok _)) ?_
    rintro _ _ ⟨rfl, rfl⟩
    refine RL.p rfl rfl ?_
    first | refine RL.splitD (d := 42) rfl rfl (fun h42 => ?_) (fun h42 => ?_) | refine RL.splitN (d := 42) rfl rfl (fun h42 => ?_) (fun h42 => ?_) | refine RL.split (d := 42) rfl rfl (fun h42 => ?_) (fun h42 => ?_)
    · refine RL.q (.yes rfl rfl rfl) rfl rfl (Yld.fieldAddr fo26_8 rfl) ?_
      refine RL.q (.yes rfl rfl rfl) rfl rfl (Yld.load p24 rfl (at1 (hB7.cell rfl))) ?_
      refine RL.q (.yes rfl rfl rfl) rfl rfl (Yld.pure rfl) ?_
      iterate 2 refine RL.p rfl rfl ?_
      first | refine RL.splitD (d := 47) rfl rfl (fun h47 => ?_) (fun h47 => ?_) | refine RL.splitN (d := 47) rfl rfl (fun h47 => ?_) (fun h47 => ?_) | refine RL.split (d := 47) rfl rfl (fun h47 => ?_) (fun h47 => ?_)
      · refine RL.q (.yes rfl rfl rfl) rfl rfl (Yld.fieldAddr fo26_8 rfl) ?_
        refine RL.q (.yes rfl rfl rfl) rfl rfl (Yld.load p24 rfl (at1 (hB7.cell rfl))) ?_
        refine RL.q (.yes rfl rfl rfl) rfl rfl (Yld.pure rfl) ?_
        iterate 2 refine RL.p rfl rfl ?_
        refine RL.done ?_
        refine RK.ret_of Tryz.func16 (res1 rfl rfl) ?_ _
        exact ⟨_, rfl, congrArg Value.bool (by rw [hM]; have h47' : 1 ≤ r := h47; simp [h42, h47']), hG5.trans hg⟩
      · iterate 3 refine RL.no (.no rfl rfl rfl rfl) rfl rfl ?_
        iterate 2 refine RL.p rfl rfl ?_
        refine RL.done ?_
        refine RK.ret_of Tryz.func16 (res1 rfl rfl) ?_ _
        exact ⟨_, rfl, congrArg Value.bool (by rw [hM]; have h47' : ¬ 1 ≤ r := h47; simp [h42, h47']), hG5.trans hg⟩
    · iterate 3 refine RL.no (.no rfl rfl rfl rfl) rfl rfl ?_
      iterate 2 refine RL.p rfl rfl ?_
      iterate 3 refine RL.no (.no rfl rfl rfl rfl) rfl rfl ?_
      iterate 2 refine RL.p rfl rfl ?_
      refine RL.done ?_
      refine RK.ret_of Tryz.func16 (res1 rfl rfl) ?_ _
      exact ⟨_, rfl, congrArg Value.bool (by rw [hM]; simp [h42]), hG5.trans hg⟩
theorem svNewF_ok (tok : ByteArray) (a b c d e f g r : Int) (hm : svMayS tok a b c d e f g r = false) (w : World) : Fx Tryz.prog 10 [.agg (cfgC tok a b c d e f g r).toArray] w (fun u w' => u = .pointer none ∧ Grow w w') := by
  refine enter Tryz.func10 rfl rfl rfl _ (Pick.sub (l := [0]) (.cons rfl .nil)) ?_
  refine RK.seq ?_
  refine RK.region ?_
  refine RL.op (.free rfl) rfl rfl (Does.box rfl) ?_
  rintro _ w1 ⟨b1, rfl, hn1⟩
  have hB : Blk w1 b1 26 (cfgC tok a b c d e f g r) := hn1.blk
  refine RL.p rfl rfl ?_
  refine RL.done ?_
  iterate 2 refine RK.seq ?_
  refine RK.region ?_
  refine RL.q (.free rfl) rfl rfl (Yld.loadN (cs := cfgC tok a b c d e f g r) a26 rfl (atN (blkV hB))) ?_
  refine RL.op (.free rfl) rfl rfl (Does.call rfl e17 (svMay_ok tok a b c d e f g r _)) ?_
  rintro _ w2 ⟨rfl, hg2⟩
  refine RL.p rfl rfl ?_
  refine RL.done ?_
  refine RK.condT (hcT rfl (by rw [hm]; rfl)) ?_
  refine RK.seq ?_
  refine RK.region ?_
  refine RL.p rfl rfl ?_
  refine RL.done ?_
  refine RK.ret_of Tryz.func10 (res1 rfl rfl) ?_ _
  exact ⟨_, rfl, rfl, hn1.grow.trans hg2⟩
theorem svRunF_ok (tok : ByteArray) (a b c d e f g r : Int) (hm : svMayS tok a b c d e f g r = false) (v : Value) (w : World) : Fx Tryz.prog 18 [.agg (cfgC tok a b c d e f g r).toArray, v] w (fun u w' => u = .slice none 0 0 ∧ Grow w w') := by
  refine enter Tryz.func18 rfl rfl rfl _ (Pick.sub (l := [0, 1]) (.cons rfl (.cons rfl .nil))) ?_
  refine RK.seq ?_
  refine RK.region ?_
  refine RL.op (.free rfl) rfl rfl (Does.box rfl) ?_
  rintro _ w1 ⟨b2, rfl, hn2⟩
  have hB : Blk w1 b2 26 (cfgC tok a b c d e f g r) := hn2.blk
  refine RL.p rfl rfl ?_
  refine RL.done ?_
  refine RK.seq ?_
  refine RK.region ?_
  refine RL.q (.free rfl) rfl rfl (Yld.loadN (cs := cfgC tok a b c d e f g r) a26 rfl (atN (blkV hB))) ?_
  refine RL.op (.free rfl) rfl rfl (Does.call rfl e10 (svNewF_ok tok a b c d e f g r hm _)) ?_
  rintro _ w2 ⟨rfl, hg2⟩
  refine RL.p rfl rfl ?_
  refine RL.done ?_
  iterate 2 refine RK.seq ?_
  refine RK.region ?_
  refine RL.p rfl rfl ?_
  refine RL.q (.free rfl) rfl rfl (Yld.eqPtr Tryz.underlying52 rfl rfl) ?_
  refine RL.done ?_
  refine RK.condT (hcT rfl (rfl)) ?_
  refine RK.seq ?_
  refine RK.region ?_
  refine RL.p rfl rfl ?_
  refine RL.done ?_
  refine RK.ret_of Tryz.func18 (res1 rfl rfl) ?_ _
  exact ⟨_, rfl, rfl, hn2.grow.trans hg2⟩
theorem poolAll0_ok {w : World} {p : Nat} {most last : Int} (h : PoolAt w p most last [] (.slice none 0 0)) : Fx Tryz.prog 94 [pp p] w (fun u w' => (∃ ad c, u = .slice ad 0 c) ∧ Grow w w') := by
  refine enter Tryz.func94 rfl rfl rfl _ (Pick.sub (l := [0]) (.cons rfl .nil)) ?_
  refine RK.seq ?_
  refine RK.region ?_
  refine RL.p rfl rfl ?_
  refine RL.done ?_
  refine RK.seq ?_
  refine RK.region ?_
  iterate 2 refine RL.p rfl rfl ?_
  refine RL.q (.free rfl) rfl rfl (Yld.fieldAddr fo120_2 rfl) ?_
  refine RL.q (.free rfl) rfl rfl (Yld.load p41 rfl (at1 (h.blk.cell rfl))) ?_
  refine RL.op (.free rfl) rfl rfl (Does.call rfl e172 (cloneI_ok No [] _ _ (Sl.own (Row.nil _ 3 1) (fun _ _ h => h)) (by decide))) ?_
  rintro u1 w1 ⟨hr1, hf1, hg1⟩
  refine RL.p rfl rfl ?_
  refine RL.done ?_
  refine RK.ret_of Tryz.func94 (res1 rfl rfl) ?_ _
  exact ⟨_, rfl, hr1.slice, hg1⟩
theorem svTenants0_ok {w : World} {p dk dr q tk pl m : Nat} {tok : ByteArray} {a b c d e f g r now dnow dm tm pm : Int} {n : Nat} {v : Value} {cs ds : List Value} {vt : Value} {last : Int} (hb : Blk w p 89 (serC tok a b c d e f g r now dk m)) (h : DkAt w dk dr q tk pl tok dnow dm tm pm n v cs ds vt last [] (.slice none 0 0)) : Fx Tryz.prog 19 [pp p] w (fun u w' => (∃ ad c, u = .slice ad 0 c) ∧ Grow w w') := by
  have hd : Fx Tryz.prog 47 [pp dk] w (fun u w' => (∃ ad c, u = .slice ad 0 c) ∧ Grow w w') := by
    refine enter Tryz.func47 rfl rfl rfl _ (Pick.sub (l := [0]) (.cons rfl .nil)) ?_
    refine RK.seq ?_
    refine RK.region ?_
    refine RL.p rfl rfl ?_
    refine RL.done ?_
    refine RK.seq ?_
    refine RK.region ?_
    iterate 2 refine RL.p rfl rfl ?_
    refine RL.q (.free rfl) rfl rfl (Yld.fieldAddr fo151_2 rfl) ?_
    refine RL.q (.free rfl) rfl rfl (Yld.load p75 rfl (at1 (h.blk.cell rfl))) ?_
    refine RL.op (.free rfl) rfl rfl (Does.call rfl e94 (poolAll0_ok h.pool)) ?_
    rintro _ w1 ⟨⟨ad, cc, rfl⟩, hg1⟩
    refine RL.p rfl rfl ?_
    refine RL.done ?_
    refine RK.ret_of Tryz.func47 (res1 rfl rfl) ?_ _
    exact ⟨_, rfl, ⟨_, _, rfl⟩, hg1⟩
  refine enter Tryz.func19 rfl rfl rfl _ (Pick.sub (l := [0]) (.cons rfl .nil)) ?_
  refine RK.seq ?_
  refine RK.region ?_
  refine RL.p rfl rfl ?_
  refine RL.done ?_
  refine RK.seq ?_
  refine RK.region ?_
  iterate 2 refine RL.p rfl rfl ?_
  refine RL.q (.free rfl) rfl rfl (Yld.fieldAddr fo89_2 rfl) ?_
  refine RL.q (.free rfl) rfl rfl (Yld.load p85 rfl (at1 (hb.cell rfl))) ?_
  refine RL.op (.free rfl) rfl rfl (Does.call rfl e47 (hd)) ?_
  rintro _ w1 ⟨⟨ad, cc, rfl⟩, hg1⟩
  refine RL.p rfl rfl ?_
  refine RL.done ?_
  refine RK.ret_of Tryz.func19 (res1 rfl rfl) ?_ _
  exact ⟨_, rfl, ⟨_, _, rfl⟩, hg1⟩
theorem svmayF_ok (tok : ByteArray) (a b c d e f g r : Int) (hm : svMayS tok a b c d e f g r = false) (w : World) (hK : KeysAt w) : Fx Tryz.prog 5 [.agg (cfgC tok a b c d e f g r).toArray] w (fun u w' => u = .bool true ∧ Grow w w') := by
  refine enter Tryz.func5 rfl rfl rfl _ (Pick.sub (l := [0]) (.cons rfl .nil)) ?_
  refine RK.seq ?_
  refine RK.region ?_
  refine RL.op (.free rfl) rfl rfl (Does.box rfl) ?_
  rintro _ w1 ⟨b1, rfl, hn1⟩
  have hB : Blk w1 b1 26 (cfgC tok a b c d e f g r) := hn1.blk
  have hK1 := hK.grow hn1.grow
  refine RL.p rfl rfl ?_
  refine RL.done ?_
  iterate 2 refine RK.seq ?_
  refine RK.region ?_
  refine RL.q (.free rfl) rfl rfl (Yld.fieldAddr fo26_0 rfl) ?_
  refine RL.q (.free rfl) rfl rfl (Yld.load p9 rfl (at1 (hB.cell rfl))) ?_
  refine RL.q (.free rfl) rfl rfl (Yld.lenStr u9 rfl) ?_
  refine RL.p rfl rfl ?_
  refine RL.done ?_
  first | refine RK.condD rfl (fun h8 => ?_) (fun h8 => ?_) | refine RK.condN rfl (fun h8 => ?_) (fun h8 => ?_) | refine RK.cond rfl (fun h8 => ?_) (fun h8 => ?_)
  · refine RK.seq ?_
    refine RK.region ?_
    refine RL.op (.free rfl) rfl rfl (Does.call rfl e4 (svruns_ok _ hK1)) ?_
    rintro _ w2 ⟨rfl, hg2⟩
    refine RL.p rfl rfl ?_
    refine RL.done ?_
    refine RK.ret_of Tryz.func5 (res1 rfl rfl) ?_ _
    exact ⟨_, rfl, rfl, hn1.grow.trans hg2⟩
  · refine RK.skip ?_
    refine RK.seq ?_
    refine RK.region ?_
    refine RL.q (.free rfl) rfl rfl (Yld.loadN (cs := cfgC tok a b c d e f g r) a26 rfl (atN (blkV hB))) ?_
    refine RL.op (.free rfl) rfl rfl (Does.call rfl e16 (mayRef_ok tok a b c d e f g r _)) ?_
    rintro _ w2 ⟨rfl, hg2⟩
    rw [hm]
    refine RL.p rfl rfl ?_
    refine RL.done ?_
    refine RK.seq ?_
    refine RK.region ?_
    refine RL.q (.free rfl) rfl rfl (Yld.loadN (cs := cfgC tok a b c d e f g r) a26 rfl (atN (blkV (hB.mod hg2 (fun h => h))))) ?_
    refine RL.op (.free rfl) rfl rfl (Does.call rfl e10 (svNewF_ok tok a b c d e f g r hm _)) ?_
    rintro _ w3 ⟨rfl, hg3⟩
    refine RL.p rfl rfl ?_
    refine RL.done ?_
    iterate 2 refine RK.seq ?_
    refine RK.region ?_
    refine RL.q (.free rfl) rfl rfl (Yld.loadN (cs := cfgC tok a b c d e f g r) a26 rfl (atN (blkV (hB.mod (hg2.trans hg3) (fun h => h))))) ?_
    refine RL.op (.free rfl) rfl rfl (Does.call rfl e17 (svMay_ok tok a b c d e f g r _)) ?_
    rintro _ w4 ⟨rfl, hg4⟩
    rw [hm]
    have hg14 := (hg2.trans hg3).trans hg4
    refine RL.p rfl rfl ?_
    refine RL.q (.free rfl) rfl rfl (Yld.neqBool u4 rfl rfl) ?_
    refine RL.p rfl rfl ?_
    refine RL.knownF (d := 18) rfl rfl (rfl) ?_
    refine RL.q (.yes rfl rfl rfl) rfl rfl (Yld.pure rfl) ?_
    refine RL.q (.yes rfl rfl rfl) rfl rfl (Yld.neqPtr Tryz.underlying52 rfl rfl) ?_
    refine RL.q (.yes rfl rfl rfl) rfl rfl (Yld.pure rfl) ?_
    refine RL.q (.yes rfl rfl rfl) rfl rfl (Yld.neqBool u4 rfl rfl) ?_
    iterate 2 refine RL.p rfl rfl ?_
    refine RL.knownF (d := 24) rfl rfl (rfl) ?_
    iterate 3 refine RL.q (.yes rfl rfl rfl) rfl rfl (Yld.pure rfl) ?_
    refine RL.knownT (d := 27) rfl rfl (rfl) ?_
    refine RL.q (.yes rfl rfl rfl) rfl rfl (Yld.loadN (cs := cfgC tok a b c d e f g r) a26 rfl (atN (blkV (hB.mod hg14 (fun h => h))))) ?_
    refine RL.q (.yes rfl rfl rfl) rfl rfl (Yld.build (v := .agg #[.bool true, .int .u64 0, .slice none 0 0]) rfl (fun w => by kernel_rfl)) ?_
    refine RL.op (.yes rfl rfl rfl) rfl rfl (Does.slice1 u67 i66 rfl rfl rfl rfl rfl) ?_
    rintro _ w5 ⟨b30, rfl, hn30⟩
    refine RL.op (.yes rfl rfl rfl) rfl rfl (Does.call rfl e18 (svRunF_ok tok a b c d e f g r hm _ _)) ?_
    rintro _ w6 ⟨rfl, hg6⟩
    have hg16 := (hg14.trans hn30.grow).trans hg6
    refine RL.q (.yes rfl rfl rfl) rfl rfl (Yld.lenSl u63 rfl) ?_
    iterate 2 refine RL.q (.yes rfl rfl rfl) rfl rfl (Yld.pure rfl) ?_
    refine RL.p rfl rfl ?_
    refine RL.done ?_
    refine RK.condF (hcF rfl (rfl)) ?_
    refine RK.skip ?_
    refine RK.seq ?_
    refine RK.region ?_
    iterate 3 refine RL.p rfl rfl ?_
    refine RL.knownT (d := 38) rfl rfl (rfl) ?_
    iterate 9 refine RL.no (.no rfl rfl rfl rfl) rfl rfl ?_
    iterate 2 refine RL.p rfl rfl ?_
    refine RL.op (.yes rfl rfl rfl) rfl rfl (Does.call rfl e4 (svruns_ok _ (hK1.grow hg16))) ?_
    rintro _ w7 ⟨rfl, hg7⟩
    iterate 2 refine RL.p rfl rfl ?_
    refine RL.done ?_
    refine RK.ret_of Tryz.func5 (res1 rfl rfl) ?_ _
    exact ⟨_, rfl, rfl, (hn1.grow.trans hg16).trans hg7⟩
theorem svmayT_ok (tok : ByteArray) (a b c d e f g r : Int) (hm : svMayS tok a b c d e f g r = true) (w : World) (hK : KeysAt w) : Fx Tryz.prog 5 [.agg (cfgC tok a b c d e f g r).toArray] w (fun u w' => u = .bool true ∧ Grow w w') := by
  have ht : tok.size ≤ 16 := by unfold svMayS at hm; exact (of_decide_eq_true hm).1.2
  refine enter Tryz.func5 rfl rfl rfl _ (Pick.sub (l := [0]) (.cons rfl .nil)) ?_
  refine RK.seq ?_
  refine RK.region ?_
  refine RL.op (.free rfl) rfl rfl (Does.box rfl) ?_
  rintro _ w1 ⟨b1, rfl, hn1⟩
  have hB : Blk w1 b1 26 (cfgC tok a b c d e f g r) := hn1.blk
  have hK1 := hK.grow hn1.grow
  refine RL.p rfl rfl ?_
  refine RL.done ?_
  iterate 2 refine RK.seq ?_
  refine RK.region ?_
  refine RL.q (.free rfl) rfl rfl (Yld.fieldAddr fo26_0 rfl) ?_
  refine RL.q (.free rfl) rfl rfl (Yld.load p9 rfl (at1 (hB.cell rfl))) ?_
  refine RL.q (.free rfl) rfl rfl (Yld.lenStr u9 rfl) ?_
  refine RL.p rfl rfl ?_
  refine RL.done ?_
  refine RK.condF (hcF rfl (decide_eq_false (by omega))) ?_
  refine RK.skip ?_
  refine RK.seq ?_
  refine RK.region ?_
  refine RL.q (.free rfl) rfl rfl (Yld.loadN (cs := cfgC tok a b c d e f g r) a26 rfl (atN (blkV hB))) ?_
  refine RL.op (.free rfl) rfl rfl (Does.call rfl e16 (mayRef_ok tok a b c d e f g r _)) ?_
  rintro _ w2 ⟨rfl, hg2⟩
  rw [hm]
  refine RL.p rfl rfl ?_
  refine RL.done ?_
  refine RK.seq ?_
  refine RK.region ?_
  refine RL.q (.free rfl) rfl rfl (Yld.loadN (cs := cfgC tok a b c d e f g r) a26 rfl (atN (blkV (hB.mod hg2 (fun h => h))))) ?_
  refine RL.op (.free rfl) rfl rfl (Does.call rfl e10 (svNew_ok tok a b c d e f g r hm _ (hK1.grow hg2))) ?_
  rintro _ w3 ⟨p, dk, dr, q, tk, pl, m, ds, vt, rfl, hfr, hb3, hd3, hm3, hg3⟩
  refine RL.p rfl rfl ?_
  refine RL.done ?_
  iterate 2 refine RK.seq ?_
  refine RK.region ?_
  refine RL.q (.free rfl) rfl rfl (Yld.loadN (cs := cfgC tok a b c d e f g r) a26 rfl (atN (blkV (hB.mod (hg2.trans hg3) (fun h => h))))) ?_
  refine RL.op (.free rfl) rfl rfl (Does.call rfl e17 (svMay_ok tok a b c d e f g r _)) ?_
  rintro _ w4 ⟨rfl, hg4⟩
  rw [hm]
  refine RL.p rfl rfl ?_
  refine RL.q (.free rfl) rfl rfl (Yld.neqBool u4 rfl rfl) ?_
  refine RL.p rfl rfl ?_
  refine RL.knownF (d := 18) rfl rfl (rfl) ?_
  refine RL.q (.yes rfl rfl rfl) rfl rfl (Yld.pure rfl) ?_
  refine RL.q (.yes rfl rfl rfl) rfl rfl (Yld.neqPtr Tryz.underlying52 rfl rfl) ?_
  refine RL.q (.yes rfl rfl rfl) rfl rfl (Yld.pure rfl) ?_
  refine RL.q (.yes rfl rfl rfl) rfl rfl (Yld.neqBool u4 rfl rfl) ?_
  iterate 2 refine RL.p rfl rfl ?_
  refine RL.knownF (d := 24) rfl rfl (rfl) ?_
  iterate 3 refine RL.q (.yes rfl rfl rfl) rfl rfl (Yld.pure rfl) ?_
  refine RL.knownF (d := 27) rfl rfl (rfl) ?_
  iterate 6 refine RL.no (.no rfl rfl rfl rfl) rfl rfl ?_
  refine RL.q (.yes rfl rfl rfl) rfl rfl (Yld.pure rfl) ?_
  refine RL.p rfl rfl ?_
  refine RL.done ?_
  refine RK.condF rfl ?_
  refine RK.skip ?_
  refine RK.seq ?_
  refine RK.region ?_
  iterate 3 refine RL.p rfl rfl ?_
  refine RL.knownF (d := 38) rfl rfl (rfl) ?_
  refine RL.q (.yes rfl rfl rfl) rfl rfl (Yld.pure rfl) ?_
  refine RL.op (.yes rfl rfl rfl) rfl rfl (Does.call rfl e15 (svNow_ok (hb3.mod hg4 (fun h => h)))) ?_
  rintro _ _ ⟨rfl, rfl⟩
  iterate 2 refine RL.q (.yes rfl rfl rfl) rfl rfl (Yld.pure rfl) ?_
  refine RL.knownT (d := 42) rfl rfl (rfl) ?_
  refine RL.q (.yes rfl rfl rfl) rfl rfl (Yld.pure rfl) ?_
  refine RL.op (.yes rfl rfl rfl) rfl rfl (Does.call rfl e19 (svTenants0_ok (hb3.mod hg4 (fun h => h)) (hd3.grow hg4))) ?_
  rintro _ w5 ⟨⟨ad, cc, rfl⟩, hg5⟩
  have hg15 := ((hg2.trans hg3).trans hg4).trans hg5
  refine RL.q (.yes rfl rfl rfl) rfl rfl (Yld.lenSl u41 rfl) ?_
  iterate 2 refine RL.q (.yes rfl rfl rfl) rfl rfl (Yld.pure rfl) ?_
  iterate 2 refine RL.p rfl rfl ?_
  refine RL.knownT (d := 49) rfl rfl (rfl) ?_
  refine RL.op (.yes rfl rfl rfl) rfl rfl (Does.call rfl e4 (svruns_ok _ (hK1.grow hg15))) ?_
  rintro _ w7 ⟨rfl, hg7⟩
  iterate 2 refine RL.p rfl rfl ?_
  refine RL.done ?_
  refine RK.ret_of Tryz.func5 (res1 rfl rfl) ?_ _
  exact ⟨_, rfl, rfl, (hn1.grow.trans hg15).trans hg7⟩
theorem svmay_ok (tok : ByteArray) (a b c d e f g r : Int) (w : World) (hK : KeysAt w) : Fx Tryz.prog 5 [.agg (cfgC tok a b c d e f g r).toArray] w (fun u w' => u = .bool true ∧ Grow w w') := by
  cases hm : svMayS tok a b c d e f g r with
  | false => exact svmayF_ok tok a b c d e f g r hm w hK
  | true => exact svmayT_ok tok a b c d e f g r hm w hK
end Go.Proofs.YtnnmgfnhblbolaaGreatDoor
set_option linter.unusedVariables false
namespace Go.X
open Go Go.RowKit Go.WideShapes Go.ChangeShapes
section
variable {H : Type} {enc : TypeId × Value → H} {P : Program} {W : World} {base : Nat} {sp : Nat → Bool} {held : Bool}
end
end Go.X
namespace Go.Proofs.YtnnmgfnhblbolaaGreatDoor.serverMay
open Go.ChangeShapes Go.WideShapes Go.ChangeAt Go.RowKit Go.X
set_option linter.unusedVariables false
theorem own : ownKnob Tryz.prog.godebug = none := by kernel_rfl
theorem trod_9 {H : Type} {enc : TypeId × Value → H} {P : Program} {W : World} {base : Nat} {sp : Nat → Bool} {held : Bool} {t m t0 t1 t2 t3 t4 t5 t6 t7 t8 : Nat} {fs : Array Field} {cs : List Value} {y : DataW H × List MemPlace} (ht : P.underlying t = some (.struct fs)) (hfs : fs.toList.map (fun f => (f.type, f.offset)) = [(t0, 0), (t1, 1), (t2, 2), (t3, 3), (t4, 4), (t5, 5), (t6, 6), (t7, 7), (t8, 8)]) (c0 : P.cellsOf t0 = 1) (c1 : P.cellsOf t1 = 1) (c2 : P.cellsOf t2 = 1) (c3 : P.cellsOf t3 = 1) (c4 : P.cellsOf t4 = 1) (c5 : P.cellsOf t5 = 1) (c6 : P.cellsOf t6 = 1) (c7 : P.cellsOf t7 = 1) (c8 : P.cellsOf t8 = 1) (ct : P.cellsOf t = 9)
    (h : DataW.trod enc P W base sp held m t cs = some y) : ∃ a b c d e f g i j, cs = [a, b, c, d, e, f, g, i, j] ∧ (∃ n y', DataW.trod enc P W base sp held n t0 [a] = some y') ∧ (∃ n y', DataW.trod enc P W base sp held n t1 [b] = some y') ∧ (∃ n y', DataW.trod enc P W base sp held n t2 [c] = some y') ∧ (∃ n y', DataW.trod enc P W base sp held n t3 [d] = some y') ∧ (∃ n y', DataW.trod enc P W base sp held n t4 [e] = some y') ∧ (∃ n y', DataW.trod enc P W base sp held n t5 [f] = some y') ∧ (∃ n y', DataW.trod enc P W base sp held n t6 [g] = some y') ∧ (∃ n y', DataW.trod enc P W base sp held n t7 [i] = some y') ∧ (∃ n y', DataW.trod enc P W base sp held n t8 [j] = some y') := by
  obtain ⟨hl, hx⟩ := trod_fields ht h
  have hsz : fs.toList.length = 9 := by have := congrArg List.length hfs; simpa using this
  obtain ⟨fl⟩ := fs
  match fl, hsz with
  | [f0, f1, f2, f3, f4, f5, f6, f7, f8], _ =>
    simp only [List.map_cons, List.map_nil, List.cons.injEq, Prod.mk.injEq, and_true] at hfs
    obtain ⟨⟨e0, o0⟩, ⟨e1, o1⟩, ⟨e2, o2⟩, ⟨e3, o3⟩, ⟨e4, o4⟩, ⟨e5, o5⟩, ⟨e6, o6⟩, ⟨e7, o7⟩, e8, o8⟩ := hfs
    rw [ct] at hl
    match cs, hl with
    | [a, b, c, d, e, f, g, i, j], _ =>
      have h0 := hx 0 f0 rfl
      rw [e0, o0, c0] at h0
      have h1 := hx 1 f1 rfl
      rw [e1, o1, c1] at h1
      have h2 := hx 2 f2 rfl
      rw [e2, o2, c2] at h2
      have h3 := hx 3 f3 rfl
      rw [e3, o3, c3] at h3
      have h4 := hx 4 f4 rfl
      rw [e4, o4, c4] at h4
      have h5 := hx 5 f5 rfl
      rw [e5, o5, c5] at h5
      have h6 := hx 6 f6 rfl
      rw [e6, o6, c6] at h6
      have h7 := hx 7 f7 rfl
      rw [e7, o7, c7] at h7
      have h8 := hx 8 f8 rfl
      rw [e8, o8, c8] at h8
      exact ⟨a, b, c, d, e, f, g, i, j, rfl, h0, h1, h2, h3, h4, h5, h6, h7, h8⟩
theorem laidOut : laidOutB Tryz.prog = true := by kernel_rfl
theorem params_ok : ∀ t ∈ Tryz.f5.params.toList, Tryz.prog.readableRec t = true ∧ t < Tryz.prog.types.size := by
  rw [Tryz.params5]
  intro t ht
  simp only [List.mem_cons, List.not_mem_nil, or_false] at ht
  rcases ht with rfl <;> exact ⟨by kernel_rfl, of_decide_eq_true (by kernel_rfl)⟩
theorem door_met (os : Os) (args : Array Value) : laidMetH Tryz.prog [("sordine/sha.keys", Rows.laid_sordine_sha_keys)] ((World.doorLaid Tryz.prog 400 os).forCall (fun _ _ => 0) ⟨#[], args, []⟩).memory :=
  laidMetH_of_parts3 (fuel := 8) (laidMet_of_run' 8 (by kernel_rfl) (by kernel_rfl)) (by kernel_rfl) (by kernel_rfl)
set_option maxRecDepth 100000 in
theorem lifted (os : Os) (started : os.Started) (H : Type) (enc : TypeId × Value → H) :
    ReturnsInHanded {} Tryz.checked os 5 .any (fun w args => (Rows.serverMaySpec.pre enc Tryz.prog Tryz.f5 [] false w args ∧ laidMetH Tryz.prog [("sordine/sha.keys", Rows.laid_sordine_sha_keys)] w) ∧ sizedMet enc Tryz.prog Tryz.f5 (OpenSpec.ofChange Rows.serverMaySpec) false w args) (Rows.serverMaySpec.post enc Tryz.prog Tryz.f5 false true false false) := by
  refine returnsInHanded_of_change_and (C := Tryz.checked) (X := fun w _ => laidMetH Tryz.prog [("sordine/sha.keys", Rows.laid_sordine_sha_keys)] w) (fun _ _ _ hh h => h.of_heap hh) own started (by kernel_rfl) Tryz.func5
    (ChangeSpec.witness_shaped (enc := enc) (C := Tryz.checked) (os := os) (X := fun w _ => laidMetH Tryz.prog [("sordine/sha.keys", Rows.laid_sordine_sha_keys)] w) false (World.doorLaid Tryz.prog 400 os) #[.agg (cfgC ⟨#[]⟩ 0 0 0 0 0 0 0 0).toArray] 8 rfl (World.shaped_of_RefB (by kernel_rfl) (by kernel_rfl)) (by kernel_rfl) (by kernel_rfl) (by kernel_rfl) (door_met os _)) ?_
  intro W base args ds gs before hval0 hW hcnd _ hL _
  have hval : ∀ (j : Nat) t v, Tryz.f5.params[j]? = some t → args[j]? = some v → Value.okWide Tryz.prog W .any base t v := hval0
  have hW' := hW
  obtain ⟨p, q, hA0, hV, rfl, hfz, hnd⟩ := hW
  have hlt : ∀ x ∈ p, x.block < W.heap.size := fun x hx => hW'.lt x (List.mem_append_left _ hx)
  have hA : DataW.TrodAll enc Tryz.prog W 0 (fun _ => true) true Tryz.f5.params.toList args.toList ds p := hA0
  have hA1 := hA
  rw [Tryz.params5] at hA hval
  obtain ⟨v0, vs0, d0, ds0, p0, q0, hargs, rfl, rfl, h0, r0⟩ := trodAll_cons hA
  obtain ⟨rfl, rfl, rfl⟩ := trodAll_nil r0
  obtain rfl : args = #[v0] := by cases args; simp_all
  obtain ⟨rfl, rfl⟩ := trodVars_none hV
  have hv0 := hval 0 26 v0 rfl rfl
  clear hval0 hval
  simp only [List.append_nil] at hW' hlt
  obtain ⟨cs, rfl, _⟩ := okWide_struct Tryz.underlying26 hv0
  obtain ⟨z0, z1, z2, z3, z4, z5, z6, z7, z8, rfl⟩ : ∃ (z0 : ByteArray) (z1 z2 z3 z4 z5 z6 z7 z8 : Int), cs = (cfgC z0 z1 z2 z3 z4 z5 z6 z7 z8).toArray := by
    obtain ⟨fuel, hf⟩ := h0
    obtain ⟨u0, u1, u2, u3, u4, u5, u6, u7, u8, he, ⟨_, _, g0⟩, ⟨_, _, g1⟩, ⟨_, _, g2⟩, ⟨_, _, g3⟩, ⟨_, _, g4⟩, ⟨_, _, g5⟩, ⟨_, _, g6⟩, ⟨_, _, g7⟩, _, _, g8⟩ := trod_9 Tryz.underlying26 (t0 := 9) (t1 := 3) (t2 := 3) (t3 := 3) (t4 := 3) (t5 := 3) (t6 := 3) (t7 := 3) (t8 := 24) rfl (by kernel_rfl) (by kernel_rfl) (by kernel_rfl) (by kernel_rfl) (by kernel_rfl) (by kernel_rfl) (by kernel_rfl) (by kernel_rfl) (by kernel_rfl) (by kernel_rfl) hf
    obtain ⟨z0, x0, _⟩ := trod_str Tryz.underlying9 g0
    obtain rfl : u0 = .string z0 := by simpa using x0
    obtain ⟨z1, x1, _⟩ := trod_i64 Tryz.underlying3 g1
    obtain rfl : u1 = .int .i64 z1 := by simpa using x1
    obtain ⟨z2, x2, _⟩ := trod_i64 Tryz.underlying3 g2
    obtain rfl : u2 = .int .i64 z2 := by simpa using x2
    obtain ⟨z3, x3, _⟩ := trod_i64 Tryz.underlying3 g3
    obtain rfl : u3 = .int .i64 z3 := by simpa using x3
    obtain ⟨z4, x4, _⟩ := trod_i64 Tryz.underlying3 g4
    obtain rfl : u4 = .int .i64 z4 := by simpa using x4
    obtain ⟨z5, x5, _⟩ := trod_i64 Tryz.underlying3 g5
    obtain rfl : u5 = .int .i64 z5 := by simpa using x5
    obtain ⟨z6, x6, _⟩ := trod_i64 Tryz.underlying3 g6
    obtain rfl : u6 = .int .i64 z6 := by simpa using x6
    obtain ⟨z7, x7, _⟩ := trod_i64 Tryz.underlying3 g7
    obtain rfl : u7 = .int .i64 z7 := by simpa using x7
    obtain ⟨z8, x8, _⟩ := trod_int Tryz.underlying24 g8
    obtain rfl : u8 = .int .u64 z8 := by simpa using x8
    exact ⟨z0, z1, z2, z3, z4, z5, z6, z7, z8, by cases cs; exact congrArg Array.mk he⟩
  refine Calls.mono (svmay_ok z0 z1 z2 z3 z4 z5 z6 z7 z8 W (keysLaid hL)) ?_
  rintro e W' ⟨v, rfl, rfl, hg⟩
  refine ⟨_, rfl, post_grow hW' (fun _ _ _ => trodAll_cons_mk (shut_bool Tryz.underlying4 _) trodAll_mk0) (fun sp hsp => ?_) (fun _ => rfl) hg (ok_one (by kernel_rfl) rfl (okWide_bool_mk Tryz.underlying4 _))⟩
  have hA2 := hA1
  simp only [List.append_nil] at hA2 hsp
  exact trodAll_grow laidOut hg sp _ _ _ _ params_ok hlt hsp hA2
end Go.Proofs.YtnnmgfnhblbolaaGreatDoor.serverMay
namespace Go.Proofs.YtnnmgfnhblbolaaGreatDoor.serverMay
open Go.ChangeShapes Go.WideShapes Go.ChangeAt Go.RowKit Go.X
set_option linter.unusedVariables false
theorem band2 {a b : Bool} (ha : a = true) (hb : b = true) : (a && b) = true := by rw [ha, hb]; rfl
theorem k1 : (Rows.serverMayRow.inPlace == Tryz.pinned.checked.prog.inPlace 5) = true := by kernel_rfl
theorem k2 : (Rows.serverMayRow.unfollowed == Tryz.pinned.checked.prog.unfollowed 5) = true := by kernel_rfl
theorem k3 : (Rows.serverMayRow.recurses == Tryz.pinned.checked.prog.recurses 5) = true := by kernel_rfl
theorem k4 : (Rows.serverMayRow.named == Tryz.pinned.checked.prog.varsNamed 5) = true := by kernel_rfl
set_option maxHeartbeats 40000000 in
theorem facts : joinedFacts Tryz.pinned.checked.prog 5 Tryz.f5 Rows.serverMaySpec Rows.serverMayRow = true := by
  unfold joinedFacts
  repeat' (with_reducible refine band2 ?_ ?_)
  all_goals first | with_reducible exact k1 | with_reducible exact k2 | with_reducible exact k3 | with_reducible exact k4 | (as_aux_lemma => kernel_rfl)
set_option maxHeartbeats 4000000 in
theorem over : Rows.ServerMaySaid :=
  OpenClaim.holds_of_wide 5 Tryz.f5 rfl rfl rfl rfl rfl rfl rfl ⟨rfl, rfl, rfl, rfl, rfl⟩ rfl rfl rfl rfl rfl (by as_aux_lemma => kernel_rfl) Tryz.func5 facts
    (of_decide_eq_true (by as_aux_lemma => kernel_rfl)) (by as_aux_lemma => unfold Func.isWrapper; first | (rw [if_pos (by decide +kernel)]; kernel_rfl) | (rw [if_neg (by decide +kernel)]; exact ⟨rfl, rfl⟩))
    (fun os started H enc _ => lifted os started H enc)
end Go.Proofs.YtnnmgfnhblbolaaGreatDoor.serverMay
