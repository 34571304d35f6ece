/- What the claim stands on, part 2. Of own lemmas only those that it reaches. -/
import Derived.Test.YtghcdngegadkaaaGreatKb1
set_option linter.unusedVariables false
set_option linter.unusedSimpArgs false
set_option maxHeartbeats 6400000
set_option maxRecDepth 100000
namespace Go.Proofs.YtghcdngegadkaaaGreat
open Go Go.X
@[reducible] def pl0 : List Value := placeC 0 true false (reqC ⟨#[]⟩ 0) (-1) true (respC 0 0 0 5) false 0
@[reducible] def pl1 : List Value := placeC 1 false true (reqC root 1) 0 true (respC 0 1 1 0) true 5
@[reducible] def pl2 : List Value := placeC 2 false false (reqC ⟨#[]⟩ 0) (-1) true (respC 1 0 0 0) false 5
theorem place0_ok {w : World} {p m : Nat} {vi va : Value} {xs : List It} {qs : List Value} (h : WkAt w p m vi va 0) (hl : Lg w vi va xs qs) (hx : xs[0]? = some (true, 5, .slice none 0 0)) (qa : Option Addr) (qc : Nat) (hqs : qs[0]? = some (.slice qa 3 qc)) (hq : Sl No w (.slice qa 3 qc) 1 3 (bytesV [0, 0, 5])) (hqc : 3 ≤ qc) : Fx Tryz.prog 32 [pp p, .int .i64 0] w (fun u w' => u = .agg (pl0).toArray ∧ Grow w w') := by
  obtain ⟨b1, o1, c1, he1, _, _, hc1⟩ := hl.it.elem itC_len hx
  subst he1
  obtain ⟨b2, o2, c2, he2, _, _, hc2⟩ := hl.an.elem1 hqs
  subst he2
  have hxl := (List.getElem?_eq_some_iff.1 hx).1
  have hql := (List.getElem?_eq_some_iff.1 hqs).1
  refine enter Tryz.func32 rfl rfl rfl _ (Pick.sub (l := [0, 1]) (.cons rfl (.cons rfl .nil))) ?_
  refine RK.seq ?_
  refine RK.region ?_
  refine RL.op (.free rfl) rfl rfl (Does.alloc i64) ?_
  rintro _ w1 ⟨b4, rfl, hn4⟩
  have ha4 := hn4.at_
  have hz4 := hn4.size
  have h1 := h.grow hn4.grow
  refine RL.done ?_
  refine RK.seq ?_
  refine RK.region ?_
  iterate 2 refine RL.p rfl rfl ?_
  refine RL.q (.free rfl) rfl rfl (Yld.fieldAddr fo90_0 rfl) ?_
  refine RL.q (.free rfl) rfl rfl (Yld.fieldAddr fo31_1 rfl) ?_
  refine RL.q (.free rfl) rfl rfl (Yld.load p28 rfl (at1 (h1.blk.cell rfl))) ?_
  refine RL.p rfl rfl ?_
  refine RL.q (.free rfl) rfl rfl (Yld.indexAddrN u28 i27 rfl rfl ((by exact hxl))) ?_
  refine RL.q (.free rfl) rfl rfl (Yld.loadN (cs := itC (true, 5, .slice none 0 0)) a27 rfl (atN (fun j u hj => hn4.grow.cell (hc1 j u hj) (fun h => h)))) ?_
  refine RL.op (.free rfl) rfl rfl (Does.alloc i27) ?_
  rintro _ w2 ⟨b5, rfl, hn5⟩
  have ha5 := hn5.at_
  have hz5 := hn5.size
  refine RL.op' (.free rfl) rfl (Does.storeN i27 rfl rfl rfl rfl hn5.blk (Nat.le_refl 3)) ?_
  rintro _ w3 ⟨hb3, hm3, hs3⟩
  have hB3 : Blk w3 b5 27 (itC (true, 5, .slice none 0 0)) := hb3
  have hg3 : Grow w w3 := (hn4.grow.trans hn5.grow).then hm3 (fun b hb e => by have e' : b = b5 := e; omega)
  have h3 := h.grow hg3
  have hq3 : Mod (b4 < ·) w1 w3 := (Mod.any' hn5.grow).trans (hm3.mono fun b _ e => by have e' : b = b5 := e; omega)
  have hd := Mod.drew No w3
  refine RL.done ?_
  refine RK.seq ?_
  refine RK.drawM (fun _ => False) [(0, false), (1, false), (2, false), (3, false), (4, false), (5, false), (6, false), (7, false), (8, true), (9, true)] [9] mixed (by kernel_rfl) ?_
  refine DL.p rfl rfl rfl ?_
  refine DL.qf rfl (.free rfl) rfl rfl (Yld.fieldAddr fo27_0 rfl) ?_
  refine DL.q rfl (.free rfl) rfl rfl rfl (Yld.load p4 rfl (atM ((hB3.mod hd (fun h => h)).cell rfl) id)) (Mod.drew _ _) ?_
  iterate 2 refine DL.p rfl rfl rfl ?_
  refine DL.qf rfl (.free rfl) rfl rfl (Yld.fieldAddr fo90_2 rfl) ?_
  refine DL.q rfl (.free rfl) rfl rfl rfl (Yld.load p22 rfl (atM ((h3.grow hd).blk.cell rfl) id)) (Mod.drew _ _) ?_
  refine DL.qf rfl (.free rfl) rfl rfl (Yld.build (v := .agg (placeC 0 true false (reqC ⟨#[]⟩ 0) (-1) false (respC 0 0 0 0) false 0).toArray) rfl (fun w => by kernel_rfl)) ?_
  refine DL.op rfl (.free rfl) rfl rfl (Does.alloc i64) ?_
  rintro _ w4 ⟨b6, rfl, hn6⟩
  refine ⟨Mod.any' (hd.trans hn6.grow), ?_⟩
  have ha6 := hn6.at_
  have hz6 := hn6.size
  have hz36 : w3.drew.heap.size = w3.heap.size := rfl
  refine DL.opT rfl (.free rfl) rfl rfl (Does.storeN i64 rfl rfl rfl rfl hn6.blk (Nat.le_refl 66)) ?_
  rintro _ w5 ⟨hb5, hm5, hs5⟩
  have hB5 : Blk w5 b6 64 (placeC 0 true false (reqC ⟨#[]⟩ 0) (-1) false (respC 0 0 0 0) false 0) := hb5
  have hg5 : Grow w w5 := ((hg3.trans hd).trans hn6.grow).then hm5 (fun b hb e => by have e' : b = b6 := e; have := hg3.size; omega)
  have hq5 : Mod (b4 < ·) w1 w5 := ((hq3.trans (Mod.any' hd)).trans (Mod.any' hn6.grow)).trans (hm5.mono fun b _ e => by have e' : b = b6 := e; omega)
  have hI5 := ((hB3.mod hd (fun h => h)).mod hn6.grow (fun h => h)).mod hm5 (fun e => by have e' : b5 = b6 := e; have := hB3.lt; omega)
  have hB7 := hB5
  have hg7 := hg5
  have hq7 := hq5
  have hd7 := Mod.drew No w5
  have h7 := h.grow (hg7.trans hd7)
  have hB8 := hB7.mod hd7 (fun h => h)
  have hB9 := hB8
  have hg9 := hg7.trans hd7
  have hq9 := hq7.trans (Mod.any' hd7)
  refine DL.done ?_
  iterate 2 refine RK.seq ?_
  refine RK.region ?_
  refine RL.q (.free rfl) rfl rfl (Yld.fieldAddr fo27_0 rfl) ?_
  refine RL.q (.free rfl) rfl rfl (Yld.load p4 rfl (at1 (hI5.cell rfl))) ?_
  refine RL.p rfl rfl ?_
  refine RL.done ?_
  refine RK.condF (hcF rfl (rfl)) ?_
  refine RK.skip ?_
  iterate 2 refine RK.seq ?_
  refine RK.drawM No [(0, false), (1, false), (2, false), (3, false), (4, false), (5, false), (6, false), (7, false), (8, false), (9, false), (10, false), (11, false), (12, false)] [] mixed (by kernel_rfl) ?_
  iterate 2 refine DL.p rfl rfl rfl ?_
  refine DL.qf rfl (.free rfl) rfl rfl (Yld.fieldAddr fo90_1 rfl) ?_
  refine DL.q rfl (.free rfl) rfl rfl rfl (Yld.load p88 rfl (atM (h7.blk.cell rfl) id)) (Mod.drew _ _) ?_
  refine DL.qf rfl (.free rfl) rfl rfl (Yld.fieldAddr fo64_3 rfl) ?_
  refine DL.qf rfl (.free rfl) rfl rfl (Yld.fieldAddr fo57_0 rfl) ?_
  refine DL.q rfl (.free rfl) rfl rfl rfl (Yld.load p9 rfl (atM ((hB7.mod hd7 (fun h => h)).cell rfl) id)) (Mod.drew _ _) ?_
  refine DL.q rfl (.free rfl) rfl rfl rfl (Yld.lookup Tryz.underlying88 key9 i3 (k := ⟨#[]⟩) rfl rfl (fun w' hm => (h.grow hg7).map.mod (M := No) hm (fun h => h))) (Mod.drew _ _) ?_
  iterate 5 refine DL.p rfl rfl rfl ?_
  refine DL.done ?_
  refine RK.seq ?_
  refine RK.region ?_
  iterate 2 refine RL.p rfl rfl ?_
  refine RL.knownF (d := 48) rfl rfl (rfl) ?_
  iterate 2 refine RL.no (.no rfl rfl rfl rfl) rfl rfl ?_
  refine RL.p rfl rfl ?_
  refine RL.done ?_
  refine RK.condF rfl ?_
  refine RK.skip ?_
  refine RK.seq ?_
  refine RK.region ?_
  iterate 2 refine RL.p rfl rfl ?_
  refine RL.q (.free rfl) rfl rfl (Yld.fieldAddr fo90_0 rfl) ?_
  refine RL.q (.free rfl) rfl rfl (Yld.fieldAddr fo31_2 rfl) ?_
  refine RL.q (.free rfl) rfl rfl (Yld.load p29 rfl (at1 ((h.grow hg9).blk.cell rfl))) ?_
  refine RL.p rfl rfl ?_
  refine RL.q (.free rfl) rfl rfl (Yld.indexAddrN u29 i25 rfl rfl ((by exact hql))) ?_
  refine RL.q (.free rfl) rfl rfl (Yld.load p25 rfl (at1 (hg9.cell (hc2 _ _ hqs) (fun h => h)))) ?_
  refine RL.op (.free rfl) rfl rfl (Does.call rfl e64 (rRdN_ok _ _ _ (hq.mod hg9) hqc)) ?_
  rintro _ w10 ⟨rfl, hg10⟩
  have hB10 := hB9.mod hg10 (fun h => h)
  iterate 3 refine RL.p rfl rfl ?_
  refine RL.q (.free rfl) rfl rfl (Yld.fieldAddr fo64_6 rfl) ?_
  refine RL.op' (.free rfl) rfl (Does.storeN (o := 24) i62 rfl rfl rfl rfl hB10 (by decide)) ?_
  rintro _ w11 ⟨hb11, hm11, hs11⟩
  have hB11 : Blk w11 b6 64 (placeC 0 true false (reqC ⟨#[]⟩ 0) (-1) false (respC 0 0 0 5) false 0) := hb11
  refine RL.q (.free rfl) rfl rfl (Yld.fieldAddr fo64_5 rfl) ?_
  refine RL.op' (.free rfl) rfl (Does.storeN (o := 23) i4 rfl rfl rfl rfl hB11 (by decide)) ?_
  rintro _ w12 ⟨hb12, hm12, hs12⟩
  have hB12 : Blk w12 b6 64 (placeC 0 true false (reqC ⟨#[]⟩ 0) (-1) true (respC 0 0 0 5) false 0) := hb12
  have hm112 : Mod (· = b6) w10 w12 := hm11.trans hm12
  refine RL.done ?_
  refine RK.seq ?_
  refine RK.region ?_
  refine RL.q (.free rfl) rfl rfl (Yld.fieldAddr fo64_2 rfl) ?_
  refine RL.q (.free rfl) rfl rfl (Yld.load p4 rfl (at1 (hB12.cell rfl))) ?_
  refine RL.p rfl rfl ?_
  refine RL.knownF (d := 70) rfl rfl (rfl) ?_
  iterate 2 refine RL.no (.no rfl rfl rfl rfl) rfl rfl ?_
  iterate 2 refine RL.p rfl rfl ?_
  iterate 4 refine RL.no (.no rfl rfl rfl rfl) rfl rfl ?_
  iterate 2 refine RL.p rfl rfl ?_
  iterate 7 refine RL.no (.no rfl rfl rfl rfl) rfl rfl ?_
  refine RL.p rfl rfl ?_
  refine RL.q (.free rfl) rfl rfl (Yld.fieldAddr fo64_7 rfl) ?_
  refine RL.op' (.free rfl) rfl (Does.storeN (o := 64) i4 rfl rfl rfl rfl hB12 (by decide)) ?_
  rintro _ w13 ⟨hb13, hm13, hs13⟩
  have hB13 : Blk w13 b6 64 pl0 := hb13
  have hm1013 : Mod (· = b6) w10 w13 := hm112.trans hm13
  have hg13 := (hg9.trans hg10).then hm1013 (fun b hb e => by have e' : b = b6 := e; have := hg3.size; omega)
  have hq13 := (hq9.trans (Mod.any' hg10)).trans (hm1013.mono fun b _ e => by have e' : b = b6 := e; omega)
  refine RL.done ?_
  refine RK.seq ?_
  refine RK.region ?_
  refine RL.q (.free rfl) rfl rfl (Yld.loadN (cs := pl0) a64 rfl (atN (blkV hB13))) ?_
  refine RL.op' (.free rfl) rfl (Does.storeN i64 rfl rfl rfl rfl (hn4.blk.mod hq13 (fun e => Nat.lt_irrefl _ e)) (Nat.le_refl 66)) ?_
  rintro _ w14 ⟨hb14, hm14, hs14⟩
  refine RL.done ?_
  refine RK.ret_of Tryz.func32 (resC (cs := pl0) rfl rfl a64 hb14) ?_ _
  exact ⟨_, rfl, rfl, hg13.then hm14 (fun b hb e => by have e' : b = b4 := e; omega)⟩
theorem place1_ok {w : World} {p m : Nat} {vi va : Value} {xs : List It} {qs : List Value} (h : WkAt w p m vi va 5) (hl : Lg w vi va xs qs) (ra : Option Addr) (rc : Nat) (hr : Sl No w (.slice ra 6 rc) 1 6 (bytesV [4, 114, 111, 111, 116, 1])) (hrc : 6 ≤ rc) (hx : xs[1]? = some (false, 0, .slice ra 6 rc)) (qa : Option Addr) (qc : Nat) (hqs : qs[1]? = some (.slice qa 3 qc)) (hq : Sl No w (.slice qa 3 qc) 1 3 (bytesV [0, 1, 1])) (hqc : 3 ≤ qc) : Fx Tryz.prog 32 [pp p, .int .i64 1] w (fun u w' => u = .agg (pl1).toArray ∧ Grow w w') := by
  obtain ⟨b1, o1, c1, he1, _, _, hc1⟩ := hl.it.elem itC_len hx
  subst he1
  obtain ⟨b2, o2, c2, he2, _, _, hc2⟩ := hl.an.elem1 hqs
  subst he2
  have hxl := (List.getElem?_eq_some_iff.1 hx).1
  have hql := (List.getElem?_eq_some_iff.1 hqs).1
  refine enter Tryz.func32 rfl rfl rfl _ (Pick.sub (l := [0, 1]) (.cons rfl (.cons rfl .nil))) ?_
  refine RK.seq ?_
  refine RK.region ?_
  refine RL.op (.free rfl) rfl rfl (Does.alloc i64) ?_
  rintro _ w1 ⟨b4, rfl, hn4⟩
  have ha4 := hn4.at_
  have hz4 := hn4.size
  have h1 := h.grow hn4.grow
  refine RL.done ?_
  refine RK.seq ?_
  refine RK.region ?_
  iterate 2 refine RL.p rfl rfl ?_
  refine RL.q (.free rfl) rfl rfl (Yld.fieldAddr fo90_0 rfl) ?_
  refine RL.q (.free rfl) rfl rfl (Yld.fieldAddr fo31_1 rfl) ?_
  refine RL.q (.free rfl) rfl rfl (Yld.load p28 rfl (at1 (h1.blk.cell rfl))) ?_
  refine RL.p rfl rfl ?_
  refine RL.q (.free rfl) rfl rfl (Yld.indexAddrN u28 i27 rfl rfl ((by exact hxl))) ?_
  refine RL.q (.free rfl) rfl rfl (Yld.loadN (cs := itC (false, 0, .slice ra 6 rc)) a27 rfl (atN (fun j u hj => hn4.grow.cell (hc1 j u hj) (fun h => h)))) ?_
  refine RL.op (.free rfl) rfl rfl (Does.alloc i27) ?_
  rintro _ w2 ⟨b5, rfl, hn5⟩
  have ha5 := hn5.at_
  have hz5 := hn5.size
  refine RL.op' (.free rfl) rfl (Does.storeN i27 rfl rfl rfl rfl hn5.blk (Nat.le_refl 3)) ?_
  rintro _ w3 ⟨hb3, hm3, hs3⟩
  have hB3 : Blk w3 b5 27 (itC (false, 0, .slice ra 6 rc)) := hb3
  have hg3 : Grow w w3 := (hn4.grow.trans hn5.grow).then hm3 (fun b hb e => by have e' : b = b5 := e; omega)
  have h3 := h.grow hg3
  have hq3 : Mod (b4 < ·) w1 w3 := (Mod.any' hn5.grow).trans (hm3.mono fun b _ e => by have e' : b = b5 := e; omega)
  have hd := Mod.drew No w3
  refine RL.done ?_
  refine RK.seq ?_
  refine RK.drawM (fun _ => False) [(0, false), (1, false), (2, false), (3, false), (4, false), (5, false), (6, false), (7, false), (8, true), (9, true)] [9] mixed (by kernel_rfl) ?_
  refine DL.p rfl rfl rfl ?_
  refine DL.qf rfl (.free rfl) rfl rfl (Yld.fieldAddr fo27_0 rfl) ?_
  refine DL.q rfl (.free rfl) rfl rfl rfl (Yld.load p4 rfl (atM ((hB3.mod hd (fun h => h)).cell rfl) id)) (Mod.drew _ _) ?_
  iterate 2 refine DL.p rfl rfl rfl ?_
  refine DL.qf rfl (.free rfl) rfl rfl (Yld.fieldAddr fo90_2 rfl) ?_
  refine DL.q rfl (.free rfl) rfl rfl rfl (Yld.load p22 rfl (atM ((h3.grow hd).blk.cell rfl) id)) (Mod.drew _ _) ?_
  refine DL.qf rfl (.free rfl) rfl rfl (Yld.build (v := .agg (placeC 1 false false (reqC ⟨#[]⟩ 0) (-1) false (respC 0 0 0 0) false 5).toArray) rfl (fun w => by kernel_rfl)) ?_
  refine DL.op rfl (.free rfl) rfl rfl (Does.alloc i64) ?_
  rintro _ w4 ⟨b6, rfl, hn6⟩
  refine ⟨Mod.any' (hd.trans hn6.grow), ?_⟩
  have ha6 := hn6.at_
  have hz6 := hn6.size
  have hz36 : w3.drew.heap.size = w3.heap.size := rfl
  refine DL.opT rfl (.free rfl) rfl rfl (Does.storeN i64 rfl rfl rfl rfl hn6.blk (Nat.le_refl 66)) ?_
  rintro _ w5 ⟨hb5, hm5, hs5⟩
  have hB5 : Blk w5 b6 64 (placeC 1 false false (reqC ⟨#[]⟩ 0) (-1) false (respC 0 0 0 0) false 5) := hb5
  have hg5 : Grow w w5 := ((hg3.trans hd).trans hn6.grow).then hm5 (fun b hb e => by have e' : b = b6 := e; have := hg3.size; omega)
  have hq5 : Mod (b4 < ·) w1 w5 := ((hq3.trans (Mod.any' hd)).trans (Mod.any' hn6.grow)).trans (hm5.mono fun b _ e => by have e' : b = b6 := e; omega)
  have hI5 := ((hB3.mod hd (fun h => h)).mod hn6.grow (fun h => h)).mod hm5 (fun e => by have e' : b5 = b6 := e; have := hB3.lt; omega)
  refine DL.done ?_
  iterate 2 refine RK.seq ?_
  refine RK.region ?_
  refine RL.q (.free rfl) rfl rfl (Yld.fieldAddr fo27_0 rfl) ?_
  refine RL.q (.free rfl) rfl rfl (Yld.load p4 rfl (at1 (hI5.cell rfl))) ?_
  refine RL.p rfl rfl ?_
  refine RL.done ?_
  refine RK.condT (hcT rfl (rfl)) ?_
  refine RK.region ?_
  refine RL.q (.free rfl) rfl rfl (Yld.fieldAddr fo27_2 rfl) ?_
  refine RL.q (.free rfl) rfl rfl (Yld.load p25 rfl (at1 (hI5.cell rfl))) ?_
  refine RL.op (.free rfl) rfl rfl (Does.call rfl e63 (reqRd1_ok _ _ _ (hr.mod hg5) hrc)) ?_
  rintro _ w51 ⟨rfl, hg51⟩
  have hB51 := hB5.mod hg51 (fun h => h)
  iterate 3 refine RL.p rfl rfl ?_
  refine RL.q (.free rfl) rfl rfl (Yld.fieldAddr fo64_3 rfl) ?_
  refine RL.op' (.free rfl) rfl (Does.storeN (o := 3) i57 rfl rfl rfl rfl hB51 (by decide)) ?_
  rintro _ w6 ⟨hb6, hm6, hs6⟩
  have hB6 : Blk w6 b6 64 (placeC 1 false false (reqC root 1) (-1) false (respC 0 0 0 0) false 5) := hb6
  refine RL.q (.free rfl) rfl rfl (Yld.fieldAddr fo64_2 rfl) ?_
  refine RL.op' (.free rfl) rfl (Does.storeN (o := 2) i4 rfl rfl rfl rfl hB6 (by decide)) ?_
  rintro _ w7 ⟨hb7, hm7, hs7⟩
  have hB7 : Blk w7 b6 64 (placeC 1 false true (reqC root 1) (-1) false (respC 0 0 0 0) false 5) := hb7
  have hm67 : Mod (· = b6) w51 w7 := hm6.trans hm7
  have hg7 : Grow w w7 := (hg5.trans hg51).then hm67 (fun b hb e => by have e' : b = b6 := e; have := hg3.size; omega)
  have hq7 : Mod (b4 < ·) w1 w7 := (hq5.trans (Mod.any' hg51)).trans (hm67.mono fun b _ e => by have e' : b = b6 := e; omega)
  have hd7 := Mod.drew No w7
  have h7 := h.grow (hg7.trans hd7)
  have hB8 := hB7.mod hd7 (fun h => h)
  refine RL.done ?_
  iterate 2 refine RK.seq ?_
  refine RK.drawM No [(0, false), (1, false), (2, false), (3, false), (4, false), (5, false), (6, false), (7, false), (8, false), (9, false), (10, false), (11, false), (12, false)] [] mixed (by kernel_rfl) ?_
  iterate 2 refine DL.p rfl rfl rfl ?_
  refine DL.qf rfl (.free rfl) rfl rfl (Yld.fieldAddr fo90_1 rfl) ?_
  refine DL.q rfl (.free rfl) rfl rfl rfl (Yld.load p88 rfl (atM (h7.blk.cell rfl) id)) (Mod.drew _ _) ?_
  refine DL.qf rfl (.free rfl) rfl rfl (Yld.fieldAddr fo64_3 rfl) ?_
  refine DL.qf rfl (.free rfl) rfl rfl (Yld.fieldAddr fo57_0 rfl) ?_
  refine DL.q rfl (.free rfl) rfl rfl rfl (Yld.load p9 rfl (atM ((hB7.mod hd7 (fun h => h)).cell rfl) id)) (Mod.drew _ _) ?_
  refine DL.q rfl (.free rfl) rfl rfl rfl (Yld.lookup Tryz.underlying88 key9 i3 (k := root) rfl rfl (fun w' hm => (h.grow hg7).map.mod (M := No) hm (fun h => h))) (Mod.drew _ _) ?_
  iterate 5 refine DL.p rfl rfl rfl ?_
  refine DL.done ?_
  refine RK.seq ?_
  refine RK.region ?_
  iterate 2 refine RL.p rfl rfl ?_
  refine RL.knownT (d := 48) rfl rfl (rfl) ?_
  refine RL.q (.yes rfl rfl rfl) rfl rfl (Yld.fieldAddr fo64_2 rfl) ?_
  refine RL.q (.yes rfl rfl rfl) rfl rfl (Yld.load p4 rfl (at1 (hB8.cell rfl))) ?_
  refine RL.p rfl rfl ?_
  refine RL.done ?_
  refine RK.condT (hcT rfl (rfl)) ?_
  refine RK.region ?_
  refine RL.p rfl rfl ?_
  refine RL.q (.free rfl) rfl rfl (Yld.fieldAddr fo64_4 rfl) ?_
  refine RL.op' (.free rfl) rfl (Does.storeN (o := 22) i3 rfl rfl rfl rfl hB8 (by decide)) ?_
  rintro _ w9 ⟨hb9, hm9, hs9⟩
  have hB9 : Blk w9 b6 64 (placeC 1 false true (reqC root 1) 0 false (respC 0 0 0 0) false 5) := hb9
  have hg9 := (hg7.trans hd7).then hm9 (fun b hb e => by have e' : b = b6 := e; have := hg3.size; omega)
  have hq9 := (hq7.trans (Mod.any' hd7)).trans (hm9.mono fun b _ e => by have e' : b = b6 := e; omega)
  refine RL.done ?_
  refine RK.seq ?_
  refine RK.region ?_
  iterate 2 refine RL.p rfl rfl ?_
  refine RL.q (.free rfl) rfl rfl (Yld.fieldAddr fo90_0 rfl) ?_
  refine RL.q (.free rfl) rfl rfl (Yld.fieldAddr fo31_2 rfl) ?_
  refine RL.q (.free rfl) rfl rfl (Yld.load p29 rfl (at1 ((h.grow hg9).blk.cell rfl))) ?_
  refine RL.p rfl rfl ?_
  refine RL.q (.free rfl) rfl rfl (Yld.indexAddrN u29 i25 rfl rfl ((by exact hql))) ?_
  refine RL.q (.free rfl) rfl rfl (Yld.load p25 rfl (at1 (hg9.cell (hc2 _ _ hqs) (fun h => h)))) ?_
  refine RL.op (.free rfl) rfl rfl (Does.call rfl e64 (rRdI_ok _ _ _ (hq.mod hg9) hqc)) ?_
  rintro _ w10 ⟨rfl, hg10⟩
  have hB10 := hB9.mod hg10 (fun h => h)
  iterate 3 refine RL.p rfl rfl ?_
  refine RL.q (.free rfl) rfl rfl (Yld.fieldAddr fo64_6 rfl) ?_
  refine RL.op' (.free rfl) rfl (Does.storeN (o := 24) i62 rfl rfl rfl rfl hB10 (by decide)) ?_
  rintro _ w11 ⟨hb11, hm11, hs11⟩
  have hB11 : Blk w11 b6 64 (placeC 1 false true (reqC root 1) 0 false (respC 0 1 1 0) false 5) := hb11
  refine RL.q (.free rfl) rfl rfl (Yld.fieldAddr fo64_5 rfl) ?_
  refine RL.op' (.free rfl) rfl (Does.storeN (o := 23) i4 rfl rfl rfl rfl hB11 (by decide)) ?_
  rintro _ w12 ⟨hb12, hm12, hs12⟩
  have hB12 : Blk w12 b6 64 (placeC 1 false true (reqC root 1) 0 true (respC 0 1 1 0) false 5) := hb12
  have hm112 : Mod (· = b6) w10 w12 := hm11.trans hm12
  refine RL.done ?_
  refine RK.seq ?_
  refine RK.region ?_
  refine RL.q (.free rfl) rfl rfl (Yld.fieldAddr fo64_2 rfl) ?_
  refine RL.q (.free rfl) rfl rfl (Yld.load p4 rfl (at1 (hB12.cell rfl))) ?_
  refine RL.p rfl rfl ?_
  refine RL.knownT (d := 70) rfl rfl (rfl) ?_
  refine RL.q (.yes rfl rfl rfl) rfl rfl (Yld.fieldAddr fo64_5 rfl) ?_
  refine RL.q (.yes rfl rfl rfl) rfl rfl (Yld.load p4 rfl (at1 (hB12.cell rfl))) ?_
  iterate 2 refine RL.p rfl rfl ?_
  refine RL.knownT (d := 74) rfl rfl (rfl) ?_
  refine RL.q (.yes rfl rfl rfl) rfl rfl (Yld.fieldAddr fo64_6 rfl) ?_
  refine RL.q (.yes rfl rfl rfl) rfl rfl (Yld.fieldAddr fo62_0 rfl) ?_
  refine RL.q (.yes rfl rfl rfl) rfl rfl (Yld.load p58 rfl (at1 (hB12.cell rfl))) ?_
  refine RL.q (.yes rfl rfl rfl) rfl rfl (Yld.pure rfl) ?_
  iterate 2 refine RL.p rfl rfl ?_
  refine RL.knownT (d := 80) rfl rfl (rfl) ?_
  refine RL.q (.yes rfl rfl rfl) rfl rfl (Yld.fieldAddr fo64_6 rfl) ?_
  refine RL.q (.yes rfl rfl rfl) rfl rfl (Yld.fieldAddr fo62_1 rfl) ?_
  refine RL.q (.yes rfl rfl rfl) rfl rfl (Yld.load p3 rfl (at1 (hB12.cell rfl))) ?_
  refine RL.q (.yes rfl rfl rfl) rfl rfl (Yld.fieldAddr fo64_3 rfl) ?_
  refine RL.q (.yes rfl rfl rfl) rfl rfl (Yld.fieldAddr fo57_1 rfl) ?_
  refine RL.q (.yes rfl rfl rfl) rfl rfl (Yld.load p3 rfl (at1 (hB12.cell rfl))) ?_
  refine RL.q (.yes rfl rfl rfl) rfl rfl (Yld.pure rfl) ?_
  refine RL.p rfl rfl ?_
  refine RL.q (.free rfl) rfl rfl (Yld.fieldAddr fo64_7 rfl) ?_
  refine RL.op' (.free rfl) rfl (Does.storeN (o := 64) i4 rfl rfl rfl rfl hB12 (by decide)) ?_
  rintro _ w13 ⟨hb13, hm13, hs13⟩
  have hB13 : Blk w13 b6 64 pl1 := hb13
  have hm1013 : Mod (· = b6) w10 w13 := hm112.trans hm13
  have hg13 := (hg9.trans hg10).then hm1013 (fun b hb e => by have e' : b = b6 := e; have := hg3.size; omega)
  have hq13 := (hq9.trans (Mod.any' hg10)).trans (hm1013.mono fun b _ e => by have e' : b = b6 := e; omega)
  refine RL.done ?_
  refine RK.seq ?_
  refine RK.region ?_
  refine RL.q (.free rfl) rfl rfl (Yld.loadN (cs := pl1) a64 rfl (atN (blkV hB13))) ?_
  refine RL.op' (.free rfl) rfl (Does.storeN i64 rfl rfl rfl rfl (hn4.blk.mod hq13 (fun e => Nat.lt_irrefl _ e)) (Nat.le_refl 66)) ?_
  rintro _ w14 ⟨hb14, hm14, hs14⟩
  refine RL.done ?_
  refine RK.ret_of Tryz.func32 (resC (cs := pl1) rfl rfl a64 hb14) ?_ _
  exact ⟨_, rfl, rfl, hg13.then hm14 (fun b hb e => by have e' : b = b4 := e; omega)⟩
theorem place2_ok {w : World} {p m : Nat} {vi va : Value} {xs : List It} {qs : List Value} (h : WkAt w p m vi va 5) (hl : Lg w vi va xs qs) (ra : Option Addr) (rc : Nat) (hr : Sl No w (.slice ra 1 rc) 1 1 (bytesV [9])) (hrc : 1 ≤ rc) (hx : xs[2]? = some (false, 0, .slice ra 1 rc)) (qa : Option Addr) (qc : Nat) (hqs : qs[2]? = some (.slice qa 1 qc)) (hq : Sl No w (.slice qa 1 qc) 1 1 (bytesV [1])) (hqc : 1 ≤ qc) : Fx Tryz.prog 32 [pp p, .int .i64 2] w (fun u w' => u = .agg (pl2).toArray ∧ Grow w w') := by
  obtain ⟨b1, o1, c1, he1, _, _, hc1⟩ := hl.it.elem itC_len hx
  subst he1
  obtain ⟨b2, o2, c2, he2, _, _, hc2⟩ := hl.an.elem1 hqs
  subst he2
  have hxl := (List.getElem?_eq_some_iff.1 hx).1
  have hql := (List.getElem?_eq_some_iff.1 hqs).1
  refine enter Tryz.func32 rfl rfl rfl _ (Pick.sub (l := [0, 1]) (.cons rfl (.cons rfl .nil))) ?_
  refine RK.seq ?_
  refine RK.region ?_
  refine RL.op (.free rfl) rfl rfl (Does.alloc i64) ?_
  rintro _ w1 ⟨b4, rfl, hn4⟩
  have ha4 := hn4.at_
  have hz4 := hn4.size
  have h1 := h.grow hn4.grow
  refine RL.done ?_
  refine RK.seq ?_
  refine RK.region ?_
  iterate 2 refine RL.p rfl rfl ?_
  refine RL.q (.free rfl) rfl rfl (Yld.fieldAddr fo90_0 rfl) ?_
  refine RL.q (.free rfl) rfl rfl (Yld.fieldAddr fo31_1 rfl) ?_
  refine RL.q (.free rfl) rfl rfl (Yld.load p28 rfl (at1 (h1.blk.cell rfl))) ?_
  refine RL.p rfl rfl ?_
  refine RL.q (.free rfl) rfl rfl (Yld.indexAddrN u28 i27 rfl rfl ((by exact hxl))) ?_
  refine RL.q (.free rfl) rfl rfl (Yld.loadN (cs := itC (false, 0, .slice ra 1 rc)) a27 rfl (atN (fun j u hj => hn4.grow.cell (hc1 j u hj) (fun h => h)))) ?_
  refine RL.op (.free rfl) rfl rfl (Does.alloc i27) ?_
  rintro _ w2 ⟨b5, rfl, hn5⟩
  have ha5 := hn5.at_
  have hz5 := hn5.size
  refine RL.op' (.free rfl) rfl (Does.storeN i27 rfl rfl rfl rfl hn5.blk (Nat.le_refl 3)) ?_
  rintro _ w3 ⟨hb3, hm3, hs3⟩
  have hB3 : Blk w3 b5 27 (itC (false, 0, .slice ra 1 rc)) := hb3
  have hg3 : Grow w w3 := (hn4.grow.trans hn5.grow).then hm3 (fun b hb e => by have e' : b = b5 := e; omega)
  have h3 := h.grow hg3
  have hq3 : Mod (b4 < ·) w1 w3 := (Mod.any' hn5.grow).trans (hm3.mono fun b _ e => by have e' : b = b5 := e; omega)
  have hd := Mod.drew No w3
  refine RL.done ?_
  refine RK.seq ?_
  refine RK.drawM (fun _ => False) [(0, false), (1, false), (2, false), (3, false), (4, false), (5, false), (6, false), (7, false), (8, true), (9, true)] [9] mixed (by kernel_rfl) ?_
  refine DL.p rfl rfl rfl ?_
  refine DL.qf rfl (.free rfl) rfl rfl (Yld.fieldAddr fo27_0 rfl) ?_
  refine DL.q rfl (.free rfl) rfl rfl rfl (Yld.load p4 rfl (atM ((hB3.mod hd (fun h => h)).cell rfl) id)) (Mod.drew _ _) ?_
  iterate 2 refine DL.p rfl rfl rfl ?_
  refine DL.qf rfl (.free rfl) rfl rfl (Yld.fieldAddr fo90_2 rfl) ?_
  refine DL.q rfl (.free rfl) rfl rfl rfl (Yld.load p22 rfl (atM ((h3.grow hd).blk.cell rfl) id)) (Mod.drew _ _) ?_
  refine DL.qf rfl (.free rfl) rfl rfl (Yld.build (v := .agg (placeC 2 false false (reqC ⟨#[]⟩ 0) (-1) false (respC 0 0 0 0) false 5).toArray) rfl (fun w => by kernel_rfl)) ?_
  refine DL.op rfl (.free rfl) rfl rfl (Does.alloc i64) ?_
  rintro _ w4 ⟨b6, rfl, hn6⟩
  refine ⟨Mod.any' (hd.trans hn6.grow), ?_⟩
  have ha6 := hn6.at_
  have hz6 := hn6.size
  have hz36 : w3.drew.heap.size = w3.heap.size := rfl
  refine DL.opT rfl (.free rfl) rfl rfl (Does.storeN i64 rfl rfl rfl rfl hn6.blk (Nat.le_refl 66)) ?_
  rintro _ w5 ⟨hb5, hm5, hs5⟩
  have hB5 : Blk w5 b6 64 (placeC 2 false false (reqC ⟨#[]⟩ 0) (-1) false (respC 0 0 0 0) false 5) := hb5
  have hg5 : Grow w w5 := ((hg3.trans hd).trans hn6.grow).then hm5 (fun b hb e => by have e' : b = b6 := e; have := hg3.size; omega)
  have hq5 : Mod (b4 < ·) w1 w5 := ((hq3.trans (Mod.any' hd)).trans (Mod.any' hn6.grow)).trans (hm5.mono fun b _ e => by have e' : b = b6 := e; omega)
  have hI5 := ((hB3.mod hd (fun h => h)).mod hn6.grow (fun h => h)).mod hm5 (fun e => by have e' : b5 = b6 := e; have := hB3.lt; omega)
  refine DL.done ?_
  iterate 2 refine RK.seq ?_
  refine RK.region ?_
  refine RL.q (.free rfl) rfl rfl (Yld.fieldAddr fo27_0 rfl) ?_
  refine RL.q (.free rfl) rfl rfl (Yld.load p4 rfl (at1 (hI5.cell rfl))) ?_
  refine RL.p rfl rfl ?_
  refine RL.done ?_
  refine RK.condT (hcT rfl (rfl)) ?_
  refine RK.region ?_
  refine RL.q (.free rfl) rfl rfl (Yld.fieldAddr fo27_2 rfl) ?_
  refine RL.q (.free rfl) rfl rfl (Yld.load p25 rfl (at1 (hI5.cell rfl))) ?_
  refine RL.op (.free rfl) rfl rfl (Does.call rfl e63 (reqRd0_ok _ _ _ (hr.mod hg5) hrc)) ?_
  rintro _ w51 ⟨rfl, hg51⟩
  have hB51 := hB5.mod hg51 (fun h => h)
  iterate 3 refine RL.p rfl rfl ?_
  refine RL.q (.free rfl) rfl rfl (Yld.fieldAddr fo64_3 rfl) ?_
  refine RL.op' (.free rfl) rfl (Does.storeN (o := 3) i57 rfl rfl rfl rfl hB51 (by decide)) ?_
  rintro _ w6 ⟨hb6, hm6, hs6⟩
  have hB6 : Blk w6 b6 64 (placeC 2 false false (reqC ⟨#[]⟩ 0) (-1) false (respC 0 0 0 0) false 5) := hb6
  refine RL.q (.free rfl) rfl rfl (Yld.fieldAddr fo64_2 rfl) ?_
  refine RL.op' (.free rfl) rfl (Does.storeN (o := 2) i4 rfl rfl rfl rfl hB6 (by decide)) ?_
  rintro _ w7 ⟨hb7, hm7, hs7⟩
  have hB7 : Blk w7 b6 64 (placeC 2 false false (reqC ⟨#[]⟩ 0) (-1) false (respC 0 0 0 0) false 5) := hb7
  have hm67 : Mod (· = b6) w51 w7 := hm6.trans hm7
  have hg7 : Grow w w7 := (hg5.trans hg51).then hm67 (fun b hb e => by have e' : b = b6 := e; have := hg3.size; omega)
  have hq7 : Mod (b4 < ·) w1 w7 := (hq5.trans (Mod.any' hg51)).trans (hm67.mono fun b _ e => by have e' : b = b6 := e; omega)
  have hd7 := Mod.drew No w7
  have h7 := h.grow (hg7.trans hd7)
  have hB8 := hB7.mod hd7 (fun h => h)
  have hB9 := hB8
  have hg9 := hg7.trans hd7
  have hq9 := hq7.trans (Mod.any' hd7)
  refine RL.done ?_
  iterate 2 refine RK.seq ?_
  refine RK.drawM No [(0, false), (1, false), (2, false), (3, false), (4, false), (5, false), (6, false), (7, false), (8, false), (9, false), (10, false), (11, false), (12, false)] [] mixed (by kernel_rfl) ?_
  iterate 2 refine DL.p rfl rfl rfl ?_
  refine DL.qf rfl (.free rfl) rfl rfl (Yld.fieldAddr fo90_1 rfl) ?_
  refine DL.q rfl (.free rfl) rfl rfl rfl (Yld.load p88 rfl (atM (h7.blk.cell rfl) id)) (Mod.drew _ _) ?_
  refine DL.qf rfl (.free rfl) rfl rfl (Yld.fieldAddr fo64_3 rfl) ?_
  refine DL.qf rfl (.free rfl) rfl rfl (Yld.fieldAddr fo57_0 rfl) ?_
  refine DL.q rfl (.free rfl) rfl rfl rfl (Yld.load p9 rfl (atM ((hB7.mod hd7 (fun h => h)).cell rfl) id)) (Mod.drew _ _) ?_
  refine DL.q rfl (.free rfl) rfl rfl rfl (Yld.lookup Tryz.underlying88 key9 i3 (k := ⟨#[]⟩) rfl rfl (fun w' hm => (h.grow hg7).map.mod (M := No) hm (fun h => h))) (Mod.drew _ _) ?_
  iterate 5 refine DL.p rfl rfl rfl ?_
  refine DL.done ?_
  refine RK.seq ?_
  refine RK.region ?_
  iterate 2 refine RL.p rfl rfl ?_
  refine RL.knownF (d := 48) rfl rfl (rfl) ?_
  iterate 2 refine RL.no (.no rfl rfl rfl rfl) rfl rfl ?_
  refine RL.p rfl rfl ?_
  refine RL.done ?_
  refine RK.condF rfl ?_
  refine RK.skip ?_
  refine RK.seq ?_
  refine RK.region ?_
  iterate 2 refine RL.p rfl rfl ?_
  refine RL.q (.free rfl) rfl rfl (Yld.fieldAddr fo90_0 rfl) ?_
  refine RL.q (.free rfl) rfl rfl (Yld.fieldAddr fo31_2 rfl) ?_
  refine RL.q (.free rfl) rfl rfl (Yld.load p29 rfl (at1 ((h.grow hg9).blk.cell rfl))) ?_
  refine RL.p rfl rfl ?_
  refine RL.q (.free rfl) rfl rfl (Yld.indexAddrN u29 i25 rfl rfl ((by exact hql))) ?_
  refine RL.q (.free rfl) rfl rfl (Yld.load p25 rfl (at1 (hg9.cell (hc2 _ _ hqs) (fun h => h)))) ?_
  refine RL.op (.free rfl) rfl rfl (Does.call rfl e64 (rRdE_ok _ _ _ (hq.mod hg9) hqc)) ?_
  rintro _ w10 ⟨rfl, hg10⟩
  have hB10 := hB9.mod hg10 (fun h => h)
  iterate 3 refine RL.p rfl rfl ?_
  refine RL.q (.free rfl) rfl rfl (Yld.fieldAddr fo64_6 rfl) ?_
  refine RL.op' (.free rfl) rfl (Does.storeN (o := 24) i62 rfl rfl rfl rfl hB10 (by decide)) ?_
  rintro _ w11 ⟨hb11, hm11, hs11⟩
  have hB11 : Blk w11 b6 64 (placeC 2 false false (reqC ⟨#[]⟩ 0) (-1) false (respC 1 0 0 0) false 5) := hb11
  refine RL.q (.free rfl) rfl rfl (Yld.fieldAddr fo64_5 rfl) ?_
  refine RL.op' (.free rfl) rfl (Does.storeN (o := 23) i4 rfl rfl rfl rfl hB11 (by decide)) ?_
  rintro _ w12 ⟨hb12, hm12, hs12⟩
  have hB12 : Blk w12 b6 64 (placeC 2 false false (reqC ⟨#[]⟩ 0) (-1) true (respC 1 0 0 0) false 5) := hb12
  have hm112 : Mod (· = b6) w10 w12 := hm11.trans hm12
  refine RL.done ?_
  refine RK.seq ?_
  refine RK.region ?_
  refine RL.q (.free rfl) rfl rfl (Yld.fieldAddr fo64_2 rfl) ?_
  refine RL.q (.free rfl) rfl rfl (Yld.load p4 rfl (at1 (hB12.cell rfl))) ?_
  refine RL.p rfl rfl ?_
  refine RL.knownF (d := 70) rfl rfl (rfl) ?_
  iterate 2 refine RL.no (.no rfl rfl rfl rfl) rfl rfl ?_
  iterate 2 refine RL.p rfl rfl ?_
  iterate 4 refine RL.no (.no rfl rfl rfl rfl) rfl rfl ?_
  iterate 2 refine RL.p rfl rfl ?_
  iterate 7 refine RL.no (.no rfl rfl rfl rfl) rfl rfl ?_
  refine RL.p rfl rfl ?_
  refine RL.q (.free rfl) rfl rfl (Yld.fieldAddr fo64_7 rfl) ?_
  refine RL.op' (.free rfl) rfl (Does.storeN (o := 64) i4 rfl rfl rfl rfl hB12 (by decide)) ?_
  rintro _ w13 ⟨hb13, hm13, hs13⟩
  have hB13 : Blk w13 b6 64 pl2 := hb13
  have hm1013 : Mod (· = b6) w10 w13 := hm112.trans hm13
  have hg13 := (hg9.trans hg10).then hm1013 (fun b hb e => by have e' : b = b6 := e; have := hg3.size; omega)
  have hq13 := (hq9.trans (Mod.any' hg10)).trans (hm1013.mono fun b _ e => by have e' : b = b6 := e; omega)
  refine RL.done ?_
  refine RK.seq ?_
  refine RK.region ?_
  refine RL.q (.free rfl) rfl rfl (Yld.loadN (cs := pl2) a64 rfl (atN (blkV hB13))) ?_
  refine RL.op' (.free rfl) rfl (Does.storeN i64 rfl rfl rfl rfl (hn4.blk.mod hq13 (fun e => Nat.lt_irrefl _ e)) (Nat.le_refl 66)) ?_
  rintro _ w14 ⟨hb14, hm14, hs14⟩
  refine RL.done ?_
  refine RK.ret_of Tryz.func32 (resC (cs := pl2) rfl rfl a64 hb14) ?_ _
  exact ⟨_, rfl, rfl, hg13.then hm14 (fun b hb e => by have e' : b = b4 := e; omega)⟩
end Go.Proofs.YtghcdngegadkaaaGreat
set_option linter.unusedVariables false
set_option linter.unusedSimpArgs false
set_option maxHeartbeats 6400000
set_option maxRecDepth 100000
namespace Go.Proofs.YtghcdngegadkaaaGreat
open Go Go.X
@[reducible] def pl : Nat → List Value
  | 0 => pl0
  | 1 => pl1
  | _ => pl2
@[reducible] def nowAt : Nat → Int
  | 0 => 0
  | _ => 5
section
variable {w : World} {p m : Nat} {vi va : Value}
theorem behind0_ok (h : WkAt w p m vi va 0) : Fx Tryz.prog 33 [pp p, .agg pl0.toArray] w (fun u w' => ∃ w1, Grow w w1 ∧ WkAt w' p m vi va 5 ∧ Mod (· = p) w1 w') := by
  refine enter Tryz.func33 rfl rfl rfl _ (Pick.sub (l := [0, 1]) (.cons rfl (.cons rfl .nil))) ?_
  refine RK.seq ?_
  refine RK.region ?_
  refine RL.op (.free rfl) rfl rfl (Does.box rfl) ?_
  rintro _ w1 ⟨b3, rfl, hn3⟩
  have hB : Blk w1 b3 64 pl0 := hn3.blk
  refine RL.done ?_
  refine RK.block ?_
  refine RK.seq ?_
  refine RK.region ?_
  refine RL.q (.free rfl) rfl rfl (Yld.fieldAddr fo64_1 rfl) ?_
  refine RL.q (.free rfl) rfl rfl (Yld.load p4 rfl (at1 (hB.cell rfl))) ?_
  refine RL.p rfl rfl ?_
  refine RL.knownT (d := 7) rfl rfl (rfl) ?_
  refine RL.q (.yes rfl rfl rfl) rfl rfl (Yld.fieldAddr fo64_5 rfl) ?_
  refine RL.q (.yes rfl rfl rfl) rfl rfl (Yld.load p4 rfl (at1 (hB.cell rfl))) ?_
  iterate 2 refine RL.p rfl rfl ?_
  refine RL.knownT (d := 11) rfl rfl (rfl) ?_
  refine RL.q (.yes rfl rfl rfl) rfl rfl (Yld.fieldAddr fo64_6 rfl) ?_
  refine RL.q (.yes rfl rfl rfl) rfl rfl (Yld.fieldAddr fo62_0 rfl) ?_
  refine RL.q (.yes rfl rfl rfl) rfl rfl (Yld.load p58 rfl (at1 (hB.cell rfl))) ?_
  refine RL.q (.yes rfl rfl rfl) rfl rfl (Yld.pure rfl) ?_
  iterate 2 refine RL.p rfl rfl ?_
  refine RL.knownT (d := 17) rfl rfl (rfl) ?_
  refine RL.q (.yes rfl rfl rfl) rfl rfl (Yld.fieldAddr fo64_6 rfl) ?_
  refine RL.q (.yes rfl rfl rfl) rfl rfl (Yld.fieldAddr fo62_1 rfl) ?_
  refine RL.q (.yes rfl rfl rfl) rfl rfl (Yld.load p3 rfl (at1 (hB.cell rfl))) ?_
  refine RL.q (.yes rfl rfl rfl) rfl rfl (Yld.pure rfl) ?_
  iterate 2 refine RL.p rfl rfl ?_
  refine RL.done ?_
  refine RK.condT (hcT rfl (rfl)) ?_
  refine RK.region ?_
  refine RL.p rfl rfl ?_
  refine RL.q (.free rfl) rfl rfl (Yld.fieldAddr fo64_6 rfl) ?_
  refine RL.q (.free rfl) rfl rfl (Yld.fieldAddr fo62_8 rfl) ?_
  refine RL.q (.free rfl) rfl rfl (Yld.load p22 rfl (at1 (hB.cell rfl))) ?_
  refine RL.p rfl rfl ?_
  refine RL.q (.free rfl) rfl rfl (Yld.fieldAddr fo90_2 rfl) ?_
  refine RL.op' (.free rfl) rfl (Does.storeN (o := 12) i22 rfl rfl rfl rfl (h.grow hn3.grow).blk (Nat.le_refl 13)) ?_
  rintro _ w2 ⟨hb2, hm2, hs2⟩
  refine RL.done ?_
  refine RK.inBlock ?_
  refine RK.end_of Tryz.func33 (res0 rfl) ?_
  exact ⟨_, rfl, w1, hn3.grow, ⟨hb2, (h.grow hn3.grow).map.mod hm2 (fun e => by
      obtain ⟨es, c, h1, _⟩ := h.map.out
      have h2 : w.heap[p]? = _ := h.blk
      have e' : m = p := e
      rw [e', h2] at h1
      cases h1)⟩, hm2⟩
theorem behind1_ok (h : WkAt w p m vi va 5) : Fx Tryz.prog 33 [pp p, .agg pl1.toArray] w (fun u w' => ∃ w1, Grow w w1 ∧ WkAt w' p m vi va 5 ∧ Mod (· = p) w1 w') := by
  refine enter Tryz.func33 rfl rfl rfl _ (Pick.sub (l := [0, 1]) (.cons rfl (.cons rfl .nil))) ?_
  refine RK.seq ?_
  refine RK.region ?_
  refine RL.op (.free rfl) rfl rfl (Does.box rfl) ?_
  rintro _ w1 ⟨b3, rfl, hn3⟩
  have hB : Blk w1 b3 64 pl1 := hn3.blk
  refine RL.done ?_
  refine RK.block ?_
  refine RK.seq ?_
  refine RK.region ?_
  refine RL.q (.free rfl) rfl rfl (Yld.fieldAddr fo64_1 rfl) ?_
  refine RL.q (.free rfl) rfl rfl (Yld.load p4 rfl (at1 (hB.cell rfl))) ?_
  refine RL.p rfl rfl ?_
  refine RL.knownF (d := 7) rfl rfl (rfl) ?_
  iterate 2 refine RL.no (.no rfl rfl rfl rfl) rfl rfl ?_
  iterate 2 refine RL.p rfl rfl ?_
  iterate 4 refine RL.no (.no rfl rfl rfl rfl) rfl rfl ?_
  iterate 2 refine RL.p rfl rfl ?_
  iterate 4 refine RL.no (.no rfl rfl rfl rfl) rfl rfl ?_
  iterate 2 refine RL.p rfl rfl ?_
  refine RL.done ?_
  refine RK.condF rfl ?_
  refine RK.seq ?_
  refine RK.region ?_
  refine RL.q (.free rfl) rfl rfl (Yld.fieldAddr fo64_7 rfl) ?_
  refine RL.q (.free rfl) rfl rfl (Yld.load p4 rfl (at1 (hB.cell rfl))) ?_
  iterate 2 refine RL.p rfl rfl ?_
  refine RL.knownF (d := 33) rfl rfl (rfl) ?_
  refine RL.q (.yes rfl rfl rfl) rfl rfl (Yld.fieldAddr fo64_4 rfl) ?_
  refine RL.q (.yes rfl rfl rfl) rfl rfl (Yld.load p3 rfl (at1 (hB.cell rfl))) ?_
  refine RL.q (.yes rfl rfl rfl) rfl rfl (Yld.pure rfl) ?_
  iterate 2 refine RL.p rfl rfl ?_
  refine RL.done ?_
  refine RK.condF (hcF rfl (rfl)) ?_
  refine RK.seq ?_
  refine RK.region ?_
  refine RL.q (.free rfl) rfl rfl (Yld.fieldAddr fo64_3 rfl) ?_
  refine RL.q (.free rfl) rfl rfl (Yld.fieldAddr fo57_1 rfl) ?_
  refine RL.q (.free rfl) rfl rfl (Yld.load p3 rfl (at1 (hB.cell rfl))) ?_
  iterate 2 refine RL.p rfl rfl ?_
  refine RL.done ?_
  refine RK.condF (hcF rfl (rfl)) ?_
  refine RK.seq ?_
  refine RK.region ?_
  refine RL.q (.free rfl) rfl rfl (Yld.fieldAddr fo64_3 rfl) ?_
  refine RL.q (.free rfl) rfl rfl (Yld.fieldAddr fo57_1 rfl) ?_
  refine RL.q (.free rfl) rfl rfl (Yld.load p3 rfl (at1 (hB.cell rfl))) ?_
  iterate 2 refine RL.p rfl rfl ?_
  refine RL.done ?_
  refine RK.condF (hcF rfl (rfl)) ?_
  refine RK.seq ?_
  refine RK.region ?_
  refine RL.q (.free rfl) rfl rfl (Yld.fieldAddr fo64_3 rfl) ?_
  refine RL.q (.free rfl) rfl rfl (Yld.fieldAddr fo57_1 rfl) ?_
  refine RL.q (.free rfl) rfl rfl (Yld.load p3 rfl (at1 (hB.cell rfl))) ?_
  iterate 2 refine RL.p rfl rfl ?_
  refine RL.done ?_
  refine RK.condF (hcF rfl (rfl)) ?_
  refine RK.skip ?_
  refine RK.inBlock ?_
  refine RK.end_of Tryz.func33 (res0 rfl) ?_
  exact ⟨_, rfl, w1, hn3.grow, h.grow hn3.grow, Mod.refl _ _⟩
theorem behind2_ok (h : WkAt w p m vi va 5) : Fx Tryz.prog 33 [pp p, .agg pl2.toArray] w (fun u w' => ∃ w1, Grow w w1 ∧ WkAt w' p m vi va 5 ∧ Mod (· = p) w1 w') := by
  refine enter Tryz.func33 rfl rfl rfl _ (Pick.sub (l := [0, 1]) (.cons rfl (.cons rfl .nil))) ?_
  refine RK.seq ?_
  refine RK.region ?_
  refine RL.op (.free rfl) rfl rfl (Does.box rfl) ?_
  rintro _ w1 ⟨b3, rfl, hn3⟩
  have hB : Blk w1 b3 64 pl2 := hn3.blk
  refine RL.done ?_
  refine RK.block ?_
  refine RK.seq ?_
  refine RK.region ?_
  refine RL.q (.free rfl) rfl rfl (Yld.fieldAddr fo64_1 rfl) ?_
  refine RL.q (.free rfl) rfl rfl (Yld.load p4 rfl (at1 (hB.cell rfl))) ?_
  refine RL.p rfl rfl ?_
  refine RL.knownF (d := 7) rfl rfl (rfl) ?_
  iterate 2 refine RL.no (.no rfl rfl rfl rfl) rfl rfl ?_
  iterate 2 refine RL.p rfl rfl ?_
  iterate 4 refine RL.no (.no rfl rfl rfl rfl) rfl rfl ?_
  iterate 2 refine RL.p rfl rfl ?_
  iterate 4 refine RL.no (.no rfl rfl rfl rfl) rfl rfl ?_
  iterate 2 refine RL.p rfl rfl ?_
  refine RL.done ?_
  refine RK.condF rfl ?_
  refine RK.seq ?_
  refine RK.region ?_
  refine RL.q (.free rfl) rfl rfl (Yld.fieldAddr fo64_7 rfl) ?_
  refine RL.q (.free rfl) rfl rfl (Yld.load p4 rfl (at1 (hB.cell rfl))) ?_
  iterate 2 refine RL.p rfl rfl ?_
  refine RL.knownT (d := 33) rfl rfl (rfl) ?_
  iterate 3 refine RL.no (.no rfl rfl rfl rfl) rfl rfl ?_
  iterate 2 refine RL.p rfl rfl ?_
  refine RL.done ?_
  refine RK.condT rfl ?_
  refine RK.skip ?_
  refine RK.inBlock ?_
  refine RK.end_of Tryz.func33 (res0 rfl) ?_
  exact ⟨_, rfl, w1, hn3.grow, h.grow hn3.grow, Mod.refl _ _⟩
theorem behind_ok (k : Nat) (h : WkAt w p m vi va (nowAt k)) : Fx Tryz.prog 33 [pp p, .agg (pl k).toArray] w (fun u w' => ∃ w1, Grow w w1 ∧ WkAt w' p m vi va (nowAt (k + 1)) ∧ Mod (· = p) w1 w') := by
  match k, h with
  | 0, h => exact behind0_ok h
  | 1, h => exact behind1_ok h
  | k + 2, h => exact behind2_ok h
end
theorem tlen_ok (w : World) (xa qa : Option Addr) (xc qc n k : Nat) : Fx Tryz.prog 14 [.agg (logC (.slice xa n xc) (.slice qa k qc)).toArray] w (fun u w' => u = .int .i64 (min n k : Nat) ∧ Grow w w') := by
  refine enter Tryz.func14 rfl rfl rfl _ (Pick.sub (l := [0]) (.cons rfl .nil)) ?_
  refine RK.seq ?_
  refine RK.region ?_
  refine RL.op (.free rfl) rfl rfl (Does.box rfl) ?_
  rintro _ w1 ⟨b1, rfl, hn1⟩
  have hB : Blk w1 b1 31 (logC (.slice xa n xc) (.slice qa k qc)) := hn1.blk
  refine RL.p rfl rfl ?_
  refine RL.done ?_
  refine RK.seq ?_
  refine RK.region ?_
  refine RL.q (.free rfl) rfl rfl (Yld.fieldAddr fo31_1 rfl) ?_
  refine RL.q (.free rfl) rfl rfl (Yld.load p28 rfl (at1 (hB.cell rfl))) ?_
  refine RL.q (.free rfl) rfl rfl (Yld.lenSl u28 rfl) ?_
  refine RL.q (.free rfl) rfl rfl (Yld.fieldAddr fo31_2 rfl) ?_
  refine RL.q (.free rfl) rfl rfl (Yld.load p29 rfl (at1 (hB.cell rfl))) ?_
  refine RL.q (.free rfl) rfl rfl (Yld.lenSl u29 rfl) ?_
  refine RL.q (.free rfl) rfl rfl (Yld.min2 rfl rfl) ?_
  refine RL.p rfl rfl ?_
  refine RL.done ?_
  refine RK.ret_of Tryz.func14 (res1 rfl rfl) ?_ _
  exact ⟨_, rfl, congrArg (Value.int .i64) (by split <;> omega), hn1.grow⟩
theorem pl_agg : ∀ k, Agg Tryz.prog 64 (pl k).length
  | 0 => a64
  | 1 => a64
  | _ + 2 => a64
theorem pl_size : ∀ k, (Value.agg (pl k).toArray).cells.size = 66
  | 0 => rfl
  | 1 => rfl
  | _ + 2 => rfl
theorem pl_one : ∀ k, (Value.agg (pl k).toArray).cells.toList.all (·.oneCell') = true
  | 0 => rfl
  | 1 => rfl
  | _ + 2 => rfl
theorem min_law {n a x y : Nat} (h : n = min a (min x y)) : (if ((min x y : Nat) : Int) < (if (0 : Int) > (a : Int) then 0 else (a : Int)) then ((min x y : Nat) : Int) else if (0 : Int) > (a : Int) then 0 else (a : Int)) = (n : Int) := by
  rw [if_neg (show ¬ (0 : Int) > (a : Int) by omega)]
  split <;> omega
theorem walk_ok (w : World) (xa qa : Option Addr) (nx xc nq qc : Nat) (I : Nat → World → Prop) (a n : Nat) (hn : n = min a (min nx nq)) (hbig : nx ≤ 1000) (gf : Nat) (cap : Array Value) (hE : Go.Proofs.Enters Tryz.prog gf)
    (hI0 : I 0 w) (hg : ∀ k w1 w2, I k w1 → Grow w1 w2 → I k w2)
    (hm : ∀ k w1 w2 p m now, I k w1 → WkAt w1 p m (.slice xa nx xc) (.slice qa nq qc) now → w.heap.size ≤ p → Mod (· = p) w1 w2 → I k w2)
    (hp : ∀ k w1 p m, k < n → I k w1 → WkAt w1 p m (.slice xa nx xc) (.slice qa nq qc) (nowAt k) → Fx Tryz.prog 32 [pp p, .int .i64 (k : Int)] w1 (fun u w' => u = .agg (pl k).toArray ∧ Grow w1 w'))
    (hs : ∀ k w1 p m, k < n → I k w1 → WkAt w1 p m (.slice xa nx xc) (.slice qa nq qc) (nowAt k) → ∀ b, w.heap.size ≤ b → Blk w1 b 64 (pl k) → Fx Tryz.prog gf ([.agg (pl k).toArray] ++ cap.toList) w1 (fun u w2 => I (k + 1) w2 ∧ WkAt w2 p m (.slice xa nx xc) (.slice qa nq qc) (nowAt k) ∧ Blk w2 b 64 (pl k))) :
    Fx Tryz.prog 13 [.agg (logC (.slice xa nx xc) (.slice qa nq qc)).toArray, .int .i64 (a : Int), .func (.func gf) #[] cap] w (fun u w' => u = .int .u64 (nowAt n) ∧ I n w') := by
  refine enter Tryz.func13 rfl rfl rfl _ (Pick.sub (l := [0, 1, 2]) (.cons rfl (.cons rfl (.cons rfl .nil)))) ?_
  refine RK.seq ?_
  refine RK.region ?_
  refine RL.op (.free rfl) rfl rfl (Does.box rfl) ?_
  rintro _ w1 ⟨b3, rfl, hn3⟩
  have hz3 := hn3.size
  have hB3 : Blk w1 b3 31 (logC (.slice xa nx xc) (.slice qa nq qc)) := hn3.blk
  refine RL.p rfl rfl ?_
  refine RL.done ?_
  refine RK.seq ?_
  refine RK.region ?_
  refine RL.q (.free rfl) rfl rfl (Yld.loadN (cs := logC (.slice xa nx xc) (.slice qa nq qc)) a31 rfl (atN (blkV hB3))) ?_
  refine RL.op (.free rfl) rfl rfl (Does.makeMap Value.string) ?_
  rintro _ w2 ⟨m, rfl, hm2, hM2, hg2, hs2⟩
  have hB2 := hB3.mod hg2 (fun h => h)
  refine RL.q (.free rfl) rfl rfl (Yld.fieldAddr fo31_0 rfl) ?_
  refine RL.q (.free rfl) rfl rfl (Yld.fieldAddr fo24_0 rfl) ?_
  refine RL.q (.free rfl) rfl rfl (Yld.load p9 rfl (at1 (hB2.cell rfl))) ?_
  refine RL.op' (.free rfl) rfl (Does.insert Tryz.underlying88 key9 (k := root) rfl rfl rfl hM2) ?_
  rintro _ w4 ⟨hM4, hm4, hs4⟩
  have hM4' : MapAt Value.string w4 m [(root, .int .i64 0)] := hM4
  have hz2 := hg2.size
  have hg4 : Grow w w4 := (hn3.grow.trans hg2).then hm4 (fun b hb e => by have e' : b = m := e; omega)
  have hB4 := hB2.mod hm4 (fun e => by have e' : b3 = m := e; have := hB3.lt; omega)
  refine RL.p rfl rfl ?_
  refine RL.q (.free rfl) rfl rfl (Yld.build (v := .agg (wkC (.slice xa nx xc) (.slice qa nq qc) m 0).toArray) rfl (fun w => by kernel_rfl)) ?_
  refine RL.op (.free rfl) rfl rfl (Does.box rfl) ?_
  rintro _ w5 ⟨p, rfl, hn5⟩
  have ha5 := hn5.at_
  have hw5 : WkAt w5 p m (.slice xa nx xc) (.slice qa nq qc) 0 := ⟨hn5.blk, hM4'.mod hn5.grow (fun h => h)⟩
  have hg5 := hg4.trans hn5.grow
  have hB5 := hB4.mod hn5.grow (fun h => h)
  have hzz := hg4.size
  have hpw : w.heap.size ≤ p := by omega
  refine RL.p rfl rfl ?_
  refine RL.done ?_
  iterate 2 refine RK.seq ?_
  refine RK.region ?_
  refine RL.p rfl rfl ?_
  refine RL.q (.free rfl) rfl rfl (Yld.max2 rfl rfl) ?_
  refine RL.q (.free rfl) rfl rfl (Yld.loadN (cs := logC (.slice xa nx xc) (.slice qa nq qc)) a31 rfl (atN (blkV hB5))) ?_
  refine RL.op (.free rfl) rfl rfl (Does.call rfl e14 (tlen_ok _ xa qa xc qc nx nq)) ?_
  rintro _ w6 ⟨rfl, hg6⟩
  refine RL.q (.free rfl) rfl rfl (Yld.min2 rfl rfl) ?_
  refine RL.p rfl rfl ?_
  refine RL.done ?_
  refine RK.block ?_
  refine RK.loop (fun k : Nat => [(2, .func (.func gf) #[] cap), (7, pp p), (22, .int .i64 (n : Int)), (23, .int .i64 (k : Int))]) (fun k w' => WkAt w' p m (.slice xa nx xc) (.slice qa nq qc) (nowAt k) ∧ I k w' ∧ k ≤ n) (fun k => n - k) 0 ⟨rfl, rfl, congrArg (fun x => some (Value.int IntKind.i64 x)) (min_law hn), rfl, trivial⟩ ⟨hw5.grow hg6, hg _ _ _ hI0 (hg5.trans hg6), Nat.zero_le _⟩ (fun k w7 hI ih => ?_)
  obtain ⟨hw7, hi7, hk⟩ := hI
  refine RK.seq ?_
  refine RK.region ?_
  refine RL.p rfl rfl ?_
  refine RL.done ?_
  refine RK.seq ?_
  first | refine RK.condD rfl (fun h24 => ?_) (fun h24 => ?_) | refine RK.condN rfl (fun h24 => ?_) (fun h24 => ?_) | refine RK.cond rfl (fun h24 => ?_) (fun h24 => ?_)
  · have hkn : k < n := by omega
    refine RK.skip ?_
    refine RK.seq ?_
    refine RK.block ?_
    refine RK.seq ?_
    refine RK.region ?_
    iterate 2 refine RL.p rfl rfl ?_
    refine RL.done ?_
    refine RK.seq ?_
    refine RK.region ?_
    iterate 2 refine RL.p rfl rfl ?_
    refine RL.op (.free rfl) rfl rfl (Does.call rfl e32 (hp k w7 p m hkn hi7 hw7)) ?_
    rintro _ w8 ⟨rfl, hg8⟩
    refine RL.op (.free rfl) rfl rfl (Does.alloc i64) ?_
    rintro _ w9 ⟨b9, rfl, hn9⟩
    have ha9 := hn9.at_
    refine RL.op' (.free rfl) rfl (Does.storeN i64 rfl rfl (pl_size k) (pl_one k) hn9.blk (Nat.le_refl 66)) ?_
    rintro _ w10 ⟨hb10, hm10, hs10⟩
    have hB10 : Blk w10 b9 64 (pl k) := by
        have h : Blk w10 b9 64 (pl k ++ []) := hb10
        rwa [List.append_nil] at h
    have hg10 : Grow w7 w10 := (hg8.trans hn9.grow).then hm10 (fun b hb e => by have e' : b = b9 := e; have := hg8.size; omega)
    refine RL.done ?_
    refine RK.seq ?_
    refine RK.region ?_
    refine RL.p rfl rfl ?_
    refine RL.q (.free rfl) rfl rfl (Yld.loadN (cs := pl k) (pl_agg k) rfl (atN (blkV hB10))) ?_
    refine RL.op (.free rfl) rfl rfl (Does.callv rfl rfl (by assumption) (hs k w10 p m hkn (hg _ _ _ hi7 hg10) (hw7.grow hg10) b9 (by have := hw7.blk.lt; have := hg8.size; omega) hB10)) ?_
    rintro _ w11 ⟨hi11, hw11, hB11⟩
    refine RL.done ?_
    refine RK.region ?_
    refine RL.p rfl rfl ?_
    refine RL.q (.free rfl) rfl rfl (Yld.loadN (cs := pl k) (pl_agg k) rfl (atN (blkV hB11))) ?_
    refine RL.op (.free rfl) rfl rfl (Does.call rfl e33 (behind_ok k hw11)) ?_
    rintro _ w12 ⟨w13, hg13, hw12, hm12⟩
    refine RL.done ?_
    refine RK.inBlock ?_
    refine RK.region ?_
    refine RL.p rfl rfl ?_
    refine RL.re (d := 35) rfl rfl (succ_i64 (by omega)) ?_
    refine RL.p rfl rfl ?_
    refine RL.done ?_
    exact RK.back (ih (k + 1) _ ⟨hw12, hm _ _ _ _ _ _ (hg _ _ _ hi11 hg13) (hw11.grow hg13) hpw hm12, by omega⟩ (by omega)) ⟨rfl, rfl, rfl, rfl, trivial⟩
  · obtain rfl : k = n := by omega
    refine RK.exit rfl ?_
    refine RK.seq ?_
    refine RK.region ?_
    iterate 2 refine RL.p rfl rfl ?_
    refine RL.q (.free rfl) rfl rfl (Yld.fieldAddr fo90_2 rfl) ?_
    refine RL.q (.free rfl) rfl rfl (Yld.load p22 rfl (at1 (hw7.blk.cell rfl))) ?_
    refine RL.p rfl rfl ?_
    refine RL.done ?_
    refine RK.ret_of Tryz.func13 (res1 rfl rfl) ?_ _
    exact ⟨_, rfl, rfl, hi7⟩
end Go.Proofs.YtghcdngegadkaaaGreat
set_option linter.unusedVariables false
set_option linter.unusedSimpArgs false
set_option maxHeartbeats 400000
set_option maxRecDepth 100000
namespace Go.Proofs.YtghcdngegadkaaaGreat
open Go Go.X
section
variable {α : Type}
def pos (lt : α → α → Bool) (x : α) (L : List α) : Nat := L.length - (L.reverse.takeWhile (lt x)).length
theorem SetAt.of : ∀ {l : List Value} {i : Nat} {v : Value}, i < l.length → SetAt l i v (l.set i v)
  | u :: l, 0, v, _ => .z
  | u :: l, i + 1, v, h => .s (SetAt.of (by simpa using h))
end
end Go.Proofs.YtghcdngegadkaaaGreat
set_option linter.unusedVariables false
set_option linter.unusedSimpArgs false
set_option maxHeartbeats 400000
set_option maxRecDepth 100000
namespace Go.Proofs.YtghcdngegadkaaaGreat
open Go Go.X
end Go.Proofs.YtghcdngegadkaaaGreat
set_option linter.unusedVariables false
set_option linter.unusedSimpArgs false
set_option maxHeartbeats 400000
set_option maxRecDepth 100000
namespace Go.Proofs.YtghcdngegadkaaaGreat
open Go Go.X
def findS (l : List (List Lab)) (ls : List Lab) : Option Nat := l.findIdx? fun x => decide (x = ls)
end Go.Proofs.YtghcdngegadkaaaGreat
set_option linter.unusedVariables false
set_option linter.unusedSimpArgs false
set_option maxHeartbeats 400000
set_option maxRecDepth 100000
namespace Go.Proofs.YtghcdngegadkaaaGreat
open Go Go.X
abbrev LabK := ByteArray × ByteArray
def labK (x : Lab) : LabK := (x.name, x.value)
end Go.Proofs.YtghcdngegadkaaaGreat
set_option linter.unusedVariables false
set_option linter.unusedSimpArgs false
set_option maxHeartbeats 400000
set_option maxRecDepth 100000
namespace Go.Proofs.YtghcdngegadkaaaGreat
open Go Go.X
def addRow1 (id : Int) (r : List (LabK × List Int)) (x : Lab) : List (LabK × List Int) := putM r (labK x) (mkRow ((lookM r (labK x)).getD [] ++ [id]))
def addRows (rows : List (LabK × List Int)) (id : Int) (ls : List Lab) : List (LabK × List Int) := ls.foldl (addRow1 id) rows
end Go.Proofs.YtghcdngegadkaaaGreat
set_option linter.unusedVariables false
set_option linter.unusedSimpArgs false
set_option maxHeartbeats 6400000
set_option maxRecDepth 100000
namespace Go.Proofs.YtghcdngegadkaaaGreat
open Go Go.X
structure Im where
  t : Bool
  n : Nat
  v : Value
  bs : List UInt8
def Im.it (x : Im) : It := (x.t, x.n, x.v)
@[reducible] def imC (x : Im) : List Value := [.bool x.t, .int .u64 (x.n : Int), x.v]
theorem imC_it (l : List Im) : (l.map Im.it).flatMap itC = l.flatMap imC := by rw [List.flatMap_map]; rfl
structure LgN (n : Nat) (w : World) (vi va : Value) (ims : List Im) (qs : List Value) : Prop where
  it : Sl No w vi 3 ims.length (ims.flatMap imC)
  an : Sl No w va 1 qs.length qs
  il : ims.length = n
  ql : qs.length = n
  n3 : n ≤ 3
  raw : ∀ x ∈ ims, Sl No w x.v 1 x.bs.length (bytesV x.bs)
  i0 : 0 < n → ims[0]? = some ⟨true, 5, .slice none 0 0, []⟩
  i1 : 1 < n → ∃ a c, ims[1]? = some ⟨false, 0, .slice a 6 c, [4, 114, 111, 111, 116, 1]⟩ ∧ 6 ≤ c
  i2 : 2 < n → ∃ a c, ims[2]? = some ⟨false, 0, .slice a 1 c, [9]⟩ ∧ 1 ≤ c
  q0 : 0 < n → ∃ a c, qs[0]? = some (.slice a 3 c) ∧ 3 ≤ c ∧ Sl No w (.slice a 3 c) 1 3 (bytesV [0, 0, 5])
  q1 : 1 < n → ∃ a c, qs[1]? = some (.slice a 3 c) ∧ 3 ≤ c ∧ Sl No w (.slice a 3 c) 1 3 (bytesV [0, 1, 1])
  q2 : 2 < n → ∃ a c, qs[2]? = some (.slice a 1 c) ∧ 1 ≤ c ∧ Sl No w (.slice a 1 c) 1 1 (bytesV [1])
theorem LgN.grow {n : Nat} {w w' : World} {vi va : Value} {ims : List Im} {qs : List Value} (h : LgN n w vi va ims qs) (hg : Grow w w') : LgN n w' vi va ims qs :=
  ⟨h.it.mod hg, h.an.mod hg, h.il, h.ql, h.n3, fun x hx => (h.raw x hx).mod hg, h.i0, h.i1, h.i2, fun e => by obtain ⟨a, c, h1, h2, h3⟩ := h.q0 e; exact ⟨a, c, h1, h2, h3.mod hg⟩, fun e => by obtain ⟨a, c, h1, h2, h3⟩ := h.q1 e; exact ⟨a, c, h1, h2, h3.mod hg⟩, fun e => by obtain ⟨a, c, h1, h2, h3⟩ := h.q2 e; exact ⟨a, c, h1, h2, h3.mod hg⟩⟩
theorem LgN.lg {n : Nat} {w : World} {vi va : Value} {ims : List Im} {qs : List Value} (h : LgN n w vi va ims qs) : Lg w vi va (ims.map Im.it) qs := ⟨by rw [imC_it, List.length_map]; exact h.it, h.an⟩
theorem placeN_ok {n k : Nat} {w : World} {p m : Nat} {vi va : Value} {ims : List Im} {qs : List Value} (h : LgN n w vi va ims qs) (hk : k < n) (hw : WkAt w p m vi va (nowAt k)) : Fx Tryz.prog 32 [pp p, .int .i64 (k : Int)] w (fun u w' => u = .agg (pl k).toArray ∧ Grow w w') := by
  have h3 := h.n3
  match k, hk, hw with
  | 0, hk, hw =>
    obtain ⟨qa, qc, h1, h2, h4⟩ := h.q0 hk
    exact place0_ok hw h.lg (by rw [List.getElem?_map, h.i0 hk]; rfl) qa qc h1 h4 h2
  | 1, hk, hw =>
    obtain ⟨qa, qc, h1, h2, h4⟩ := h.q1 hk
    obtain ⟨a, c, h5, h6⟩ := h.i1 hk
    exact place1_ok hw h.lg a c (h.raw _ (List.mem_of_getElem? h5)) h6 (by rw [List.getElem?_map, h5]; rfl) qa qc h1 h4 h2
  | 2, hk, hw =>
    obtain ⟨qa, qc, h1, h2, h4⟩ := h.q2 hk
    obtain ⟨a, c, h5, h6⟩ := h.i2 hk
    exact place2_ok hw h.lg a c (h.raw _ (List.mem_of_getElem? h5)) h6 (by rw [List.getElem?_map, h5]; rfl) qa qc h1 h4 h2
  | k + 3, hk, hw => omega
end Go.Proofs.YtghcdngegadkaaaGreat
set_option linter.unusedVariables false
set_option linter.unusedSimpArgs false
set_option maxHeartbeats 6400000
set_option maxRecDepth 100000
namespace Go.Proofs.YtghcdngegadkaaaGreat
open Go Go.X
theorem Does.convConst {P : Program} {n : Nat} {e : Env} {w : World} {d : Option Tmp} {t el : Nat} {x : Operand} {ty : TypeId} {pos : String} {af : Array Edge} {g : Option (Nat × Bool)} (hS : SlT P t el) (he : P.underlying el = some (.int .u8)) {b k c : Nat} {cs : List Value} (hx : ev e x = some (.slice (some ⟨b, 0, none⟩) k c)) (hb : Blk w b el cs) :
    Does P n e w ⟨d, .convert t t x, ty, pos, af, g⟩ (fun u w' => u = .slice (some ⟨b, 0, none⟩) k c ∧ (∀ j v, cs[j]? = some v → w'.cell? ⟨b, 0 + j, none⟩ = some v) ∧ Mod (· = b) w w' ∧ w'.heap.size = w.heap.size) := by
  have hb' : w.heap[b]? = some (.cells cs.toArray el (0, 0)) := hb
  have hlt := hb.lt
  have hsh : w.shape? b = some (el, cs.length) := by unfold World.shape?; rw [hb']; simp
  have hat : (w.freeze ⟨b, cs.length, none⟩ 1).heap[b]? = some (.cells cs.toArray el (cs.length, cs.length + 1)) := by
    unfold World.freeze
    rw [if_neg (by decide)]
    simp only [Array.getElem?_modify, hb', if_true, Option.map_some]
    rfl
  refine Does.of_run (w' := w.freeze ⟨b, cs.length, none⟩ 1) (v := .slice (some ⟨b, 0, none⟩) k c) (fun a ha => ?_) ⟨rfl, fun j v hj => ?_, ⟨?_, ?_, ?_, ?_, fun i hi hn => ?_⟩, ?_⟩
  · simp [execOp, ha.ev hx, convert, run_underlying hS, run_underlying he, markStringish, hsh]
  · rw [Nat.zero_add]
    unfold World.cell?
    simp only [hat]
    simp [hj]
  · unfold World.freeze; rw [if_neg (by decide)]
  · unfold World.freeze; rw [if_neg (by decide)]
  · unfold World.freeze; rw [if_neg (by decide)]
  · unfold World.freeze; rw [if_neg (by decide)]; simp
  · unfold World.freeze
    rw [if_neg (by decide)]
    have hn' : ¬ b = i := fun e => hn e.symm
    simp only [Array.getElem?_modify, if_neg hn']
  · unfold World.freeze; rw [if_neg (by decide)]; simp
@[reducible] def cfg0 : List Value := [.string root, .int .i64 0, .int .i64 0, .int .i64 0, .int .i64 0, .int .i64 0, .int .i64 0, .int .i64 0, .int .u64 0]
end Go.Proofs.YtghcdngegadkaaaGreat
set_option linter.unusedVariables false
set_option linter.unusedSimpArgs false
set_option maxHeartbeats 400000
set_option maxRecDepth 100000
namespace Go.Proofs.YtghcdngegadkaaaGreat
open Go Go.X
structure St where
  most : Int
  last : Int
  out : List Int
  al : List (Int × List Lab × Nat)
  has : List (Int × List Lab)
  rows : List (LabK × List Int)
def own (p q ix mh mr : Nat) (vo vl : Value) : Nat → Prop := fun b => b = p ∨ b = q ∨ b = mh ∨ b = mr ∨ vo.ownBlock = some b ∨ vl.ownBlock = some b ∨ b = ix
def capS (m : Int) : Int := if 16 < (if 1 > m then 1 else m) then 16 else if 1 > m then 1 else m
def St.new (m : Int) : St := ⟨capS m, 0, [], [], [], []⟩
end Go.Proofs.YtghcdngegadkaaaGreat
set_option linter.unusedVariables false
set_option linter.unusedSimpArgs false
set_option maxHeartbeats 400000
set_option maxRecDepth 100000
namespace Go.Proofs.YtghcdngegadkaaaGreat
open Go Go.X
end Go.Proofs.YtghcdngegadkaaaGreat
set_option linter.unusedVariables false
set_option linter.unusedSimpArgs false
set_option maxHeartbeats 400000
set_option maxRecDepth 100000
namespace Go.Proofs.YtghcdngegadkaaaGreat
open Go Go.X
def fullS (most last : Int) (out : List Int) : Bool := decide (most ≤ out.length ∨ last = 2147483647)
structure Ok (s : St) : Prop where
  last0 : 0 ≤ s.last
  last1 : s.last ≤ 2147483647
  most : s.most ≤ 16
  outLe : (s.out.length : Int) ≤ s.most
  alOut : s.al.length = s.out.length
  has : ∀ t ∈ s.has, t.1 ≤ s.last
  rows : ∀ t ∈ s.rows, (t.2.length : Int) ≤ 6 * s.last
  vals : ∀ a ∈ s.al, a.2.2 < 18446744073709551616
def postS (s : St) (ls : List Lab) (val : Nat) : St × Int × Bool × Int :=
  if isS ls = false then (s, 0, false, 1) else
  match findS (s.al.map (·.2.1)) ls with
  | some i => ({ s with al := s.al.modify i fun a => (a.1, a.2.1, canS val) }, ((s.al[i]?).map (·.1)).getD 0, false, 0)
  | none => if fullS s.most s.last s.out then (s, 0, false, 10) else
    ({ most := s.most, last := s.last + 1, out := s.out ++ [s.last + 1], al := s.al ++ [(s.last + 1, ls, canS val)], has := putM s.has (s.last + 1) ls, rows := addRows s.rows (s.last + 1) ls }, s.last + 1, true, 0)
theorem Ok.new (m : Int) : Ok (St.new m) := by
  refine ⟨by simp [St.new], by simp [St.new], ?_, ?_, rfl, by simp [St.new], by simp [St.new], by simp [St.new]⟩
  · simp only [St.new, capS]; split <;> omega
  · simp only [St.new, capS]; simp; split <;> omega
end Go.Proofs.YtghcdngegadkaaaGreat
set_option linter.unusedVariables false
set_option linter.unusedSimpArgs false
set_option maxHeartbeats 400000
set_option maxRecDepth 100000
namespace Go.Proofs.YtghcdngegadkaaaGreat
open Go Go.X
end Go.Proofs.YtghcdngegadkaaaGreat
set_option linter.unusedVariables false
set_option linter.unusedSimpArgs false
set_option maxHeartbeats 400000
set_option maxRecDepth 100000
namespace Go.Proofs.YtghcdngegadkaaaGreat
open Go Go.X
end Go.Proofs.YtghcdngegadkaaaGreat
set_option linter.unusedVariables false
set_option linter.unusedSimpArgs false
set_option maxHeartbeats 400000
set_option maxRecDepth 100000
namespace Go.Proofs.YtghcdngegadkaaaGreat
open Go Go.X
end Go.Proofs.YtghcdngegadkaaaGreat
set_option linter.unusedVariables false
set_option linter.unusedSimpArgs false
set_option maxHeartbeats 400000
set_option maxRecDepth 100000
namespace Go.Proofs.YtghcdngegadkaaaGreat
open Go Go.X
abbrev Ris (l : List Int) : Prop := l.Pairwise fun x y => x < y
theorem compactUpTo_mem (d : Array Int) : ∀ m, m ≤ d.size → ∀ x, x ∈ Lib.compactUpTo d m ↔ ∃ j, j < m ∧ d[j]! = x := by
  intro m
  induction m with
  | zero => intro _ x; simp [Lib.compactUpTo]
  | succ m ih =>
    intro hm x
    rw [Lib.compactUpTo_succ, List.mem_append, ih (by omega)]
    constructor
    · rintro (⟨j, hj, e⟩ | h)
      · exact ⟨j, by omega, e⟩
      · split at h
        · simp at h; exact ⟨m, by omega, h.symm⟩
        · simp at h
    · rintro ⟨j, hj, e⟩
      by_cases hjm : j = m
      · subst hjm
        cases hk : Lib.keeps d j with
        | true => right; simp [e]
        | false =>
          left
          simp only [Lib.keeps, decide_eq_false_iff_not, not_or, Decidable.not_not] at hk
          exact ⟨j - 1, by omega, by rw [← hk.2]; exact e⟩
      · exact .inl ⟨j, by omega, e⟩
theorem mem_compact (zs : List Int) (x : Int) : x ∈ Lib.compact zs ↔ x ∈ zs := by
  unfold Lib.compact
  rw [compactUpTo_mem _ _ (by simp)]
  constructor
  · rintro ⟨j, hj, e⟩
    have : zs.toArray[j]! = zs[j] := by simp [hj]
    rw [this] at e; subst e; exact List.getElem_mem _
  · intro h
    obtain ⟨j, hj, e⟩ := List.getElem_of_mem h
    exact ⟨j, hj, by simp [hj, e]⟩
theorem mem_mkRow {xs : List Int} {x : Int} : x ∈ mkRow xs ↔ x ∈ xs := by
  unfold mkRow
  rw [mem_compact]
  simp [sortI]
end Go.Proofs.YtghcdngegadkaaaGreat
set_option linter.unusedVariables false
set_option linter.unusedSimpArgs false
set_option maxHeartbeats 400000
set_option maxRecDepth 100000
namespace Go.Proofs.YtghcdngegadkaaaGreat
open Go Go.X
def cutRow (row : List Int) (id : Int) : List Int := (mkRow row).filter fun y => decide (y ≠ id)
theorem mem_cutRow {row : List Int} {id x : Int} : x ∈ cutRow row id ↔ x ∈ row ∧ x ≠ id := by simp [cutRow, mem_mkRow]
def cutRow1 (id : Int) (r : List (LabK × List Int)) (x : Lab) : List (LabK × List Int) :=
  if cutRow ((lookM r (labK x)).getD []) id = [] then cutM (putM r (labK x) (cutRow ((lookM r (labK x)).getD []) id)) (labK x) else putM r (labK x) (cutRow ((lookM r (labK x)).getD []) id)
def dropRows (rows : List (LabK × List Int)) (id : Int) (ls : List Lab) : List (LabK × List Int) := ls.foldl (cutRow1 id) rows
structure RowsOk (rows : List (LabK × List Int)) : Prop where
  nd : (rows.map (·.1)).Nodup
  row : ∀ t ∈ rows, Ris t.2 ∧ t.2 ≠ []
structure IxI (has : List (Int × List Lab)) (rows : List (LabK × List Int)) : Prop where
  nd : (has.map (·.1)).Nodup
  ok : RowsOk rows
  mem : ∀ k id, id ∈ (lookM rows k).getD [] ↔ ∃ ls, (id, ls) ∈ has ∧ ∃ x ∈ ls, labK x = k
theorem IxI.nil : IxI [] [] := ⟨by simp, ⟨by simp, by simp⟩, by simp [lookM, placeM]⟩
end Go.Proofs.YtghcdngegadkaaaGreat
set_option linter.unusedVariables false
set_option linter.unusedSimpArgs false
set_option maxHeartbeats 1000000
set_option maxRecDepth 100000
namespace Go.Proofs.YtghcdngegadkaaaGreat
open Go Go.X
end Go.Proofs.YtghcdngegadkaaaGreat
set_option linter.unusedVariables false
set_option linter.unusedSimpArgs false
set_option maxHeartbeats 400000
set_option maxRecDepth 100000
namespace Go.Proofs.YtghcdngegadkaaaGreat
open Go Go.X
end Go.Proofs.YtghcdngegadkaaaGreat
set_option linter.unusedVariables false
set_option linter.unusedSimpArgs false
set_option maxHeartbeats 800000
set_option maxRecDepth 100000
namespace Go.Proofs.YtghcdngegadkaaaGreat
open Go Go.X
end Go.Proofs.YtghcdngegadkaaaGreat
set_option linter.unusedVariables false
set_option linter.unusedSimpArgs false
set_option maxHeartbeats 400000
set_option maxRecDepth 100000
namespace Go.Proofs.YtghcdngegadkaaaGreat
open Go Go.X
def giveS (out : List Int) (id : Int) : List Int := if out.contains id then cutRow out id else out
end Go.Proofs.YtghcdngegadkaaaGreat
set_option linter.unusedVariables false
set_option linter.unusedSimpArgs false
set_option maxHeartbeats 800000
set_option maxRecDepth 100000
namespace Go.Proofs.YtghcdngegadkaaaGreat
open Go Go.X
end Go.Proofs.YtghcdngegadkaaaGreat
set_option linter.unusedVariables false
set_option linter.unusedSimpArgs false
set_option maxHeartbeats 800000
set_option maxRecDepth 100000
namespace Go.Proofs.YtghcdngegadkaaaGreat
open Go Go.X
def placeS (s : St) (id : Int) : Option Nat := s.al.findIdx? fun a => decide (a.1 = id)
def resolveS (s : St) (id : Int) : St × Int :=
  match placeS s id with
  | none => (s, 5)
  | some i => ({ s with al := s.al.eraseIdx i, out := giveS s.out id, has := cutM s.has id, rows := dropRows s.rows id ((lookM s.has id).getD []) }, 0)
end Go.Proofs.YtghcdngegadkaaaGreat
set_option linter.unusedVariables false
set_option linter.unusedSimpArgs false
set_option maxHeartbeats 800000
set_option maxRecDepth 100000
namespace Go.Proofs.YtghcdngegadkaaaGreat
open Go Go.X
end Go.Proofs.YtghcdngegadkaaaGreat
set_option linter.unusedVariables false
set_option linter.unusedSimpArgs false
set_option maxHeartbeats 400000
set_option maxRecDepth 100000
namespace Go.Proofs.YtghcdngegadkaaaGreat
open Go Go.X
abbrev AlS := Int × List Lab × Nat
def hasOf (al : List AlS) : List (Int × List Lab) := al.map fun a => (a.1, a.2.1)
structure Gd (s : St) : Prop where
  ids : Ris (s.al.map (·.1))
  out : s.out = s.al.map (·.1)
  has : s.has = hasOf s.al
  ix : IxI s.has s.rows
  le : ∀ a ∈ s.al, 1 ≤ a.1 ∧ a.1 ≤ s.last
  sets : ∀ a ∈ s.al, isS a.2.1 = true
theorem Gd.new (m : Int) : Gd (St.new m) := ⟨by simp [St.new], rfl, rfl, IxI.nil, by simp [St.new], by simp [St.new]⟩
end Go.Proofs.YtghcdngegadkaaaGreat
namespace Go.Proofs
open Go.Shelf
def Tryz.sorted61_ren : Go.Shelf.Ren := ⟨fun | 6 => 61 | 8 => 87 | 9 => 75 | 11 => 116 | 13 => 107 | 12 => 106 | 23 => 157 | 24 => 158 | 14 => 148 | 15 => 149 | 16 => 150 | 17 => 151 | 18 => 152 | 19 => 153 | 20 => 154 | 21 => 155 | 22 => 156 | 25 => 179 | 26 => 180 | 27 => 181 | 28 => 182 | 29 => 183 | 30 => 184 | 31 => 195 | n => n, fun | 26 => 3 | 28 => 120 | 24 => 33 | 0 => 0 | 3 => 3 | 37 => 142 | 48 => 219 | 50 => 22 | 4 => 4 | 40 => 212 | 39 => 211 | 45 => 37 | 5 => 5 | 9 => 9 | 51 => 249 | 55 => 252 | 57 => 258 | 58 => 259 | 33 => 149 | n => n, fun | n => n⟩
theorem Tryz.sorted61 : Go.Proofs.SlLaysZI.n6 Tryz.prog Tryz.sorted61_ren := {
  mixed := by kernel_rfl
  f6 := ⟨Tryz.f61.name, by decide, Tryz.func61.trans (congrArg some (by kernel_rfl))⟩
  f8 := ⟨Tryz.f87.name, by decide, Tryz.func87.trans (congrArg some (by kernel_rfl))⟩
  f11 := ⟨Tryz.f116.name, by decide, Tryz.func116.trans (congrArg some (by kernel_rfl))⟩
  t0 := Tryz.underlying0
  a0 := Tryz.isAgg0
  z0 := Tryz.sizeOf0
  v0 := Tryz.zeroValue0
  t24 := Tryz.underlying33
  a24 := Tryz.isAgg33
  z24 := Tryz.sizeOf33
  v24 := Tryz.zeroValue33
  t26 := Tryz.underlying3
  a26 := Tryz.isAgg3
  z26 := Tryz.sizeOf3
  v26 := Tryz.zeroValue3
  t28 := Tryz.underlying120
  a28 := Tryz.isAgg120
  z28 := Tryz.sizeOf120
  v28 := Tryz.zeroValue120
  i26 := by kernel_rfl }
end Go.Proofs
set_option linter.unusedVariables false
set_option linter.unusedSimpArgs false
set_option maxHeartbeats 800000
set_option maxRecDepth 100000
namespace Go.Proofs.YtghcdngegadkaaaGreat
open Go Go.X
def nmL : List ByteArray := [⟨#[115, 101, 118]⟩, ⟨#[106, 111, 98]⟩, ⟨#[104, 111, 115, 116]⟩, ⟨#[95, 120]⟩, ⟨#[90, 111, 110, 101, 57]⟩]
def vlL : List ByteArray := [⟨#[97]⟩, ⟨#[98]⟩, ⟨#[99, 114, 105, 116]⟩, ⟨#[119, 97, 114, 110]⟩, ⟨#[97, 98]⟩, ⟨#[0, 255]⟩, ⟨#[97, 98, 97, 98, 97, 98, 97, 98, 97, 98, 97, 98, 97, 98, 97, 98, 97, 98, 97, 98, 97, 98, 97, 98]⟩]
end Go.Proofs.YtghcdngegadkaaaGreat
set_option linter.unusedVariables false
set_option linter.unusedSimpArgs false
set_option maxHeartbeats 800000
set_option maxRecDepth 100000
namespace Go.Proofs.YtghcdngegadkaaaGreat
open Go Go.X
structure Raw (ls : List Lab) : Prop where
  nd : (ls.map (·.name)).Nodup
  nm : ∀ x ∈ ls, x.name ∈ nmL
  vl : ∀ x ∈ ls, x.value ∈ vlL
theorem Raw.nil : Raw [] := ⟨by simp, by simp, by simp⟩
end Go.Proofs.YtghcdngegadkaaaGreat
set_option linter.unusedVariables false
set_option linter.unusedSimpArgs false
set_option maxHeartbeats 800000
set_option maxRecDepth 100000
namespace Go.Proofs.YtghcdngegadkaaaGreat
open Go Go.X
theorem find_self (ls : List Lab) : findS [ls] ls = some 0 := by simp [findS]
section
variable (ls : List Lab) (his : isS ls = true) (u v : Nat)
def vS1 : St := (postS (St.new 3) ls u).1
def vS2 : St := (postS (vS1 ls u) ls v).1
def vS3 : St := (resolveS (vS2 ls u v) 1).1
def vS4 : St := (postS (vS3 ls u v) ls u).1
include his
theorem v1 : postS (St.new 3) ls u = (vS1 ls u, 1, true, 0) ∧ (vS1 ls u).al = [(1, ls, canS u)] ∧ (vS1 ls u).last = 1 ∧ (vS1 ls u).out = [1] ∧ (vS1 ls u).most = 3 := by
  have hf : fullS (St.new 3).most (St.new 3).last (St.new 3).out = false := by decide
  have hn : findS ((St.new 3).al.map (·.2.1)) ls = none := rfl
  have e : postS (St.new 3) ls u = (⟨(St.new 3).most, (St.new 3).last + 1, (St.new 3).out ++ [(St.new 3).last + 1], (St.new 3).al ++ [((St.new 3).last + 1, ls, canS u)], putM (St.new 3).has ((St.new 3).last + 1) ls, addRows (St.new 3).rows ((St.new 3).last + 1) ls⟩, (St.new 3).last + 1, true, 0) := by
    unfold postS; rw [if_neg (by simp [his]), hn]; simp [hf]
  unfold vS1
  rw [e]
  exact ⟨rfl, rfl, rfl, rfl, rfl⟩
theorem v2 : postS (vS1 ls u) ls v = (vS2 ls u v, 1, false, 0) ∧ (vS2 ls u v).al = [(1, ls, canS v)] ∧ (vS2 ls u v).last = 1 ∧ (vS2 ls u v).out = [1] ∧ (vS2 ls u v).most = 3 := by
  obtain ⟨_, h1, h2, h3, h4⟩ := v1 ls his u
  have hn : findS ((vS1 ls u).al.map (·.2.1)) ls = some 0 := by rw [h1]; exact find_self ls
  have e : postS (vS1 ls u) ls v = ({ vS1 ls u with al := (vS1 ls u).al.modify 0 fun a => (a.1, a.2.1, canS v) }, (((vS1 ls u).al[0]?).map (·.1)).getD 0, false, 0) := by
    unfold postS; rw [if_neg (by simp [his]), hn]
  unfold vS2
  rw [e]
  refine ⟨by rw [h1]; rfl, by simp only; rw [h1]; rfl, h2, h3, h4⟩
theorem v3 : resolveS (vS2 ls u v) 1 = (vS3 ls u v, 0) ∧ (vS3 ls u v).al = [] ∧ (vS3 ls u v).last = 1 ∧ (vS3 ls u v).out = [] ∧ (vS3 ls u v).most = 3 := by
  obtain ⟨_, h1, h2, h3, h4⟩ := v2 ls his u v
  have hp : placeS (vS2 ls u v) 1 = some 0 := by unfold placeS; rw [h1]; rfl
  have e : resolveS (vS2 ls u v) 1 = ({ vS2 ls u v with al := (vS2 ls u v).al.eraseIdx 0, out := giveS (vS2 ls u v).out 1, has := cutM (vS2 ls u v).has 1, rows := dropRows (vS2 ls u v).rows 1 ((lookM (vS2 ls u v).has 1).getD []) }, 0) := by
    unfold resolveS; rw [hp]
  unfold vS3
  rw [e]
  refine ⟨rfl, by simp only; rw [h1]; rfl, h2, ?_, h4⟩
  simp only
  rw [h3]
  have : ∀ x, x ∉ giveS [1] 1 := fun x hx => by
    unfold giveS at hx
    rw [if_pos (by decide), mem_cutRow] at hx
    simp at hx
  exact List.eq_nil_iff_forall_not_mem.2 this
theorem v4 : postS (vS3 ls u v) ls u = (vS4 ls u v, 2, true, 0) ∧ (vS4 ls u v).al = [(2, ls, canS u)] := by
  obtain ⟨_, h1, h2, h3, h4⟩ := v3 ls his u v
  have hf : fullS (vS3 ls u v).most (vS3 ls u v).last (vS3 ls u v).out = false := by rw [h2, h3, h4]; decide
  have hn : findS ((vS3 ls u v).al.map (·.2.1)) ls = none := by rw [h1]; rfl
  have e : postS (vS3 ls u v) ls u = (⟨(vS3 ls u v).most, (vS3 ls u v).last + 1, (vS3 ls u v).out ++ [(vS3 ls u v).last + 1], (vS3 ls u v).al ++ [((vS3 ls u v).last + 1, ls, canS u)], putM (vS3 ls u v).has ((vS3 ls u v).last + 1) ls, addRows (vS3 ls u v).rows ((vS3 ls u v).last + 1) ls⟩, (vS3 ls u v).last + 1, true, 0) := by
    unfold postS; rw [if_neg (by simp [his]), hn]; simp [hf]
  unfold vS4
  rw [e]
  refine ⟨by rw [h2]; rfl, by simp only; rw [h1, h2]; rfl⟩
theorem v5 : resolveS (vS4 ls u v) 1 = (vS4 ls u v, 5) := by
  obtain ⟨_, h1⟩ := v4 ls his u v
  have hp : placeS (vS4 ls u v) 1 = none := by unfold placeS; rw [h1]; rfl
  unfold resolveS; rw [hp]
end
end Go.Proofs.YtghcdngegadkaaaGreat
set_option linter.unusedVariables false
set_option linter.unusedSimpArgs false
set_option maxHeartbeats 800000
set_option maxRecDepth 100000
namespace Go.Proofs.YtghcdngegadkaaaGreat
open Go Go.X
theorem owns_of {w : World} {m : Nat} {l : List (Int × Value)} (h : MapAt (Value.int .i64) w m l) (hn : (l.map (·.1)).Nodup) (hr : ∀ t ∈ l, -9223372036854775808 ≤ t.1 ∧ t.1 ≤ 9223372036854775807) (hl : l.length ≤ maxLen) :
    ∃ D : DataW Unit, w.ownsMap Tryz.prog 3 (fun _ => some (.lit (.bool true), [])) m l.length D ∧ (intKeys D).Perm (l.map (·.1)) ∧ Maps.size D = l.length := by
  obtain ⟨es, c, h1, h2, h3, h4⟩ := h.out
  have hlen : es.toList.length = l.length := by have := congrArg List.length h2; simpa using this
  have hkey : ∀ x : Int, -9223372036854775808 ≤ x ∧ x ≤ 9223372036854775807 → keyOf Tryz.prog 3 (.int .i64 x) = some (.int .i64 x) := fun x hx => by
    simp [keyOf, Tryz.underlying3, mapKey, Lit.wf, IntKind.min, IntKind.max, IntKind.signed, IntKind.bits]
    omega
  have hread : ∀ x ∈ es.toList, ∃ k : Int, x.key = .int .i64 k ∧ -9223372036854775808 ≤ k ∧ k ≤ 9223372036854775807 := fun x hx => by
    have h5 : (x.key, x.val) ∈ l.map fun p => (Value.int .i64 p.1, p.2) := by rw [← h2]; exact List.mem_map_of_mem (f := fun e : MapEntry => (e.key, e.val)) hx
    obtain ⟨p, hp, e⟩ := List.mem_map.1 h5
    simp only [Prod.mk.injEq] at e
    exact ⟨p.1, e.1.symm, hr p hp⟩
  have hrd : ∀ x ∈ es.toList, ∀ k : Int, x.key = .int .i64 k → WideElems.rd (H := Unit) Tryz.prog 3 (fun _ => some (.lit (.bool true), [])) x = some (.int .i64 k, .lit (.bool true)) := fun x hx k hk => by
    obtain ⟨k', hk', h6⟩ := hread x hx
    rw [hk] at hk'
    cases hk'
    simp [WideElems.rd, hk, hkey k h6]
  have hkeys : es.toList.map (·.key) = (l.map (·.1)).map (Value.int .i64) := by
    have := congrArg (List.map fun p : Value × Value => p.1) h2
    rw [List.map_map, List.map_map] at this
    rw [List.map_map]
    exact this
  have hg : es.toList.map (WideElems.rg (H := Unit) Tryz.prog 3 fun _ => some (.lit (.bool true), [])) = (l.map (·.1)).map fun k => ((Lit.int .i64 k : Lit), (DataW.lit (.bool true) : DataW Unit)) := by
    apply List.ext_getElem?
    intro i
    have h7 := congrArg (fun q => q[i]?) hkeys
    simp only [List.getElem?_map] at h7 ⊢
    cases he : es.toList[i]? with
    | none => rw [he] at h7; cases hll : l[i]? with
      | none => rfl
      | some p => rw [hll] at h7; simp at h7
    | some x =>
      rw [he] at h7
      cases hll : l[i]? with
      | none => rw [hll] at h7; simp at h7
      | some p =>
        rw [hll] at h7
        simp at h7
        have := hrd x (List.mem_of_getElem? he) p.1 h7
        simp [WideElems.rg, this]
  have hnd : (es.toList.map (·.key)).Nodup := by
    rw [hkeys]
    exact List.pairwise_map.2 (hn.imp fun {a b} hne e => hne (by simpa using e))
  have hsz : es.size = l.length := by rw [← hlen]; simp
  refine ⟨.map ((es.toList.map (WideElems.rg (H := Unit) Tryz.prog 3 fun _ => some (.lit (.bool true), []))).foldr DataW.insert []), ⟨es, c, h1, ⟨by omega, ⟨h4, h3, hnd⟩, fun x hx => by obtain ⟨k, hk, _⟩ := hread x hx; exact ⟨_, hrd x hx k hk⟩⟩, by omega, rfl⟩, ?_, ?_⟩
  · rw [hg]
    refine ((WideShapes.sorted_perm _).map _).trans ?_
    rw [List.map_map]
    have : ((fun p : Lit × DataW Unit => Go.intOf p.1) ∘ fun k => ((Lit.int .i64 k : Lit), (DataW.lit (.bool true) : DataW Unit))) = id := by funext k; rfl
    rw [this, List.map_id]
  · rw [hg, Maps.size_eq, (WideShapes.sorted_perm _).length_eq]
    simp
theorem sortsI (m : Nat) : AnyZI.SortsIn Tryz.prog Tryz.sorted61_ren Fence.wide m :=
  ⟨fun blk off cap ss W hH hblk hsz => callsIn_wide.2 (Tryz.slices_Sort_int blk off cap ss W hH hblk hsz), fun p cap W => callsIn_wide.2 (Tryz.slices_Sort_int_none p cap W)⟩
end Go.Proofs.YtghcdngegadkaaaGreat
set_option linter.unusedVariables false
set_option linter.unusedSimpArgs false
set_option maxHeartbeats 800000
set_option maxRecDepth 100000
namespace Go.Proofs.YtghcdngegadkaaaGreat
open Go Go.X
theorem row_of {w : World} {base : Nat} {t : TypeId} {sz : Nat} {v : Value} {k : Nat} {xs : List Value} (h : w.ownsRow base t sz v k xs) : Row w t sz v k xs ∧ Fresh base v := by
  refine ⟨⟨h.1, ?_⟩, fun b e => ?_⟩
  · rcases h.2 with h2 | ⟨g, cap, cur, h2, _, r⟩
    · exact .inl h2
    · exact .inr ⟨g, cap, cur, h2, Nat.zero_le _, r⟩
  · rcases h.2 with ⟨rfl, _⟩ | ⟨g, cap, cur, rfl, hb, _⟩
    · simp [Value.ownBlock] at e
    · simp [Value.ownBlock] at e; omega
theorem sortI_perm {l l' : List Int} (h : l.Perm l') : l.mergeSort (fun x y => decide (x ≤ y)) = sortI l' := mergeSort_of_perm_i h
end Go.Proofs.YtghcdngegadkaaaGreat
set_option linter.unusedVariables false
set_option linter.unusedSimpArgs false
set_option maxHeartbeats 800000
set_option maxRecDepth 100000
namespace Go.Proofs.YtghcdngegadkaaaGreat
open Go Go.X
end Go.Proofs.YtghcdngegadkaaaGreat
set_option linter.unusedVariables false
set_option linter.unusedSimpArgs false
set_option maxHeartbeats 800000
set_option maxRecDepth 100000
namespace Go.Proofs.YtghcdngegadkaaaGreat
open Go Go.X
end Go.Proofs.YtghcdngegadkaaaGreat
set_option linter.unusedVariables false
set_option linter.unusedSimpArgs false
set_option maxHeartbeats 800000
set_option maxRecDepth 100000
namespace Go.Proofs.YtghcdngegadkaaaGreat
open Go Go.X
end Go.Proofs.YtghcdngegadkaaaGreat
namespace Go.Proofs
open Go.Shelf
def Tryz.keys62_ren : Go.Shelf.Ren := ⟨fun | 7 => 62 | 10 => 88 | n => n, fun | 23 => 84 | 26 => 3 | 3 => 74 | 28 => 120 | 0 => 0 | 27 => 119 | 33 => 149 | 4 => 4 | n => n, fun | n => n⟩
theorem Tryz.keys62 : Go.Proofs.SlLaysZI.n7 Tryz.prog Tryz.keys62_ren := {
  mixed := by kernel_rfl
  f7 := ⟨Tryz.f62.name, by decide, Tryz.func62.trans (congrArg some (by kernel_rfl))⟩
  f10 := ⟨Tryz.f88.name, by decide, Tryz.func88.trans (congrArg some (by kernel_rfl))⟩
  t0 := Tryz.underlying0
  a0 := Tryz.isAgg0
  z0 := Tryz.sizeOf0
  v0 := Tryz.zeroValue0
  t4 := Tryz.underlying4
  a4 := Tryz.isAgg4
  z4 := Tryz.sizeOf4
  v4 := Tryz.zeroValue4
  t23 := Tryz.underlying84
  a23 := Tryz.isAgg84
  z23 := Tryz.sizeOf84
  v23 := Tryz.zeroValue84
  t26 := Tryz.underlying3
  a26 := Tryz.isAgg3
  z26 := Tryz.sizeOf3
  v26 := Tryz.zeroValue3
  t27 := Tryz.underlying119
  a27 := Tryz.isAgg119
  z27 := Tryz.sizeOf119
  v27 := Tryz.zeroValue119
  t28 := Tryz.underlying120
  a28 := Tryz.isAgg120
  z28 := Tryz.sizeOf120
  v28 := Tryz.zeroValue120
  t33 := Tryz.underlying149
  a33 := Tryz.isAgg149
  z33 := Tryz.sizeOf149
  v33 := Tryz.zeroValue149 }
end Go.Proofs
set_option linter.unusedVariables false
set_option linter.unusedSimpArgs false
set_option maxHeartbeats 800000
set_option maxRecDepth 100000
namespace Go.Proofs.YtghcdngegadkaaaGreat
open Go Go.X
theorem keysCallA (mb : Option Nat) (w : World) : Fx Tryz.prog 62 [.map mb] w (fun u w' => u = .func (.func 88) #[] #[.pointer (some ⟨w.heap.size, 0, none⟩)] ∧ w' = w.alloc (.cells #[.map mb] 84)) := by
  refine Calls.mono ((callsIn_wide (n := 5)).1 (AnyZI.keys_in Tryz.keys62 Fence.wide 5 trivial rfl mb w)) ?_
  rintro e w' ⟨rfl, rfl⟩
  exact ⟨_, rfl, rfl, rfl⟩
theorem sortedCallA {w : World} {m : Nat} {l : List (Int × Value)} (h : MapAt (Value.int .i64) w m l) (hn : (l.map (·.1)).Nodup) (hr : ∀ t ∈ l, -9223372036854775808 ≤ t.1 ∧ t.1 ≤ 9223372036854775807) (hl : l.length ≤ 1000000) :
    Fx Tryz.prog 61 [.func (.func 88) #[] #[.pointer (some ⟨w.heap.size, 0, none⟩)]] (w.alloc (.cells #[.map (some m)] 84)) (fun u w' => Row w' 3 1 u (sortI (l.map (·.1))).length (ints (sortI (l.map (·.1)))) ∧ Fresh w.heap.size u ∧ Grow w w') := by
  have hml : (1000000 : Nat) ≤ maxLen := by decide
  obtain ⟨D, hown, hperm, hsize⟩ := owns_of h hn hr (by omega)
  have hbl := hown.lt
  have hseq : SeqGives Fence.wide 2 Tryz.prog 88 #[.pointer (some ⟨w.heap.size, 0, none⟩)] encZ (fun ss => ss.Perm (intKeys D)) (Maps.size D) (w.alloc (.cells #[.map (some m)] 84)) :=
    AnyZI.keys_gives (ρ := Tryz.keys62_ren) { Tryz.keys62 with } Fence.wide _ trivial rfl (by omega) w.heap.size m l.length D _ (by simp) (by simp) (by
      obtain ⟨es, clock, hb, Ft, hs, hD⟩ := hown
      exact ⟨es, clock, (RowKit.Below.heap_alloc _ _ m hbl).trans hb, Ft, hs, hD⟩)
  refine Calls.mono ((callsIn_wide (n := 5)).1 (AnyZI.sorted_in Tryz.sorted61 Fence.wide 5 trivial trivial trivial trivial rfl (by omega) (sortsI _) (enters_of Tryz.func75 (by kernel_rfl) rfl) 88 #[.pointer (some ⟨w.heap.size, 0, none⟩)] trivial (enters_of Tryz.func88 (by kernel_rfl) rfl) _ _ (by omega) (by omega) _ hseq)) ?_
  rintro e w' ⟨v, ss, rfl, hS, hrow, _, hb⟩
  obtain ⟨h1, h2⟩ := row_of hrow
  have e1 := sortI_perm (hS.trans hperm)
  have e2 : ss.length = (sortI (l.map (·.1))).length := by rw [sortI_len, ← (hS.trans hperm).length_eq]
  refine ⟨v, rfl, ?_, fun b e => ?_, (Mod.alloc No w _).trans (Grow.of_below hb)⟩
  · rw [← e2, ← e1]; exact h1
  · have := h2 b e
    simp at this
    omega
end Go.Proofs.YtghcdngegadkaaaGreat
set_option linter.unusedVariables false
set_option linter.unusedSimpArgs false
set_option maxHeartbeats 6400000
set_option maxRecDepth 100000
namespace Go.Proofs.YtghcdngegadkaaaGreat
open Go Go.X
theorem pl_len : ∀ k, (pl k).length = 66
  | 0 => rfl
  | 1 => rfl
  | _ + 2 => rfl
theorem atSee_ok (k : Nat) {w : World} {b6 : Nat} {cs : List Value} (h6 : Blk w b6 64 cs) (hl : cs.length = 66) : Fx Tryz.prog 36 [.agg (pl k).toArray, pp b6] w (fun u w' => ∃ w1, Grow w w1 ∧ Blk w' b6 64 (pl k) ∧ Mod (· = b6) w1 w') := by
  refine enter Tryz.func36 rfl rfl rfl _ (Pick.sub (l := [0, 1]) (.cons rfl (.cons rfl .nil))) ?_
  refine RK.seq ?_
  refine RK.region ?_
  refine RL.op (.free rfl) rfl rfl (Does.box rfl) ?_
  rintro _ w1 ⟨b2, rfl, hn2⟩
  have hB : Blk w1 b2 64 (pl k) := hn2.blk
  refine RL.done ?_
  refine RK.region ?_
  refine RL.q (.free rfl) rfl rfl (Yld.loadN (cs := pl k) (pl_agg k) rfl (atN (blkV hB))) ?_
  refine RL.op' (.free rfl) rfl (Does.storeN i64 rfl rfl (pl_size k) (pl_one k) (h6.mod hn2.grow (fun h => h)) (by omega)) ?_
  rintro _ w2 ⟨hb2, hm2, hs2⟩
  refine RL.done ?_
  refine RK.end_of Tryz.func36 (res0 rfl) ?_
  exact ⟨_, rfl, w1, hn2.grow, by
      have e : cs.drop (0 + 66) = [] := List.drop_of_length_le (by omega)
      rw [e] at hb2
      have h : Blk w2 b6 64 (pl k ++ []) := hb2
      rwa [List.append_nil] at h, hm2⟩
theorem at_ok {n : Nat} {w : World} {xa qa : Option Addr} {xc qc : Nat} {ims : List Im} {qs : List Value} (h : LgN n w (.slice xa n xc) (.slice qa n qc) ims qs) (i : Nat) (hi : i < n) : Fx Tryz.prog 20 [.agg (logC (.slice xa n xc) (.slice qa n qc)).toArray, .int .i64 (i : Int)] w (fun u w' => u = .tuple #[.agg (pl i).toArray, .bool true] ∧ Grow w w') := by
  have hn3 := h.n3
  refine enter Tryz.func20 rfl rfl rfl _ (Pick.sub (l := [0, 1]) (.cons rfl (.cons rfl .nil))) ?_
  refine RK.seq ?_
  refine RK.region ?_
  refine RL.op (.free rfl) rfl rfl (Does.box rfl) ?_
  rintro _ w1 ⟨b2, rfl, hn2⟩
  have hB2 : Blk w1 b2 31 (logC (.slice xa n xc) (.slice qa n qc)) := hn2.blk
  refine RL.op (.free rfl) rfl rfl (Does.alloc i64) ?_
  rintro _ w2 ⟨b4, rfl, hn4⟩
  refine RL.p rfl rfl ?_
  refine RL.done ?_
  iterate 2 refine RK.seq ?_
  refine RK.region ?_
  iterate 3 refine RL.p rfl rfl ?_
  refine RL.knownF (d := 9) rfl rfl (decide_eq_false (by omega)) ?_
  refine RL.q (.yes rfl rfl rfl) rfl rfl (Yld.pure rfl) ?_
  refine RL.q (.yes rfl rfl rfl) rfl rfl (Yld.loadN (cs := logC (.slice xa n xc) (.slice qa n qc)) a31 rfl (atN (blkV (hB2.mod hn4.grow (fun h => h))))) ?_
  refine RL.op (.yes rfl rfl rfl) rfl rfl (Does.call rfl e14 (tlen_ok _ xa qa xc qc n n)) ?_
  rintro _ w3 ⟨rfl, hg3⟩
  refine RL.q (.yes rfl rfl rfl) rfl rfl (Yld.pure rfl) ?_
  refine RL.p rfl rfl ?_
  refine RL.done ?_
  refine RK.condF (hcF rfl (decide_eq_false (by omega))) ?_
  refine RK.skip ?_
  refine RK.seq ?_
  refine RK.region ?_
  refine RL.op (.free rfl) rfl rfl (Does.alloc i64) ?_
  rintro _ w4 ⟨b6, rfl, hn6⟩
  have ha2 := hn2.at_
  have hz2 := hn2.size
  have ha4 := hn4.at_
  have hz4 := hn4.size
  have ha6 := hn6.at_
  have hz6 := hn6.size
  have hz3 := hg3.size
  have hg34 := hg3.trans hn6.grow
  have hg24 := hn4.grow.trans hg34
  have hg04 := hn2.grow.trans hg24
  refine RL.done ?_
  refine RK.seq ?_
  refine RK.region ?_
  refine RL.q (.free rfl) rfl rfl (Yld.loadN (cs := logC (.slice xa n xc) (.slice qa n qc)) a31 rfl (atN (blkV (hB2.mod hg24 (fun h => h))))) ?_
  iterate 2 refine RL.p rfl rfl ?_
  refine RL.re (d := 18) rfl rfl (succ_i64 (by omega)) ?_
  refine RL.p rfl rfl ?_
  refine RL.op (.free rfl) rfl rfl (Does.call rfl e13 (walk_ok _ xa qa n xc n qc (fun k w' => Mod (· = b6) w4 w' ∧ ∃ cs, Blk w' b6 64 cs ∧ cs.length = 66 ∧ ∀ j, k = j + 1 → cs = pl j) (i + 1) (i + 1) (by omega) (by omega) 36 #[pp b6] e36 ⟨Mod.refl _ _, _, hn6.blk, rfl, fun j e => by omega⟩ (fun k w1 w2 hi hg => by
      obtain ⟨hm, cs, h1, h2, h3⟩ := hi
      exact ⟨hm.trans (Mod.any' hg), cs, h1.mod hg (fun h => h), h2, h3⟩) (fun k w1 w2 p m now hi hw hp hm => by
      obtain ⟨hm1, cs, h1, h2, h3⟩ := hi
      exact ⟨hm1.then hm (fun x hx e => by have e' : x = p := e; omega), cs, h1.mod hm (fun e => h1.ty.ne hw.blk.ty rfl e), h2, h3⟩) (fun k w1 p m hk hi hw => placeN_ok (h.grow (hg04.then hi.1 (fun x hx e => by have e' : x = b6 := e; omega))) (by omega) hw) (fun k w1 p m hk hi hw b hwb hb => by
      obtain ⟨hm1, cs, h1, h2, h3⟩ := hi
      refine (atSee_ok k h1 h2).mono ?_
      rintro u w2' ⟨w3', hg', hb', hm'⟩
      refine ⟨⟨(hm1.trans (Mod.any' hg')).trans hm', pl k, hb', pl_len k, fun j e => by cases e; rfl⟩, ⟨(hw.grow hg').blk.mod hm' (fun e => hw.blk.ty.ne h1.ty rfl e), (hw.grow hg').map.mod hm' (fun e => h1.ty.nem hw.map.mp e.symm)⟩, (hb.mod hg' (fun h => h)).mod hm' (fun e => by have e' : b = b6 := e; omega)⟩))) ?_
  rintro _ w5 ⟨rfl, hi5⟩
  obtain ⟨hm5, cs, h5, hl5, he5⟩ := hi5
  obtain rfl := he5 i rfl
  refine RL.done ?_
  refine RK.seq ?_
  refine RK.region ?_
  refine RL.q (.free rfl) rfl rfl (Yld.loadN (cs := pl i) (pl_agg i) rfl (atN (blkV h5))) ?_
  refine RL.op' (.free rfl) rfl (Does.storeN i64 rfl rfl (pl_size i) (pl_one i) ((hn4.blk.mod hg34 (fun h => h)).mod hm5 (fun e => by have e' : b4 = b6 := e; omega)) (Nat.le_refl 66)) ?_
  rintro _ w6 ⟨hb6, hm6, hs6⟩
  have hB6 : Blk w6 b4 64 (pl i) := by
      have h : Blk w6 b4 64 (pl i ++ []) := hb6
      rwa [List.append_nil] at h
  refine RL.p rfl rfl ?_
  refine RL.done ?_
  refine RK.ret_of Tryz.func20 (resCT (cs := pl i) rfl rfl (pl_agg i) hB6 rfl) ?_ _
  exact ⟨_, rfl, rfl, (hg04.then hm5 (fun x hx e => by have e' : x = b6 := e; omega)).then hm6 (fun x hx e => by have e' : x = b4 := e; omega)⟩
theorem owner1_ok {n : Nat} {w : World} {xa qa : Option Addr} {xc qc : Nat} {ims : List Im} {qs : List Value} (h : LgN n w (.slice xa n xc) (.slice qa n qc) ims qs) (hi : 1 < n) : Fx Tryz.prog 8 [.agg (logC (.slice xa n xc) (.slice qa n qc)).toArray, .int .i64 1] w (fun u w' => u = .tuple #[.int .i64 0, .bool true] ∧ Grow w w') := by
  refine enter Tryz.func8 rfl rfl rfl _ (Pick.sub (l := [0, 1]) (.cons rfl (.cons rfl .nil))) ?_
  refine RK.seq ?_
  refine RK.region ?_
  refine RL.op (.free rfl) rfl rfl (Does.box rfl) ?_
  rintro _ w1 ⟨b2, rfl, hn2⟩
  have hB2 : Blk w1 b2 31 (logC (.slice xa n xc) (.slice qa n qc)) := hn2.blk
  iterate 2 refine RL.p rfl rfl ?_
  refine RL.done ?_
  refine RK.seq ?_
  refine RK.region ?_
  refine RL.q (.free rfl) rfl rfl (Yld.loadN (cs := logC (.slice xa n xc) (.slice qa n qc)) a31 rfl (atN (blkV hB2))) ?_
  refine RL.p rfl rfl ?_
  refine RL.op (.free rfl) rfl rfl (Does.call rfl e20 (at_ok (h.grow hn2.grow) 1 hi)) ?_
  rintro _ w2 ⟨rfl, hg2⟩
  iterate 3 refine RL.p rfl rfl ?_
  refine RL.op (.free rfl) rfl rfl (Does.alloc i64) ?_
  rintro _ w3 ⟨b6, rfl, hn6⟩
  have ha6 := hn6.at_
  refine RL.op' (.free rfl) rfl (Does.storeN i64 rfl rfl rfl rfl hn6.blk (Nat.le_refl 66)) ?_
  rintro _ w4 ⟨hb4, hm4, hs4⟩
  have hB4 : Blk w4 b6 64 pl1 := hb4
  have hg4 : Grow w w4 := ((hn2.grow.trans hg2).trans hn6.grow).then hm4 (fun x hx e => by have e' : x = b6 := e; have := (hn2.grow.trans hg2).size; omega)
  refine RL.p rfl rfl ?_
  refine RL.done ?_
  iterate 2 refine RK.seq ?_
  refine RK.region ?_
  iterate 3 refine RL.p rfl rfl ?_
  refine RL.knownF (d := 16) rfl rfl (rfl) ?_
  refine RL.q (.yes rfl rfl rfl) rfl rfl (Yld.fieldAddr fo64_4 rfl) ?_
  refine RL.q (.yes rfl rfl rfl) rfl rfl (Yld.load p3 rfl (at1 (hB4.cell rfl))) ?_
  refine RL.q (.yes rfl rfl rfl) rfl rfl (Yld.pure rfl) ?_
  refine RL.p rfl rfl ?_
  refine RL.done ?_
  refine RK.condF (hcF rfl (rfl)) ?_
  refine RK.skip ?_
  refine RK.seq ?_
  refine RK.region ?_
  refine RL.q (.free rfl) rfl rfl (Yld.fieldAddr fo64_4 rfl) ?_
  refine RL.q (.free rfl) rfl rfl (Yld.load p3 rfl (at1 (hB4.cell rfl))) ?_
  iterate 2 refine RL.p rfl rfl ?_
  refine RL.done ?_
  refine RK.ret_of Tryz.func8 (res2 rfl rfl rfl) ?_ _
  exact ⟨_, rfl, rfl, hg4⟩
theorem owner0_ok {n : Nat} {w : World} {xa qa : Option Addr} {xc qc : Nat} {ims : List Im} {qs : List Value} (h : LgN n w (.slice xa n xc) (.slice qa n qc) ims qs) (hi : 0 < n) : Fx Tryz.prog 8 [.agg (logC (.slice xa n xc) (.slice qa n qc)).toArray, .int .i64 0] w (fun u w' => u = .tuple #[.int .i64 0, .bool false] ∧ Grow w w') := by
  refine enter Tryz.func8 rfl rfl rfl _ (Pick.sub (l := [0, 1]) (.cons rfl (.cons rfl .nil))) ?_
  refine RK.seq ?_
  refine RK.region ?_
  refine RL.op (.free rfl) rfl rfl (Does.box rfl) ?_
  rintro _ w1 ⟨b2, rfl, hn2⟩
  have hB2 : Blk w1 b2 31 (logC (.slice xa n xc) (.slice qa n qc)) := hn2.blk
  iterate 2 refine RL.p rfl rfl ?_
  refine RL.done ?_
  refine RK.seq ?_
  refine RK.region ?_
  refine RL.q (.free rfl) rfl rfl (Yld.loadN (cs := logC (.slice xa n xc) (.slice qa n qc)) a31 rfl (atN (blkV hB2))) ?_
  refine RL.p rfl rfl ?_
  refine RL.op (.free rfl) rfl rfl (Does.call rfl e20 (at_ok (h.grow hn2.grow) 0 hi)) ?_
  rintro _ w2 ⟨rfl, hg2⟩
  iterate 3 refine RL.p rfl rfl ?_
  refine RL.op (.free rfl) rfl rfl (Does.alloc i64) ?_
  rintro _ w3 ⟨b6, rfl, hn6⟩
  have ha6 := hn6.at_
  refine RL.op' (.free rfl) rfl (Does.storeN i64 rfl rfl rfl rfl hn6.blk (Nat.le_refl 66)) ?_
  rintro _ w4 ⟨hb4, hm4, hs4⟩
  have hB4 : Blk w4 b6 64 pl0 := hb4
  have hg4 : Grow w w4 := ((hn2.grow.trans hg2).trans hn6.grow).then hm4 (fun x hx e => by have e' : x = b6 := e; have := (hn2.grow.trans hg2).size; omega)
  refine RL.p rfl rfl ?_
  refine RL.done ?_
  iterate 2 refine RK.seq ?_
  refine RK.region ?_
  iterate 3 refine RL.p rfl rfl ?_
  refine RL.knownF (d := 16) rfl rfl (rfl) ?_
  refine RL.q (.yes rfl rfl rfl) rfl rfl (Yld.fieldAddr fo64_4 rfl) ?_
  refine RL.q (.yes rfl rfl rfl) rfl rfl (Yld.load p3 rfl (at1 (hB4.cell rfl))) ?_
  refine RL.q (.yes rfl rfl rfl) rfl rfl (Yld.pure rfl) ?_
  refine RL.p rfl rfl ?_
  refine RL.done ?_
  refine RK.condT (hcT rfl (rfl)) ?_
  refine RK.seq ?_
  refine RK.region ?_
  iterate 2 refine RL.p rfl rfl ?_
  refine RL.done ?_
  refine RK.ret_of Tryz.func8 (res2 rfl rfl rfl) ?_ _
  exact ⟨_, rfl, rfl, hg4⟩
theorem nowSee_ok (v : Value) (w : World) : Fx Tryz.prog 26 [v] w (fun u w' => Grow w w') := by
  refine enter Tryz.func26 rfl rfl rfl _ (Pick.sub (l := [0]) (.cons rfl .nil)) ?_
  refine RK.region ?_
  refine RL.op (.free rfl) rfl rfl (Does.box rfl) ?_
  rintro _ w1 ⟨b1, rfl, hn1⟩
  refine RL.done ?_
  refine RK.end_of Tryz.func26 (res0 rfl) ?_
  exact ⟨_, rfl, hn1.grow⟩
theorem tnow_ok {n : Nat} {w : World} {xa qa : Option Addr} {xc qc : Nat} {ims : List Im} {qs : List Value} (h : LgN n w (.slice xa n xc) (.slice qa n qc) ims qs) (i : Nat) (hi : i < n) : Fx Tryz.prog 10 [.agg (logC (.slice xa n xc) (.slice qa n qc)).toArray, .int .i64 (i : Int)] w (fun u w' => u = .int .u64 (nowAt i) ∧ Grow w w') := by
  have hn3 := h.n3
  refine enter Tryz.func10 rfl rfl rfl _ (Pick.sub (l := [0, 1]) (.cons rfl (.cons rfl .nil))) ?_
  refine RK.seq ?_
  refine RK.region ?_
  refine RL.op (.free rfl) rfl rfl (Does.box rfl) ?_
  rintro _ w1 ⟨b2, rfl, hn2⟩
  have hz2 := hn2.size
  have hB2 : Blk w1 b2 31 (logC (.slice xa n xc) (.slice qa n qc)) := hn2.blk
  refine RL.p rfl rfl ?_
  refine RL.done ?_
  refine RK.seq ?_
  refine RK.region ?_
  refine RL.q (.free rfl) rfl rfl (Yld.loadN (cs := logC (.slice xa n xc) (.slice qa n qc)) a31 rfl (atN (blkV hB2))) ?_
  refine RL.p rfl rfl ?_
  refine RL.op (.free rfl) rfl rfl (Does.call rfl e13 (walk_ok _ xa qa n xc n qc (fun k w' => Grow w1 w') i i (by omega) (by omega) 26 #[] e26 (Mod.refl _ _) (fun k w1 w2 hi hg => hi.trans hg) (fun k w2 w3 p m now hi hw hp hm => hi.then hm (fun x hx e => by have e' : x = p := e; omega)) (fun k w2 p m hk hi hw => placeN_ok (h.grow (hn2.grow.trans hi)) (by omega) hw) (fun k w2 p m hk hi hw b hwb hb => by
      refine (nowSee_ok _ w2).mono ?_
      rintro u w3 hg
      exact ⟨hi.trans hg, hw.grow hg, hb.mod hg (fun h => h)⟩))) ?_
  rintro _ w5 ⟨rfl, hi5⟩
  refine RL.p rfl rfl ?_
  refine RL.done ?_
  refine RK.ret_of Tryz.func10 (res1 rfl rfl) ?_ _
  exact ⟨_, rfl, rfl, hn2.grow.trans hi5⟩
theorem why1_ok {n : Nat} {w : World} {xa qa : Option Addr} {xc qc : Nat} {ims : List Im} {qs : List Value} (h : LgN n w (.slice xa n xc) (.slice qa n qc) ims qs) (hi : 1 < n) : Fx Tryz.prog 9 [.agg (logC (.slice xa n xc) (.slice qa n qc)).toArray, .int .i64 1] w (fun u w' => u = .tuple #[.slice none 0 0, .slice none 0 0, .bool false] ∧ Grow w w') := by
  refine enter Tryz.func9 rfl rfl rfl _ (Pick.sub (l := [0, 1]) (.cons rfl (.cons rfl .nil))) ?_
  refine RK.seq ?_
  refine RK.region ?_
  refine RL.op (.free rfl) rfl rfl (Does.box rfl) ?_
  rintro _ w1 ⟨b2, rfl, hn2⟩
  have hB2 : Blk w1 b2 31 (logC (.slice xa n xc) (.slice qa n qc)) := hn2.blk
  iterate 3 refine RL.p rfl rfl ?_
  refine RL.done ?_
  refine RK.seq ?_
  refine RK.region ?_
  refine RL.q (.free rfl) rfl rfl (Yld.loadN (cs := logC (.slice xa n xc) (.slice qa n qc)) a31 rfl (atN (blkV hB2))) ?_
  refine RL.p rfl rfl ?_
  refine RL.op (.free rfl) rfl rfl (Does.call rfl e20 (at_ok (h.grow hn2.grow) 1 hi)) ?_
  rintro _ w2 ⟨rfl, hg2⟩
  iterate 3 refine RL.p rfl rfl ?_
  refine RL.op (.free rfl) rfl rfl (Does.alloc i64) ?_
  rintro _ w3 ⟨b7, rfl, hn7⟩
  have ha7 := hn7.at_
  refine RL.op' (.free rfl) rfl (Does.storeN i64 rfl rfl rfl rfl hn7.blk (Nat.le_refl 66)) ?_
  rintro _ w4 ⟨hb4, hm4, hs4⟩
  have hB4 : Blk w4 b7 64 pl1 := hb4
  have hg4 : Grow w w4 := ((hn2.grow.trans hg2).trans hn7.grow).then hm4 (fun x hx e => by have e' : x = b7 := e; have := (hn2.grow.trans hg2).size; omega)
  refine RL.p rfl rfl ?_
  refine RL.done ?_
  iterate 2 refine RK.seq ?_
  refine RK.region ?_
  iterate 3 refine RL.p rfl rfl ?_
  refine RL.knownF (d := 21) rfl rfl (rfl) ?_
  refine RL.q (.yes rfl rfl rfl) rfl rfl (Yld.fieldAddr fo64_2 rfl) ?_
  refine RL.q (.yes rfl rfl rfl) rfl rfl (Yld.load p4 rfl (at1 (hB4.cell rfl))) ?_
  refine RL.q (.yes rfl rfl rfl) rfl rfl (Yld.pure rfl) ?_
  iterate 2 refine RL.p rfl rfl ?_
  refine RL.knownF (d := 26) rfl rfl (rfl) ?_
  refine RL.q (.yes rfl rfl rfl) rfl rfl (Yld.fieldAddr fo64_3 rfl) ?_
  refine RL.q (.yes rfl rfl rfl) rfl rfl (Yld.fieldAddr fo57_1 rfl) ?_
  refine RL.q (.yes rfl rfl rfl) rfl rfl (Yld.load p3 rfl (at1 (hB4.cell rfl))) ?_
  refine RL.q (.yes rfl rfl rfl) rfl rfl (Yld.pure rfl) ?_
  iterate 2 refine RL.p rfl rfl ?_
  refine RL.knownT (d := 32) rfl rfl (rfl) ?_
  iterate 3 refine RL.no (.no rfl rfl rfl rfl) rfl rfl ?_
  refine RL.p rfl rfl ?_
  refine RL.done ?_
  refine RK.condT rfl ?_
  refine RK.seq ?_
  refine RK.region ?_
  iterate 3 refine RL.p rfl rfl ?_
  refine RL.done ?_
  refine RK.ret_of Tryz.func9 (res3 rfl rfl rfl rfl) ?_ _
  exact ⟨_, rfl, rfl, hg4⟩
theorem recSee0_ok {w : World} {b4 b8 b7 : Nat} (h4 : Blk w b4 3 [.int .i64 0]) (h8 : Blk w b8 42 [.slice none 0 0]) (h7 : Blk w b7 3 [.int .i64 0]) : Fx Tryz.prog 27 [.agg pl0.toArray, pp b4, pp b8, pp b7] w (fun u w' => Grow w w') := by
  refine enter Tryz.func27 rfl rfl rfl _ (Pick.sub (l := [0, 1, 2, 3]) (.cons rfl (.cons rfl (.cons rfl (.cons rfl .nil))))) ?_
  refine RK.seq ?_
  refine RK.region ?_
  refine RL.op (.free rfl) rfl rfl (Does.box rfl) ?_
  rintro _ w1 ⟨b9, rfl, hn9⟩
  have hB : Blk w1 b9 64 pl0 := hn9.blk
  refine RL.done ?_
  refine RK.seq ?_
  refine RK.region ?_
  refine RL.q (.free rfl) rfl rfl (Yld.fieldAddr fo64_2 rfl) ?_
  refine RL.q (.free rfl) rfl rfl (Yld.load p4 rfl (at1 (hB.cell rfl))) ?_
  refine RL.p rfl rfl ?_
  refine RL.knownF (d := 7) rfl rfl (rfl) ?_
  iterate 2 refine RL.no (.no rfl rfl rfl rfl) rfl rfl ?_
  iterate 2 refine RL.p rfl rfl ?_
  iterate 4 refine RL.no (.no rfl rfl rfl rfl) rfl rfl ?_
  iterate 2 refine RL.p rfl rfl ?_
  iterate 2 refine RL.no (.no rfl rfl rfl rfl) rfl rfl ?_
  iterate 2 refine RL.p rfl rfl ?_
  iterate 4 refine RL.no (.no rfl rfl rfl rfl) rfl rfl ?_
  refine RL.p rfl rfl ?_
  refine RL.done ?_
  refine RK.condF rfl ?_
  refine RK.skip ?_
  refine RK.end_of Tryz.func27 (res0 rfl) ?_
  exact ⟨_, rfl, hn9.grow⟩
theorem recSee1_ok {w : World} {b4 b8 b7 : Nat} (h4 : Blk w b4 3 [.int .i64 0]) (h8 : Blk w b8 42 [.slice none 0 0]) (h7 : Blk w b7 3 [.int .i64 0]) : Fx Tryz.prog 27 [.agg pl1.toArray, pp b4, pp b8, pp b7] w (fun u w' => Grow w w') := by
  refine enter Tryz.func27 rfl rfl rfl _ (Pick.sub (l := [0, 1, 2, 3]) (.cons rfl (.cons rfl (.cons rfl (.cons rfl .nil))))) ?_
  refine RK.seq ?_
  refine RK.region ?_
  refine RL.op (.free rfl) rfl rfl (Does.box rfl) ?_
  rintro _ w1 ⟨b9, rfl, hn9⟩
  have hB : Blk w1 b9 64 pl1 := hn9.blk
  refine RL.done ?_
  refine RK.seq ?_
  refine RK.region ?_
  refine RL.q (.free rfl) rfl rfl (Yld.fieldAddr fo64_2 rfl) ?_
  refine RL.q (.free rfl) rfl rfl (Yld.load p4 rfl (at1 (hB.cell rfl))) ?_
  refine RL.p rfl rfl ?_
  refine RL.knownT (d := 7) rfl rfl (rfl) ?_
  refine RL.q (.yes rfl rfl rfl) rfl rfl (Yld.fieldAddr fo64_5 rfl) ?_
  refine RL.q (.yes rfl rfl rfl) rfl rfl (Yld.load p4 rfl (at1 (hB.cell rfl))) ?_
  iterate 2 refine RL.p rfl rfl ?_
  refine RL.knownT (d := 11) rfl rfl (rfl) ?_
  refine RL.q (.yes rfl rfl rfl) rfl rfl (Yld.fieldAddr fo64_4 rfl) ?_
  refine RL.q (.yes rfl rfl rfl) rfl rfl (Yld.load p3 rfl (at1 (hB.cell rfl))) ?_
  refine RL.q (.yes rfl rfl rfl) rfl rfl (Yld.load p3 rfl (at1 ((h4.mod hn9.grow (fun h => h)).cell rfl))) ?_
  refine RL.q (.yes rfl rfl rfl) rfl rfl (Yld.pure rfl) ?_
  iterate 2 refine RL.p rfl rfl ?_
  refine RL.knownT (d := 17) rfl rfl (rfl) ?_
  refine RL.q (.yes rfl rfl rfl) rfl rfl (Yld.load p3 rfl (at1 ((h4.mod hn9.grow (fun h => h)).cell rfl))) ?_
  refine RL.q (.yes rfl rfl rfl) rfl rfl (Yld.pure rfl) ?_
  iterate 2 refine RL.p rfl rfl ?_
  refine RL.knownT (d := 21) rfl rfl (rfl) ?_
  refine RL.q (.yes rfl rfl rfl) rfl rfl (Yld.load p42 rfl (at1 ((h8.mod hn9.grow (fun h => h)).cell rfl))) ?_
  refine RL.q (.yes rfl rfl rfl) rfl rfl (Yld.lenSl u42 rfl) ?_
  refine RL.q (.yes rfl rfl rfl) rfl rfl (Yld.load p3 rfl (at1 ((h7.mod hn9.grow (fun h => h)).cell rfl))) ?_
  refine RL.q (.yes rfl rfl rfl) rfl rfl (Yld.pure rfl) ?_
  refine RL.p rfl rfl ?_
  refine RL.done ?_
  refine RK.condF (hcF rfl (rfl)) ?_
  refine RK.skip ?_
  refine RK.end_of Tryz.func27 (res0 rfl) ?_
  exact ⟨_, rfl, hn9.grow⟩
theorem recSee2_ok {w : World} {b4 b8 b7 : Nat} (h4 : Blk w b4 3 [.int .i64 0]) (h8 : Blk w b8 42 [.slice none 0 0]) (h7 : Blk w b7 3 [.int .i64 0]) : Fx Tryz.prog 27 [.agg pl2.toArray, pp b4, pp b8, pp b7] w (fun u w' => Grow w w') := by
  refine enter Tryz.func27 rfl rfl rfl _ (Pick.sub (l := [0, 1, 2, 3]) (.cons rfl (.cons rfl (.cons rfl (.cons rfl .nil))))) ?_
  refine RK.seq ?_
  refine RK.region ?_
  refine RL.op (.free rfl) rfl rfl (Does.box rfl) ?_
  rintro _ w1 ⟨b9, rfl, hn9⟩
  have hB : Blk w1 b9 64 pl2 := hn9.blk
  refine RL.done ?_
  refine RK.seq ?_
  refine RK.region ?_
  refine RL.q (.free rfl) rfl rfl (Yld.fieldAddr fo64_2 rfl) ?_
  refine RL.q (.free rfl) rfl rfl (Yld.load p4 rfl (at1 (hB.cell rfl))) ?_
  refine RL.p rfl rfl ?_
  refine RL.knownF (d := 7) rfl rfl (rfl) ?_
  iterate 2 refine RL.no (.no rfl rfl rfl rfl) rfl rfl ?_
  iterate 2 refine RL.p rfl rfl ?_
  iterate 4 refine RL.no (.no rfl rfl rfl rfl) rfl rfl ?_
  iterate 2 refine RL.p rfl rfl ?_
  iterate 2 refine RL.no (.no rfl rfl rfl rfl) rfl rfl ?_
  iterate 2 refine RL.p rfl rfl ?_
  iterate 4 refine RL.no (.no rfl rfl rfl rfl) rfl rfl ?_
  refine RL.p rfl rfl ?_
  refine RL.done ?_
  refine RK.condF rfl ?_
  refine RK.skip ?_
  refine RK.end_of Tryz.func27 (res0 rfl) ?_
  exact ⟨_, rfl, hn9.grow⟩
theorem recSee_ok (k : Nat) {w : World} {b4 b8 b7 : Nat} (h4 : Blk w b4 3 [.int .i64 0]) (h8 : Blk w b8 42 [.slice none 0 0]) (h7 : Blk w b7 3 [.int .i64 0]) : Fx Tryz.prog 27 [.agg (pl k).toArray, pp b4, pp b8, pp b7] w (fun u w' => Grow w w') := by
  match k with
  | 0 => exact recSee0_ok h4 h8 h7
  | 1 => exact recSee1_ok h4 h8 h7
  | k + 2 => exact recSee2_ok h4 h8 h7
theorem records_ok {n : Nat} {w : World} {xa qa : Option Addr} {xc qc : Nat} {ims : List Im} {qs : List Value} (h : LgN n w (.slice xa n xc) (.slice qa n qc) ims qs) (i : Nat) (hi : i ≤ n) : Fx Tryz.prog 11 [.agg (logC (.slice xa n xc) (.slice qa n qc)).toArray, .int .i64 0, .int .i64 (i : Int)] w (fun u w' => u = .slice none 0 0 ∧ Grow w w') := by
  have hn3 := h.n3
  refine enter Tryz.func11 rfl rfl rfl _ (Pick.sub (l := [0, 1, 2]) (.cons rfl (.cons rfl (.cons rfl .nil)))) ?_
  refine RK.seq ?_
  refine RK.region ?_
  refine RL.op (.free rfl) rfl rfl (Does.box rfl) ?_
  rintro _ w1 ⟨b3, rfl, hn3'⟩
  refine RL.op (.free rfl) rfl rfl (Does.box rfl) ?_
  rintro _ w2 ⟨b4, rfl, hn4⟩
  have hB3 : Blk w2 b3 31 (logC (.slice xa n xc) (.slice qa n qc)) := hn3'.blk.mod hn4.grow (fun h => h)
  have hB4 : Blk w2 b4 3 [.int .i64 0] := hn4.blk
  refine RL.p rfl rfl ?_
  refine RL.done ?_
  refine RK.seq ?_
  refine RK.region ?_
  refine RL.q (.free rfl) rfl rfl (Yld.fieldAddr fo31_0 rfl) ?_
  refine RL.q (.free rfl) rfl rfl (Yld.fieldAddr fo24_6 rfl) ?_
  refine RL.q (.free rfl) rfl rfl (Yld.load p3 rfl (at1 (hB3.cell rfl))) ?_
  refine RL.op (.free rfl) rfl rfl (Does.alloc i3) ?_
  rintro _ w3 ⟨b7, rfl, hn7⟩
  have ha7 := hn7.at_
  refine RL.op' (.free rfl) rfl (Does.storeN i3 rfl rfl rfl rfl hn7.blk (Nat.le_refl 1)) ?_
  rintro _ w4 ⟨hb4, hm4, hs4⟩
  have hB7 : Blk w4 b7 3 [.int .i64 0] := hb4
  have hg4 : Grow w2 w4 := hn7.grow.then hm4 (fun x hx e => by have e' : x = b7 := e; omega)
  refine RL.done ?_
  iterate 2 refine RK.seq ?_
  refine RK.region ?_
  refine RL.q (.free rfl) rfl rfl (Yld.load p3 rfl (at1 ((hB4.mod hg4 (fun h => h)).cell rfl))) ?_
  refine RL.p rfl rfl ?_
  refine RL.done ?_
  refine RK.condT (hcT rfl (rfl)) ?_
  refine RK.region ?_
  refine RL.q (.free rfl) rfl rfl (Yld.fieldAddr fo31_0 rfl) ?_
  refine RL.q (.free rfl) rfl rfl (Yld.fieldAddr fo24_7 rfl) ?_
  refine RL.q (.free rfl) rfl rfl (Yld.load p3 rfl (at1 ((hB3.mod hg4 (fun h => h)).cell rfl))) ?_
  refine RL.op' (.free rfl) rfl (Does.storeN i3 rfl rfl rfl rfl hB7 (Nat.le_refl 1)) ?_
  rintro _ w5 ⟨hb5, hm5, hs5⟩
  have hB7' : Blk w5 b7 3 [.int .i64 0] := hb5
  have hg5 : Grow w2 w5 := hg4.then hm5 (fun x hx e => by have e' : x = b7 := e; omega)
  refine RL.done ?_
  refine RK.seq ?_
  refine RK.region ?_
  refine RL.op (.free rfl) rfl rfl (Does.alloc i42) ?_
  rintro _ w6 ⟨b8, rfl, hn8⟩
  have hg6 := hg5.trans hn8.grow
  have hg06 := (hn3'.grow.trans hn4.grow).trans hg6
  have hB8 : Blk w6 b8 42 [.slice none 0 0] := hn8.blk
  refine RL.done ?_
  refine RK.seq ?_
  refine RK.region ?_
  refine RL.q (.free rfl) rfl rfl (Yld.loadN (cs := logC (.slice xa n xc) (.slice qa n qc)) a31 rfl (atN (blkV (hB3.mod hg6 (fun h => h))))) ?_
  iterate 2 refine RL.p rfl rfl ?_
  refine RL.op (.free rfl) rfl rfl (Does.call rfl e13 (walk_ok _ xa qa n xc n qc (fun k w' => Grow w6 w') i i (by omega) (by omega) 27 #[pp b4, pp b8, pp b7] e27 (Mod.refl _ _) (fun k w1 w2 hi hg => hi.trans hg) (fun k w2 w3 p m now hi hw hp hm => hi.then hm (fun x hx e => by have e' : x = p := e; omega)) (fun k w2 p m hk hi hw => placeN_ok (h.grow (hg06.trans hi)) (by omega) hw) (fun k w2' p m hk hi hw b hwb hb => by
      refine (recSee_ok k ((hB4.mod hg6 (fun h => h)).mod hi (fun h => h)) (hB8.mod hi (fun h => h)) ((hB7'.mod hn8.grow (fun h => h)).mod hi (fun h => h))).mono ?_
      rintro u w3 hg
      exact ⟨hi.trans hg, hw.grow hg, hb.mod hg (fun h => h)⟩))) ?_
  rintro _ w7 ⟨rfl, hi7⟩
  refine RL.done ?_
  refine RK.seq ?_
  refine RK.region ?_
  refine RL.q (.free rfl) rfl rfl (Yld.load p42 rfl (at1 ((hB8.mod hi7 (fun h => h)).cell rfl))) ?_
  refine RL.p rfl rfl ?_
  refine RL.done ?_
  refine RK.ret_of Tryz.func11 (res1 rfl rfl) ?_ _
  exact ⟨_, rfl, rfl, hg06.trans hi7⟩
theorem fireSee1_ok {w : World} {v : Value} : Fx Tryz.prog 30 [.agg pl1.toArray, v] w (fun u w' => Grow w w') := by
  refine enter Tryz.func30 rfl rfl rfl _ (Pick.sub (l := [0, 1]) (.cons rfl (.cons rfl .nil))) ?_
  refine RK.seq ?_
  refine RK.region ?_
  refine RL.op (.free rfl) rfl rfl (Does.box rfl) ?_
  rintro _ w1 ⟨b2, rfl, hn2⟩
  have hB : Blk w1 b2 64 pl1 := hn2.blk
  refine RL.done ?_
  refine RK.seq ?_
  refine RK.region ?_
  refine RL.q (.free rfl) rfl rfl (Yld.fieldAddr fo64_3 rfl) ?_
  refine RL.q (.free rfl) rfl rfl (Yld.fieldAddr fo57_1 rfl) ?_
  refine RL.q (.free rfl) rfl rfl (Yld.load p3 rfl (at1 (hB.cell rfl))) ?_
  refine RL.done ?_
  refine RK.block ?_
  refine RK.seq ?_
  refine RK.region ?_
  iterate 2 refine RL.p rfl rfl ?_
  refine RL.done ?_
  refine RK.condF (hcF rfl (rfl)) ?_
  refine RK.seq ?_
  refine RK.region ?_
  iterate 2 refine RL.p rfl rfl ?_
  refine RL.done ?_
  refine RK.condF (hcF rfl (rfl)) ?_
  refine RK.skip ?_
  refine RK.inBlock ?_
  refine RK.end_of Tryz.func30 (res0 rfl) ?_
  exact ⟨_, rfl, hn2.grow⟩
theorem doneSee0_ok {w : World} {b5 b7 : Nat} {v : Value} (h5 : Blk w b5 3 [.int .i64 0]) (h7 : Blk w b7 66 [.func (.func 30) #[] #[v]]) : Fx Tryz.prog 60 [.agg pl0.toArray, pp b5, pp b7] w (fun u w' => Grow w w') := by
  refine enter Tryz.func60 rfl rfl rfl _ (Pick.sub (l := [0, 1, 2]) (.cons rfl (.cons rfl (.cons rfl .nil)))) ?_
  refine RK.seq ?_
  refine RK.region ?_
  refine RL.op (.free rfl) rfl rfl (Does.box rfl) ?_
  rintro _ w1 ⟨b3, rfl, hn3⟩
  have hB : Blk w1 b3 64 pl0 := hn3.blk
  refine RL.done ?_
  refine RK.seq ?_
  refine RK.region ?_
  refine RL.q (.free rfl) rfl rfl (Yld.fieldAddr fo64_7 rfl) ?_
  refine RL.q (.free rfl) rfl rfl (Yld.load p4 rfl (at1 (hB.cell rfl))) ?_
  refine RL.p rfl rfl ?_
  refine RL.knownF (d := 6) rfl rfl (rfl) ?_
  iterate 4 refine RL.no (.no rfl rfl rfl rfl) rfl rfl ?_
  iterate 2 refine RL.p rfl rfl ?_
  iterate 2 refine RL.no (.no rfl rfl rfl rfl) rfl rfl ?_
  refine RL.p rfl rfl ?_
  refine RL.done ?_
  refine RK.condF rfl ?_
  refine RK.skip ?_
  refine RK.end_of Tryz.func60 (res0 rfl) ?_
  exact ⟨_, rfl, hn3.grow⟩
theorem doneSee1_ok {w : World} {b5 b7 : Nat} {v : Value} (h5 : Blk w b5 3 [.int .i64 0]) (h7 : Blk w b7 66 [.func (.func 30) #[] #[v]]) : Fx Tryz.prog 60 [.agg pl1.toArray, pp b5, pp b7] w (fun u w' => Grow w w') := by
  refine enter Tryz.func60 rfl rfl rfl _ (Pick.sub (l := [0, 1, 2]) (.cons rfl (.cons rfl (.cons rfl .nil)))) ?_
  refine RK.seq ?_
  refine RK.region ?_
  refine RL.op (.free rfl) rfl rfl (Does.box rfl) ?_
  rintro _ w1 ⟨b3, rfl, hn3⟩
  have hB : Blk w1 b3 64 pl1 := hn3.blk
  refine RL.done ?_
  refine RK.seq ?_
  refine RK.region ?_
  refine RL.q (.free rfl) rfl rfl (Yld.fieldAddr fo64_7 rfl) ?_
  refine RL.q (.free rfl) rfl rfl (Yld.load p4 rfl (at1 (hB.cell rfl))) ?_
  refine RL.p rfl rfl ?_
  refine RL.knownT (d := 6) rfl rfl (rfl) ?_
  refine RL.q (.yes rfl rfl rfl) rfl rfl (Yld.fieldAddr fo64_4 rfl) ?_
  refine RL.q (.yes rfl rfl rfl) rfl rfl (Yld.load p3 rfl (at1 (hB.cell rfl))) ?_
  refine RL.q (.yes rfl rfl rfl) rfl rfl (Yld.load p3 rfl (at1 ((h5.mod hn3.grow (fun h => h)).cell rfl))) ?_
  refine RL.q (.yes rfl rfl rfl) rfl rfl (Yld.pure rfl) ?_
  iterate 2 refine RL.p rfl rfl ?_
  refine RL.knownT (d := 12) rfl rfl (rfl) ?_
  refine RL.q (.yes rfl rfl rfl) rfl rfl (Yld.load p3 rfl (at1 ((h5.mod hn3.grow (fun h => h)).cell rfl))) ?_
  refine RL.q (.yes rfl rfl rfl) rfl rfl (Yld.pure rfl) ?_
  refine RL.p rfl rfl ?_
  refine RL.done ?_
  refine RK.condT (hcT rfl (rfl)) ?_
  refine RK.region ?_
  refine RL.q (.free rfl) rfl rfl (Yld.load p66 rfl (at1 ((h7.mod hn3.grow (fun h => h)).cell rfl))) ?_
  refine RL.q (.free rfl) rfl rfl (Yld.loadN (cs := pl1) a64 rfl (atN (blkV hB))) ?_
  refine RL.op (.free rfl) rfl rfl (Does.callv rfl rfl e30 (fireSee1_ok)) ?_
  rintro _ w2 hg2
  refine RL.done ?_
  refine RK.end_of Tryz.func60 (res0 rfl) ?_
  exact ⟨_, rfl, hn3.grow.trans hg2⟩
theorem doneSee2_ok {w : World} {b5 b7 : Nat} {v : Value} (h5 : Blk w b5 3 [.int .i64 0]) (h7 : Blk w b7 66 [.func (.func 30) #[] #[v]]) : Fx Tryz.prog 60 [.agg pl2.toArray, pp b5, pp b7] w (fun u w' => Grow w w') := by
  refine enter Tryz.func60 rfl rfl rfl _ (Pick.sub (l := [0, 1, 2]) (.cons rfl (.cons rfl (.cons rfl .nil)))) ?_
  refine RK.seq ?_
  refine RK.region ?_
  refine RL.op (.free rfl) rfl rfl (Does.box rfl) ?_
  rintro _ w1 ⟨b3, rfl, hn3⟩
  have hB : Blk w1 b3 64 pl2 := hn3.blk
  refine RL.done ?_
  refine RK.seq ?_
  refine RK.region ?_
  refine RL.q (.free rfl) rfl rfl (Yld.fieldAddr fo64_7 rfl) ?_
  refine RL.q (.free rfl) rfl rfl (Yld.load p4 rfl (at1 (hB.cell rfl))) ?_
  refine RL.p rfl rfl ?_
  refine RL.knownF (d := 6) rfl rfl (rfl) ?_
  iterate 4 refine RL.no (.no rfl rfl rfl rfl) rfl rfl ?_
  iterate 2 refine RL.p rfl rfl ?_
  iterate 2 refine RL.no (.no rfl rfl rfl rfl) rfl rfl ?_
  refine RL.p rfl rfl ?_
  refine RL.done ?_
  refine RK.condF rfl ?_
  refine RK.skip ?_
  refine RK.end_of Tryz.func60 (res0 rfl) ?_
  exact ⟨_, rfl, hn3.grow⟩
theorem doneSee_ok (k : Nat) {w : World} {b5 b7 : Nat} {v : Value} (h5 : Blk w b5 3 [.int .i64 0]) (h7 : Blk w b7 66 [.func (.func 30) #[] #[v]]) : Fx Tryz.prog 60 [.agg (pl k).toArray, pp b5, pp b7] w (fun u w' => Grow w w') := by
  match k with
  | 0 => exact doneSee0_ok h5 h7
  | 1 => exact doneSee1_ok h5 h7
  | k + 2 => exact doneSee2_ok h5 h7
theorem done_ok {n : Nat} {w : World} {xa qa : Option Addr} {xc qc : Nat} {ims : List Im} {qs : List Value} (h : LgN n w (.slice xa n xc) (.slice qa n qc) ims qs) (i : Nat) (hi : i ≤ n) (v : Value) : Fx Tryz.prog 29 [.agg (logC (.slice xa n xc) (.slice qa n qc)).toArray, .int .i64 0, .int .i64 (i : Int), .func (.func 30) #[] #[v]] w (fun u w' => Grow w w') := by
  have hn3 := h.n3
  refine enter Tryz.func29 rfl rfl rfl _ (Pick.sub (l := [0, 1, 2, 3]) (.cons rfl (.cons rfl (.cons rfl (.cons rfl .nil))))) ?_
  refine RK.seq ?_
  refine RK.region ?_
  refine RL.op (.free rfl) rfl rfl (Does.box rfl) ?_
  rintro _ w1 ⟨b4, rfl, hn4⟩
  refine RL.op (.free rfl) rfl rfl (Does.box rfl) ?_
  rintro _ w2 ⟨b5, rfl, hn5⟩
  refine RL.op (.free rfl) rfl rfl (Does.box rfl) ?_
  rintro _ w3 ⟨b7, rfl, hn7⟩
  have hg23 := hn5.grow.trans hn7.grow
  have hB4 : Blk w3 b4 31 (logC (.slice xa n xc) (.slice qa n qc)) := hn4.blk.mod hg23 (fun h => h)
  have hB5 : Blk w3 b5 3 [.int .i64 0] := hn5.blk.mod hn7.grow (fun h => h)
  have hB7 : Blk w3 b7 66 [.func (.func 30) #[] #[v]] := hn7.blk
  have hg03 := hn4.grow.trans hg23
  refine RL.p rfl rfl ?_
  refine RL.done ?_
  refine RK.seq ?_
  refine RK.region ?_
  refine RL.q (.free rfl) rfl rfl (Yld.loadN (cs := logC (.slice xa n xc) (.slice qa n qc)) a31 rfl (atN (blkV hB4))) ?_
  iterate 2 refine RL.p rfl rfl ?_
  refine RL.op (.free rfl) rfl rfl (Does.call rfl e13 (walk_ok _ xa qa n xc n qc (fun k w' => Grow w3 w') i i (by omega) (by omega) 60 #[pp b5, pp b7] e60 (Mod.refl _ _) (fun k w1 w2 hi hg => hi.trans hg) (fun k w2 w3 p m now hi hw hp hm => hi.then hm (fun x hx e => by have e' : x = p := e; omega)) (fun k w2 p m hk hi hw => placeN_ok (h.grow (hg03.trans hi)) (by omega) hw) (fun k w2' p m hk hi hw b hwb hb => by
      refine (doneSee_ok k (hB5.mod hi (fun h => h)) (hB7.mod hi (fun h => h))).mono ?_
      rintro u w3 hg
      exact ⟨hi.trans hg, hw.grow hg, hb.mod hg (fun h => h)⟩))) ?_
  rintro _ w7 ⟨rfl, hi7⟩
  refine RL.p rfl rfl ?_
  refine RL.done ?_
  refine RK.ret_of Tryz.func29 (res1 rfl rfl) ?_ _
  exact ⟨_, rfl, hg03.trans hi7⟩
theorem rising0_ok (w : World) (m : Nat) (hm : MapAt (Value.int .i64) w m []) : Fx Tryz.prog 31 [.map (some m)] w (fun u w' => u = .slice none 0 0 ∧ Grow w w') := by
  have hcall := sortedCallA hm (by simp) (by simp) (by simp)
  have hs0 : sortI (List.map (·.1) ([] : List (Int × Value))) = [] := by simp [sortI]
  rw [hs0] at hcall
  refine enter Tryz.func31 rfl rfl rfl _ (Pick.sub (l := [0]) (.cons rfl .nil)) ?_
  refine RK.seq ?_
  refine RK.region ?_
  refine RL.p rfl rfl ?_
  refine RL.done ?_
  refine RK.seq ?_
  refine RK.region ?_
  refine RL.p rfl rfl ?_
  refine RL.done ?_
  iterate 2 refine RK.seq ?_
  refine RK.region ?_
  refine RL.p rfl rfl ?_
  refine RL.op (.free rfl) rfl rfl (Does.call rfl e62 (keysCallA (some m) _)) ?_
  rintro _ _ ⟨rfl, rfl⟩
  refine RL.op (.free rfl) rfl rfl (Does.call rfl e61 (hcall)) ?_
  rintro u2 w2 ⟨hr2, hf2, hg2⟩
  obtain ⟨ad2, c2, rfl⟩ := hr2.slice
  refine RL.q (.free rfl) rfl rfl (Yld.lenSl u33 rfl) ?_
  refine RL.p rfl rfl ?_
  refine RL.done ?_
  refine RK.block ?_
  refine RK.loop (fun s : Unit => [(3, .slice none 0 0), (9, .int .i64 0), (10, .int .i64 0)]) (fun s w' => w' = w2) (fun s => 0) () ⟨rfl, by rfl, rfl, trivial⟩ rfl (fun s w' hI ih => ?_)
  subst hI
  refine RK.seq ?_
  refine RK.region ?_
  refine RL.p rfl rfl ?_
  refine RL.done ?_
  refine RK.seq ?_
  refine RK.condF (hcF rfl (rfl)) ?_
  refine RK.exit rfl ?_
  refine RK.seq ?_
  refine RK.region ?_
  iterate 2 refine RL.p rfl rfl ?_
  refine RL.done ?_
  refine RK.ret_of Tryz.func31 (res1 rfl rfl) ?_ _
  exact ⟨_, rfl, rfl, hg2⟩
theorem firing_ok {n : Nat} {w : World} {xa qa : Option Addr} {xc qc : Nat} {ims : List Im} {qs : List Value} (h : LgN n w (.slice xa n xc) (.slice qa n qc) ims qs) (i : Nat) (hi : i ≤ n) : Fx Tryz.prog 12 [.agg (logC (.slice xa n xc) (.slice qa n qc)).toArray, .int .i64 0, .int .i64 (i : Int)] w (fun u w' => u = .slice none 0 0 ∧ Grow w w') := by
  refine enter Tryz.func12 rfl rfl rfl _ (Pick.sub (l := [0, 1, 2]) (.cons rfl (.cons rfl (.cons rfl .nil)))) ?_
  refine RK.seq ?_
  refine RK.region ?_
  refine RL.op (.free rfl) rfl rfl (Does.box rfl) ?_
  rintro _ w1 ⟨b3, rfl, hn3'⟩
  have hB3 : Blk w1 b3 31 (logC (.slice xa n xc) (.slice qa n qc)) := hn3'.blk
  refine RL.p rfl rfl ?_
  refine RL.done ?_
  refine RK.seq ?_
  refine RK.region ?_
  refine RL.op (.free rfl) rfl rfl (Does.makeMap (Value.int .i64)) ?_
  rintro _ w2 ⟨m, rfl, hmm, hM2, hg2, hs2⟩
  refine RL.op (.free rfl) rfl rfl (Does.alloc i84) ?_
  rintro _ w3 ⟨b7, rfl, hn7⟩
  have ha7 := hn7.at_
  refine RL.op' (.free rfl) rfl (Does.storeN i84 rfl rfl rfl rfl hn7.blk (Nat.le_refl 1)) ?_
  rintro _ w4 ⟨hb4, hm4, hs4⟩
  have hB7 : Blk w4 b7 84 [.map (some m)] := hb4
  have hg24 : Grow w2 w4 := hn7.grow.then hm4 (fun x hx e => by have e' : x = b7 := e; omega)
  have hg14 := hg2.trans hg24
  have hg04 := hn3'.grow.trans hg14
  refine RL.done ?_
  refine RK.seq ?_
  refine RK.region ?_
  refine RL.q (.free rfl) rfl rfl (Yld.loadN (cs := logC (.slice xa n xc) (.slice qa n qc)) a31 rfl (atN (blkV (hB3.mod hg14 (fun h => h))))) ?_
  iterate 3 refine RL.p rfl rfl ?_
  refine RL.op (.free rfl) rfl rfl (Does.call rfl e29 (done_ok (h.grow hg04) i hi (pp b7))) ?_
  rintro _ w5 hg5
  refine RL.done ?_
  refine RK.seq ?_
  refine RK.region ?_
  refine RL.q (.free rfl) rfl rfl (Yld.load p84 rfl (at1 ((hB7.mod hg5 (fun h => h)).cell rfl))) ?_
  refine RL.op (.free rfl) rfl rfl (Does.call rfl e31 (rising0_ok _ m ((hM2.mod hg24 (fun h => h)).mod hg5 (fun h => h)))) ?_
  rintro _ w6 ⟨rfl, hg6⟩
  refine RL.p rfl rfl ?_
  refine RL.done ?_
  refine RK.ret_of Tryz.func12 (res1 rfl rfl) ?_ _
  exact ⟨_, rfl, rfl, (hg04.trans hg5).trans hg6⟩
theorem truns_ok (w : World) : Fx Tryz.prog 4 [] w (fun u w' => u = .bool true ∧ Grow w w') := by
  refine enter Tryz.func4 rfl rfl rfl _ (Pick.sub (l := []) .nil) ?_
  refine RK.seq ?_
  refine RK.region ?_
  refine RL.p rfl rfl ?_
  refine RL.done ?_
  refine RK.seq ?_
  refine RK.region ?_
  refine RL.q (.free rfl) rfl rfl (Yld.build (v := .agg cfg0.toArray) rfl (fun w => by kernel_rfl)) ?_
  refine RL.q (.free rfl) rfl rfl (Yld.build (v := .agg #[.bool true, .int .u64 5, .slice none 0 0]) rfl (fun w => by kernel_rfl)) ?_
  refine RL.op (.free rfl) rfl rfl (Does.bslice (el := 5) ([.int .u8 4, .int .u8 114, .int .u8 111, .int .u8 111, .int .u8 116, .int .u8 1]) rfl (fun w => by kernel_rfl)) ?_
  rintro _ w1 ⟨b4, rfl, hn4⟩
  refine RL.op (.free rfl) rfl rfl (Does.convConst u25 Tryz.underlying5 rfl hn4.blk) ?_
  rintro _ w1b ⟨rfl, hc4, hm4, hs4⟩
  refine RL.q (.free rfl) rfl rfl (Yld.build (v := .agg #[.bool false, .int .u64 0, .slice (some ⟨b4, 0, none⟩) 6 6]) rfl (fun w => by kernel_rfl)) ?_
  refine RL.op (.free rfl) rfl rfl (Does.bslice (el := 27) ([.bool true, .int .u64 5, .slice none 0 0, .bool false, .int .u64 0, .slice (some ⟨b4, 0, none⟩) 6 6]) rfl (fun w => by kernel_rfl)) ?_
  rintro _ w3 ⟨b14, rfl, hn14⟩
  refine RL.op (.free rfl) rfl rfl (Does.bslice (el := 5) ([.int .u8 0, .int .u8 0, .int .u8 5]) rfl (fun w => by kernel_rfl)) ?_
  rintro _ w4 ⟨b10, rfl, hn10⟩
  refine RL.op (.free rfl) rfl rfl (Does.bslice (el := 5) ([.int .u8 0, .int .u8 1, .int .u8 1]) rfl (fun w => by kernel_rfl)) ?_
  rintro _ w5 ⟨b11, rfl, hn11⟩
  refine RL.op (.free rfl) rfl rfl (Does.bslice (el := 25) ([.slice (some ⟨b10, 0, none⟩) 3 3, .slice (some ⟨b11, 0, none⟩) 3 3]) rfl (fun w => by kernel_rfl)) ?_
  rintro _ w7 ⟨b17, rfl, hn17⟩
  refine RL.q (.free rfl) rfl rfl (Yld.build (v := .agg (logC (.slice (some ⟨b14, 0, none⟩) 2 2) (.slice (some ⟨b17, 0, none⟩) 2 2)).toArray) rfl (fun w => by kernel_rfl)) ?_
  refine RL.op (.free rfl) rfl rfl (Does.alloc i31) ?_
  rintro _ w8 ⟨b1, rfl, hn1⟩
  have ha1 := hn1.at_
  refine RL.op' (.free rfl) rfl (Does.storeN i31 rfl rfl rfl rfl hn1.blk (Nat.le_refl 11)) ?_
  rintro _ w9 ⟨hb9, hm9, hs9⟩
  have hB9 : Blk w9 b1 31 (logC (.slice (some ⟨b14, 0, none⟩) 2 2) (.slice (some ⟨b17, 0, none⟩) 2 2)) := hb9
  have hg89 : Grow w7 w9 := hn1.grow.then hm9 (fun b hb e => by have e' : b = b1 := e; omega)
  have hg69 := hn17.grow.trans hg89
  have hg59 := hn11.grow.trans hg69
  have hg49 := hn10.grow.trans hg59
  have hg39 := hn14.grow.trans hg49
  have hg4b : Grow w w1b := hn4.grow.then hm4 (fun b hb e => by have e' : b = b4 := e; have := hn4.at_; omega)
  have hg09 := hg4b.trans hg39
  have h4 : Sl No w9 (.slice (some ⟨b4, 0, none⟩) 6 6) 1 6 (bytesV [4, 114, 111, 111, 116, 1]) := (show Sl No w1b (.slice (some ⟨b4, 0, none⟩) 6 6) 1 6 (bytesV [4, 114, 111, 111, 116, 1]) from ⟨rfl, by decide, _, _, rfl, fun _ => ⟨b4, 0, rfl, fun h => h, hc4⟩⟩).mod hg39
  have h10 : Sl No w9 (.slice (some ⟨b10, 0, none⟩) 3 3) 1 3 (bytesV [0, 0, 5]) := (Sl.new hn10 1 3 rfl (by decide) (fun h => h)).mod hg59
  have h11 : Sl No w9 (.slice (some ⟨b11, 0, none⟩) 3 3) 1 3 (bytesV [0, 1, 1]) := (Sl.new hn11 1 3 rfl (by decide) (fun h => h)).mod hg69
  obtain ⟨ims, hims⟩ : ∃ ims : List Im, ims = [⟨true, 5, .slice none 0 0, []⟩, ⟨false, 0, .slice (some ⟨b4, 0, none⟩) 6 6, [4, 114, 111, 111, 116, 1]⟩] := ⟨_, rfl⟩
  have hL : LgN 2 w9 (.slice (some ⟨b14, 0, none⟩) 2 2) (.slice (some ⟨b17, 0, none⟩) 2 2) ims [.slice (some ⟨b10, 0, none⟩) 3 3, .slice (some ⟨b11, 0, none⟩) 3 3] := by
      subst hims
      refine ⟨(Sl.new hn14 3 2 rfl (by decide) (fun h => h)).mod hg49, (Sl.new hn17 1 2 rfl (by decide) (fun h => h)).mod hg89, rfl, rfl, by decide, fun x hx => ?_, fun _ => rfl, fun _ => ⟨_, _, rfl, by decide⟩, fun e => absurd e (by decide), fun _ => ⟨_, _, rfl, by decide, h10⟩, fun _ => ⟨_, _, rfl, by decide, h11⟩, fun e => absurd e (by decide)⟩
      simp only [List.mem_cons, List.mem_nil_iff, or_false] at hx
      rcases hx with rfl | rfl
      · exact Sl.nil _ _ _ _ _
      · exact h4
  refine RL.done ?_
  refine RK.seq ?_
  refine RK.region ?_
  refine RL.q (.free rfl) rfl rfl (Yld.loadN (cs := logC (.slice (some ⟨b14, 0, none⟩) 2 2) (.slice (some ⟨b17, 0, none⟩) 2 2)) a31 rfl (atN (blkV hB9))) ?_
  refine RL.op (.free rfl) rfl rfl (Does.call rfl e8 (owner1_ok hL (by decide))) ?_
  rintro _ w10 ⟨rfl, hg10⟩
  iterate 5 refine RL.p rfl rfl ?_
  refine RL.done ?_
  refine RK.seq ?_
  refine RK.region ?_
  refine RL.q (.free rfl) rfl rfl (Yld.loadN (cs := logC (.slice (some ⟨b14, 0, none⟩) 2 2) (.slice (some ⟨b17, 0, none⟩) 2 2)) a31 rfl (atN (blkV (hB9.mod hg10 (fun h => h))))) ?_
  refine RL.op (.free rfl) rfl rfl (Does.call rfl e8 (owner0_ok (hL.grow hg10) (by decide))) ?_
  rintro _ w11 ⟨rfl, hg11⟩
  have hg911 := hg10.trans hg11
  iterate 5 refine RL.p rfl rfl ?_
  refine RL.done ?_
  refine RK.seq ?_
  refine RK.region ?_
  refine RL.q (.free rfl) rfl rfl (Yld.loadN (cs := logC (.slice (some ⟨b14, 0, none⟩) 2 2) (.slice (some ⟨b17, 0, none⟩) 2 2)) a31 rfl (atN (blkV (hB9.mod hg911 (fun h => h))))) ?_
  refine RL.op (.free rfl) rfl rfl (Does.call rfl e9 (why1_ok (hL.grow hg911) (by decide))) ?_
  rintro _ w12 ⟨rfl, hg12⟩
  have hg912 := hg911.trans hg12
  iterate 7 refine RL.p rfl rfl ?_
  refine RL.done ?_
  refine RK.seq ?_
  refine RK.region ?_
  refine RL.q (.free rfl) rfl rfl (Yld.loadN (cs := logC (.slice (some ⟨b14, 0, none⟩) 2 2) (.slice (some ⟨b17, 0, none⟩) 2 2)) a31 rfl (atN (blkV (hB9.mod hg912 (fun h => h))))) ?_
  refine RL.op (.free rfl) rfl rfl (Does.call rfl e10 (tnow_ok (hL.grow hg912) 1 (by decide))) ?_
  rintro _ w13 ⟨rfl, hg13⟩
  have hg913 := hg912.trans hg13
  iterate 2 refine RL.p rfl rfl ?_
  refine RL.knownT (d := 38) rfl rfl (rfl) ?_
  refine RL.q (.yes rfl rfl rfl) rfl rfl (Yld.loadN (cs := logC (.slice (some ⟨b14, 0, none⟩) 2 2) (.slice (some ⟨b17, 0, none⟩) 2 2)) a31 rfl (atN (blkV (hB9.mod hg913 (fun h => h))))) ?_
  refine RL.op (.yes rfl rfl rfl) rfl rfl (Does.call rfl e10 (tnow_ok (hL.grow hg913) 0 (by decide))) ?_
  rintro _ w14 ⟨rfl, hg14⟩
  have hg914 := hg913.trans hg14
  refine RL.q (.yes rfl rfl rfl) rfl rfl (Yld.pure rfl) ?_
  iterate 2 refine RL.p rfl rfl ?_
  refine RL.knownT (d := 43) rfl rfl (rfl) ?_
  iterate 2 refine RL.q (.yes rfl rfl rfl) rfl rfl (Yld.pure rfl) ?_
  iterate 2 refine RL.p rfl rfl ?_
  refine RL.knownT (d := 47) rfl rfl (rfl) ?_
  refine RL.q (.yes rfl rfl rfl) rfl rfl (Yld.pure rfl) ?_
  iterate 2 refine RL.p rfl rfl ?_
  refine RL.knownT (d := 50) rfl rfl (rfl) ?_
  iterate 2 refine RL.q (.yes rfl rfl rfl) rfl rfl (Yld.pure rfl) ?_
  iterate 2 refine RL.p rfl rfl ?_
  refine RL.knownT (d := 54) rfl rfl (rfl) ?_
  iterate 2 refine RL.q (.yes rfl rfl rfl) rfl rfl (Yld.pure rfl) ?_
  iterate 2 refine RL.p rfl rfl ?_
  refine RL.knownT (d := 58) rfl rfl (rfl) ?_
  refine RL.q (.yes rfl rfl rfl) rfl rfl (Yld.loadN (cs := logC (.slice (some ⟨b14, 0, none⟩) 2 2) (.slice (some ⟨b17, 0, none⟩) 2 2)) a31 rfl (atN (blkV (hB9.mod hg914 (fun h => h))))) ?_
  refine RL.op (.yes rfl rfl rfl) rfl rfl (Does.call rfl e11 (records_ok (hL.grow hg914) 2 (by decide))) ?_
  rintro _ w15 ⟨rfl, hg15⟩
  have hg915 := hg914.trans hg15
  refine RL.q (.yes rfl rfl rfl) rfl rfl (Yld.lenSl u42 rfl) ?_
  refine RL.q (.yes rfl rfl rfl) rfl rfl (Yld.pure rfl) ?_
  iterate 2 refine RL.p rfl rfl ?_
  refine RL.knownT (d := 64) rfl rfl (rfl) ?_
  refine RL.q (.yes rfl rfl rfl) rfl rfl (Yld.loadN (cs := logC (.slice (some ⟨b14, 0, none⟩) 2 2) (.slice (some ⟨b17, 0, none⟩) 2 2)) a31 rfl (atN (blkV (hB9.mod hg915 (fun h => h))))) ?_
  refine RL.op (.yes rfl rfl rfl) rfl rfl (Does.call rfl e12 (firing_ok (hL.grow hg915) 2 (by decide))) ?_
  rintro _ w16 ⟨rfl, hg16⟩
  refine RL.q (.yes rfl rfl rfl) rfl rfl (Yld.lenSl u44 rfl) ?_
  refine RL.q (.yes rfl rfl rfl) rfl rfl (Yld.pure rfl) ?_
  iterate 2 refine RL.p rfl rfl ?_
  refine RL.done ?_
  refine RK.ret_of Tryz.func4 (res1 rfl rfl) ?_ _
  exact ⟨_, rfl, rfl, (hg09.trans hg915).trans hg16⟩
end Go.Proofs.YtghcdngegadkaaaGreat
namespace Go.Proofs.YtghcdngegadkaaaGreat.traceRuns
open Go.ChangeShapes Go.WideShapes Go.ChangeAt Go.RowKit Go.X
set_option linter.unusedVariables false
theorem own : ownKnob Tryz.prog.godebug = none := by kernel_rfl
set_option maxRecDepth 100000 in
theorem lifted (os : Os) (started : os.Started) (H : Type) (enc : TypeId × Value → H) :
    ReturnsInHanded {} Tryz.checked os 4 .any (Rows.traceRunsSpec.pre6 enc Tryz.prog Tryz.f4 Rows.traceRunsRow.domain false) (Rows.traceRunsSpec.post enc Tryz.prog Tryz.f4 false true false false) := by
  refine returnsInHanded_of_change (C := Tryz.checked) own started (by kernel_rfl) Tryz.func4
    (ChangeSpec.witness6 (enc := enc) (C := Tryz.checked) false ⟨#[], #[], []⟩ 8 (by kernel_rfl) (by kernel_rfl) (by kernel_rfl) (by kernel_rfl)) ?_
  intro W base args ds gs before hval0 hW hcnd _
  have hW' := hW
  obtain ⟨p, q, hA0, hV, rfl, hfz, hnd⟩ := hW
  have hA : DataW.TrodAll enc Tryz.prog W 0 (fun _ => true) true Tryz.f4.params.toList args.toList ds p := hA0
  rw [Tryz.params4] at hA
  obtain ⟨rfl, rfl, rfl⟩ := trodAll_none hA
  obtain ⟨rfl, rfl⟩ := trodVars_none hV
  simp only [List.append_nil] at hW'
  refine Calls.mono (truns_ok W) ?_
  rintro e W' ⟨v, rfl, rfl, hg⟩
  exact ⟨_, rfl, post_grow hW' (fun _ _ _ => trodAll_cons_mk (shut_bool Tryz.underlying4 _) trodAll_mk0) (fun sp _ => rfl) (fun _ => rfl) hg (ok_one (by kernel_rfl) rfl (okWide_bool_mk Tryz.underlying4 _))⟩
end Go.Proofs.YtghcdngegadkaaaGreat.traceRuns
