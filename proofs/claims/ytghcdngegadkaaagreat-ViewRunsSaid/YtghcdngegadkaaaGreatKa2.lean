/- What the claim stands on, part 2. Of own lemmas only those that it reaches. -/
import Derived.Test.YtghcdngegadkaaaGreatKa1
set_option linter.unusedVariables false
set_option linter.unusedSimpArgs false
set_option maxHeartbeats 6400000
set_option maxRecDepth 100000
namespace Go.Proofs.YtghcdngegadkaaaGreat
open Go Go.X
@[reducible] def pl0 : List Value := placeC 0 true false (reqC ⟨#[]⟩ 0) (-1) true (respC 0 0 0 5) false 0
@[reducible] def pl1 : List Value := placeC 1 false true (reqC root 1) 0 true (respC 0 1 1 0) true 5
@[reducible] def pl2 : List Value := placeC 2 false false (reqC ⟨#[]⟩ 0) (-1) true (respC 1 0 0 0) false 5
theorem place0_ok {w : World} {p m : Nat} {vi va : Value} {xs : List It} {qs : List Value} (h : WkAt w p m vi va 0) (hl : Lg w vi va xs qs) (hx : xs[0]? = some (true, 5, .slice none 0 0)) (qa : Option Addr) (qc : Nat) (hqs : qs[0]? = some (.slice qa 3 qc)) (hq : Sl No w (.slice qa 3 qc) 1 3 (bytesV [0, 0, 5])) (hqc : 3 ≤ qc) : Fx Tryz.prog 32 [pp p, .int .i64 0] w (fun u w' => u = .agg (pl0).toArray ∧ Grow w w') := by
  obtain ⟨b1, o1, c1, he1, _, _, hc1⟩ := hl.it.elem itC_len hx
  subst he1
  obtain ⟨b2, o2, c2, he2, _, _, hc2⟩ := hl.an.elem1 hqs
  subst he2
  have hxl := (List.getElem?_eq_some_iff.1 hx).1
  have hql := (List.getElem?_eq_some_iff.1 hqs).1
  refine enter Tryz.func32 rfl rfl rfl _ (Pick.sub (l := [0, 1]) (.cons rfl (.cons rfl .nil))) ?_
  refine RK.seq ?_
  refine RK.region ?_
  refine RL.op (.free rfl) rfl rfl (Does.alloc i64) ?_
  rintro _ w1 ⟨b4, rfl, hn4⟩
  have ha4 := hn4.at_
  have hz4 := hn4.size
  have h1 := h.grow hn4.grow
  refine RL.done ?_
  refine RK.seq ?_
  refine RK.region ?_
  iterate 2 refine RL.p rfl rfl ?_
  refine RL.q (.free rfl) rfl rfl (Yld.fieldAddr fo90_0 rfl) ?_
  refine RL.q (.free rfl) rfl rfl (Yld.fieldAddr fo31_1 rfl) ?_
  refine RL.q (.free rfl) rfl rfl (Yld.load p28 rfl (at1 (h1.blk.cell rfl))) ?_
  refine RL.p rfl rfl ?_
  refine RL.q (.free rfl) rfl rfl (Yld.indexAddrN u28 i27 rfl rfl ((by exact hxl))) ?_
  refine RL.q (.free rfl) rfl rfl (Yld.loadN (cs := itC (true, 5, .slice none 0 0)) a27 rfl (atN (fun j u hj => hn4.grow.cell (hc1 j u hj) (fun h => h)))) ?_
  refine RL.op (.free rfl) rfl rfl (Does.alloc i27) ?_
  rintro _ w2 ⟨b5, rfl, hn5⟩
  have ha5 := hn5.at_
  have hz5 := hn5.size
  refine RL.op' (.free rfl) rfl (Does.storeN i27 rfl rfl rfl rfl hn5.blk (Nat.le_refl 3)) ?_
  rintro _ w3 ⟨hb3, hm3, hs3⟩
  have hB3 : Blk w3 b5 27 (itC (true, 5, .slice none 0 0)) := hb3
  have hg3 : Grow w w3 := (hn4.grow.trans hn5.grow).then hm3 (fun b hb e => by have e' : b = b5 := e; omega)
  have h3 := h.grow hg3
  have hq3 : Mod (b4 < ·) w1 w3 := (Mod.any' hn5.grow).trans (hm3.mono fun b _ e => by have e' : b = b5 := e; omega)
  have hd := Mod.drew No w3
  refine RL.done ?_
  refine RK.seq ?_
  refine RK.drawM (fun _ => False) [(0, false), (1, false), (2, false), (3, false), (4, false), (5, false), (6, false), (7, false), (8, true), (9, true)] [9] mixed (by kernel_rfl) ?_
  refine DL.p rfl rfl rfl ?_
  refine DL.qf rfl (.free rfl) rfl rfl (Yld.fieldAddr fo27_0 rfl) ?_
  refine DL.q rfl (.free rfl) rfl rfl rfl (Yld.load p4 rfl (atM ((hB3.mod hd (fun h => h)).cell rfl) id)) (Mod.drew _ _) ?_
  iterate 2 refine DL.p rfl rfl rfl ?_
  refine DL.qf rfl (.free rfl) rfl rfl (Yld.fieldAddr fo90_2 rfl) ?_
  refine DL.q rfl (.free rfl) rfl rfl rfl (Yld.load p22 rfl (atM ((h3.grow hd).blk.cell rfl) id)) (Mod.drew _ _) ?_
  refine DL.qf rfl (.free rfl) rfl rfl (Yld.build (v := .agg (placeC 0 true false (reqC ⟨#[]⟩ 0) (-1) false (respC 0 0 0 0) false 0).toArray) rfl (fun w => by kernel_rfl)) ?_
  refine DL.op rfl (.free rfl) rfl rfl (Does.alloc i64) ?_
  rintro _ w4 ⟨b6, rfl, hn6⟩
  refine ⟨Mod.any' (hd.trans hn6.grow), ?_⟩
  have ha6 := hn6.at_
  have hz6 := hn6.size
  have hz36 : w3.drew.heap.size = w3.heap.size := rfl
  refine DL.opT rfl (.free rfl) rfl rfl (Does.storeN i64 rfl rfl rfl rfl hn6.blk (Nat.le_refl 66)) ?_
  rintro _ w5 ⟨hb5, hm5, hs5⟩
  have hB5 : Blk w5 b6 64 (placeC 0 true false (reqC ⟨#[]⟩ 0) (-1) false (respC 0 0 0 0) false 0) := hb5
  have hg5 : Grow w w5 := ((hg3.trans hd).trans hn6.grow).then hm5 (fun b hb e => by have e' : b = b6 := e; have := hg3.size; omega)
  have hq5 : Mod (b4 < ·) w1 w5 := ((hq3.trans (Mod.any' hd)).trans (Mod.any' hn6.grow)).trans (hm5.mono fun b _ e => by have e' : b = b6 := e; omega)
  have hI5 := ((hB3.mod hd (fun h => h)).mod hn6.grow (fun h => h)).mod hm5 (fun e => by have e' : b5 = b6 := e; have := hB3.lt; omega)
  have hB7 := hB5
  have hg7 := hg5
  have hq7 := hq5
  have hd7 := Mod.drew No w5
  have h7 := h.grow (hg7.trans hd7)
  have hB8 := hB7.mod hd7 (fun h => h)
  have hB9 := hB8
  have hg9 := hg7.trans hd7
  have hq9 := hq7.trans (Mod.any' hd7)
  refine DL.done ?_
  iterate 2 refine RK.seq ?_
  refine RK.region ?_
  refine RL.q (.free rfl) rfl rfl (Yld.fieldAddr fo27_0 rfl) ?_
  refine RL.q (.free rfl) rfl rfl (Yld.load p4 rfl (at1 (hI5.cell rfl))) ?_
  refine RL.p rfl rfl ?_
  refine RL.done ?_
  refine RK.condF (hcF rfl (rfl)) ?_
  refine RK.skip ?_
  iterate 2 refine RK.seq ?_
  refine RK.drawM No [(0, false), (1, false), (2, false), (3, false), (4, false), (5, false), (6, false), (7, false), (8, false), (9, false), (10, false), (11, false), (12, false)] [] mixed (by kernel_rfl) ?_
  iterate 2 refine DL.p rfl rfl rfl ?_
  refine DL.qf rfl (.free rfl) rfl rfl (Yld.fieldAddr fo90_1 rfl) ?_
  refine DL.q rfl (.free rfl) rfl rfl rfl (Yld.load p88 rfl (atM (h7.blk.cell rfl) id)) (Mod.drew _ _) ?_
  refine DL.qf rfl (.free rfl) rfl rfl (Yld.fieldAddr fo64_3 rfl) ?_
  refine DL.qf rfl (.free rfl) rfl rfl (Yld.fieldAddr fo57_0 rfl) ?_
  refine DL.q rfl (.free rfl) rfl rfl rfl (Yld.load p9 rfl (atM ((hB7.mod hd7 (fun h => h)).cell rfl) id)) (Mod.drew _ _) ?_
  refine DL.q rfl (.free rfl) rfl rfl rfl (Yld.lookup Tryz.underlying88 key9 i3 (k := ⟨#[]⟩) rfl rfl (fun w' hm => (h.grow hg7).map.mod (M := No) hm (fun h => h))) (Mod.drew _ _) ?_
  iterate 5 refine DL.p rfl rfl rfl ?_
  refine DL.done ?_
  refine RK.seq ?_
  refine RK.region ?_
  iterate 2 refine RL.p rfl rfl ?_
  refine RL.knownF (d := 48) rfl rfl (rfl) ?_
  iterate 2 refine RL.no (.no rfl rfl rfl rfl) rfl rfl ?_
  refine RL.p rfl rfl ?_
  refine RL.done ?_
  refine RK.condF rfl ?_
  refine RK.skip ?_
  refine RK.seq ?_
  refine RK.region ?_
  iterate 2 refine RL.p rfl rfl ?_
  refine RL.q (.free rfl) rfl rfl (Yld.fieldAddr fo90_0 rfl) ?_
  refine RL.q (.free rfl) rfl rfl (Yld.fieldAddr fo31_2 rfl) ?_
  refine RL.q (.free rfl) rfl rfl (Yld.load p29 rfl (at1 ((h.grow hg9).blk.cell rfl))) ?_
  refine RL.p rfl rfl ?_
  refine RL.q (.free rfl) rfl rfl (Yld.indexAddrN u29 i25 rfl rfl ((by exact hql))) ?_
  refine RL.q (.free rfl) rfl rfl (Yld.load p25 rfl (at1 (hg9.cell (hc2 _ _ hqs) (fun h => h)))) ?_
  refine RL.op (.free rfl) rfl rfl (Does.call rfl e64 (rRdN_ok _ _ _ (hq.mod hg9) hqc)) ?_
  rintro _ w10 ⟨rfl, hg10⟩
  have hB10 := hB9.mod hg10 (fun h => h)
  iterate 3 refine RL.p rfl rfl ?_
  refine RL.q (.free rfl) rfl rfl (Yld.fieldAddr fo64_6 rfl) ?_
  refine RL.op' (.free rfl) rfl (Does.storeN (o := 24) i62 rfl rfl rfl rfl hB10 (by decide)) ?_
  rintro _ w11 ⟨hb11, hm11, hs11⟩
  have hB11 : Blk w11 b6 64 (placeC 0 true false (reqC ⟨#[]⟩ 0) (-1) false (respC 0 0 0 5) false 0) := hb11
  refine RL.q (.free rfl) rfl rfl (Yld.fieldAddr fo64_5 rfl) ?_
  refine RL.op' (.free rfl) rfl (Does.storeN (o := 23) i4 rfl rfl rfl rfl hB11 (by decide)) ?_
  rintro _ w12 ⟨hb12, hm12, hs12⟩
  have hB12 : Blk w12 b6 64 (placeC 0 true false (reqC ⟨#[]⟩ 0) (-1) true (respC 0 0 0 5) false 0) := hb12
  have hm112 : Mod (· = b6) w10 w12 := hm11.trans hm12
  refine RL.done ?_
  refine RK.seq ?_
  refine RK.region ?_
  refine RL.q (.free rfl) rfl rfl (Yld.fieldAddr fo64_2 rfl) ?_
  refine RL.q (.free rfl) rfl rfl (Yld.load p4 rfl (at1 (hB12.cell rfl))) ?_
  refine RL.p rfl rfl ?_
  refine RL.knownF (d := 70) rfl rfl (rfl) ?_
  iterate 2 refine RL.no (.no rfl rfl rfl rfl) rfl rfl ?_
  iterate 2 refine RL.p rfl rfl ?_
  iterate 4 refine RL.no (.no rfl rfl rfl rfl) rfl rfl ?_
  iterate 2 refine RL.p rfl rfl ?_
  iterate 7 refine RL.no (.no rfl rfl rfl rfl) rfl rfl ?_
  refine RL.p rfl rfl ?_
  refine RL.q (.free rfl) rfl rfl (Yld.fieldAddr fo64_7 rfl) ?_
  refine RL.op' (.free rfl) rfl (Does.storeN (o := 64) i4 rfl rfl rfl rfl hB12 (by decide)) ?_
  rintro _ w13 ⟨hb13, hm13, hs13⟩
  have hB13 : Blk w13 b6 64 pl0 := hb13
  have hm1013 : Mod (· = b6) w10 w13 := hm112.trans hm13
  have hg13 := (hg9.trans hg10).then hm1013 (fun b hb e => by have e' : b = b6 := e; have := hg3.size; omega)
  have hq13 := (hq9.trans (Mod.any' hg10)).trans (hm1013.mono fun b _ e => by have e' : b = b6 := e; omega)
  refine RL.done ?_
  refine RK.seq ?_
  refine RK.region ?_
  refine RL.q (.free rfl) rfl rfl (Yld.loadN (cs := pl0) a64 rfl (atN (blkV hB13))) ?_
  refine RL.op' (.free rfl) rfl (Does.storeN i64 rfl rfl rfl rfl (hn4.blk.mod hq13 (fun e => Nat.lt_irrefl _ e)) (Nat.le_refl 66)) ?_
  rintro _ w14 ⟨hb14, hm14, hs14⟩
  refine RL.done ?_
  refine RK.ret_of Tryz.func32 (resC (cs := pl0) rfl rfl a64 hb14) ?_ _
  exact ⟨_, rfl, rfl, hg13.then hm14 (fun b hb e => by have e' : b = b4 := e; omega)⟩
theorem place1_ok {w : World} {p m : Nat} {vi va : Value} {xs : List It} {qs : List Value} (h : WkAt w p m vi va 5) (hl : Lg w vi va xs qs) (ra : Option Addr) (rc : Nat) (hr : Sl No w (.slice ra 6 rc) 1 6 (bytesV [4, 114, 111, 111, 116, 1])) (hrc : 6 ≤ rc) (hx : xs[1]? = some (false, 0, .slice ra 6 rc)) (qa : Option Addr) (qc : Nat) (hqs : qs[1]? = some (.slice qa 3 qc)) (hq : Sl No w (.slice qa 3 qc) 1 3 (bytesV [0, 1, 1])) (hqc : 3 ≤ qc) : Fx Tryz.prog 32 [pp p, .int .i64 1] w (fun u w' => u = .agg (pl1).toArray ∧ Grow w w') := by
  obtain ⟨b1, o1, c1, he1, _, _, hc1⟩ := hl.it.elem itC_len hx
  subst he1
  obtain ⟨b2, o2, c2, he2, _, _, hc2⟩ := hl.an.elem1 hqs
  subst he2
  have hxl := (List.getElem?_eq_some_iff.1 hx).1
  have hql := (List.getElem?_eq_some_iff.1 hqs).1
  refine enter Tryz.func32 rfl rfl rfl _ (Pick.sub (l := [0, 1]) (.cons rfl (.cons rfl .nil))) ?_
  refine RK.seq ?_
  refine RK.region ?_
  refine RL.op (.free rfl) rfl rfl (Does.alloc i64) ?_
  rintro _ w1 ⟨b4, rfl, hn4⟩
  have ha4 := hn4.at_
  have hz4 := hn4.size
  have h1 := h.grow hn4.grow
  refine RL.done ?_
  refine RK.seq ?_
  refine RK.region ?_
  iterate 2 refine RL.p rfl rfl ?_
  refine RL.q (.free rfl) rfl rfl (Yld.fieldAddr fo90_0 rfl) ?_
  refine RL.q (.free rfl) rfl rfl (Yld.fieldAddr fo31_1 rfl) ?_
  refine RL.q (.free rfl) rfl rfl (Yld.load p28 rfl (at1 (h1.blk.cell rfl))) ?_
  refine RL.p rfl rfl ?_
  refine RL.q (.free rfl) rfl rfl (Yld.indexAddrN u28 i27 rfl rfl ((by exact hxl))) ?_
  refine RL.q (.free rfl) rfl rfl (Yld.loadN (cs := itC (false, 0, .slice ra 6 rc)) a27 rfl (atN (fun j u hj => hn4.grow.cell (hc1 j u hj) (fun h => h)))) ?_
  refine RL.op (.free rfl) rfl rfl (Does.alloc i27) ?_
  rintro _ w2 ⟨b5, rfl, hn5⟩
  have ha5 := hn5.at_
  have hz5 := hn5.size
  refine RL.op' (.free rfl) rfl (Does.storeN i27 rfl rfl rfl rfl hn5.blk (Nat.le_refl 3)) ?_
  rintro _ w3 ⟨hb3, hm3, hs3⟩
  have hB3 : Blk w3 b5 27 (itC (false, 0, .slice ra 6 rc)) := hb3
  have hg3 : Grow w w3 := (hn4.grow.trans hn5.grow).then hm3 (fun b hb e => by have e' : b = b5 := e; omega)
  have h3 := h.grow hg3
  have hq3 : Mod (b4 < ·) w1 w3 := (Mod.any' hn5.grow).trans (hm3.mono fun b _ e => by have e' : b = b5 := e; omega)
  have hd := Mod.drew No w3
  refine RL.done ?_
  refine RK.seq ?_
  refine RK.drawM (fun _ => False) [(0, false), (1, false), (2, false), (3, false), (4, false), (5, false), (6, false), (7, false), (8, true), (9, true)] [9] mixed (by kernel_rfl) ?_
  refine DL.p rfl rfl rfl ?_
  refine DL.qf rfl (.free rfl) rfl rfl (Yld.fieldAddr fo27_0 rfl) ?_
  refine DL.q rfl (.free rfl) rfl rfl rfl (Yld.load p4 rfl (atM ((hB3.mod hd (fun h => h)).cell rfl) id)) (Mod.drew _ _) ?_
  iterate 2 refine DL.p rfl rfl rfl ?_
  refine DL.qf rfl (.free rfl) rfl rfl (Yld.fieldAddr fo90_2 rfl) ?_
  refine DL.q rfl (.free rfl) rfl rfl rfl (Yld.load p22 rfl (atM ((h3.grow hd).blk.cell rfl) id)) (Mod.drew _ _) ?_
  refine DL.qf rfl (.free rfl) rfl rfl (Yld.build (v := .agg (placeC 1 false false (reqC ⟨#[]⟩ 0) (-1) false (respC 0 0 0 0) false 5).toArray) rfl (fun w => by kernel_rfl)) ?_
  refine DL.op rfl (.free rfl) rfl rfl (Does.alloc i64) ?_
  rintro _ w4 ⟨b6, rfl, hn6⟩
  refine ⟨Mod.any' (hd.trans hn6.grow), ?_⟩
  have ha6 := hn6.at_
  have hz6 := hn6.size
  have hz36 : w3.drew.heap.size = w3.heap.size := rfl
  refine DL.opT rfl (.free rfl) rfl rfl (Does.storeN i64 rfl rfl rfl rfl hn6.blk (Nat.le_refl 66)) ?_
  rintro _ w5 ⟨hb5, hm5, hs5⟩
  have hB5 : Blk w5 b6 64 (placeC 1 false false (reqC ⟨#[]⟩ 0) (-1) false (respC 0 0 0 0) false 5) := hb5
  have hg5 : Grow w w5 := ((hg3.trans hd).trans hn6.grow).then hm5 (fun b hb e => by have e' : b = b6 := e; have := hg3.size; omega)
  have hq5 : Mod (b4 < ·) w1 w5 := ((hq3.trans (Mod.any' hd)).trans (Mod.any' hn6.grow)).trans (hm5.mono fun b _ e => by have e' : b = b6 := e; omega)
  have hI5 := ((hB3.mod hd (fun h => h)).mod hn6.grow (fun h => h)).mod hm5 (fun e => by have e' : b5 = b6 := e; have := hB3.lt; omega)
  refine DL.done ?_
  iterate 2 refine RK.seq ?_
  refine RK.region ?_
  refine RL.q (.free rfl) rfl rfl (Yld.fieldAddr fo27_0 rfl) ?_
  refine RL.q (.free rfl) rfl rfl (Yld.load p4 rfl (at1 (hI5.cell rfl))) ?_
  refine RL.p rfl rfl ?_
  refine RL.done ?_
  refine RK.condT (hcT rfl (rfl)) ?_
  refine RK.region ?_
  refine RL.q (.free rfl) rfl rfl (Yld.fieldAddr fo27_2 rfl) ?_
  refine RL.q (.free rfl) rfl rfl (Yld.load p25 rfl (at1 (hI5.cell rfl))) ?_
  refine RL.op (.free rfl) rfl rfl (Does.call rfl e63 (reqRd1_ok _ _ _ (hr.mod hg5) hrc)) ?_
  rintro _ w51 ⟨rfl, hg51⟩
  have hB51 := hB5.mod hg51 (fun h => h)
  iterate 3 refine RL.p rfl rfl ?_
  refine RL.q (.free rfl) rfl rfl (Yld.fieldAddr fo64_3 rfl) ?_
  refine RL.op' (.free rfl) rfl (Does.storeN (o := 3) i57 rfl rfl rfl rfl hB51 (by decide)) ?_
  rintro _ w6 ⟨hb6, hm6, hs6⟩
  have hB6 : Blk w6 b6 64 (placeC 1 false false (reqC root 1) (-1) false (respC 0 0 0 0) false 5) := hb6
  refine RL.q (.free rfl) rfl rfl (Yld.fieldAddr fo64_2 rfl) ?_
  refine RL.op' (.free rfl) rfl (Does.storeN (o := 2) i4 rfl rfl rfl rfl hB6 (by decide)) ?_
  rintro _ w7 ⟨hb7, hm7, hs7⟩
  have hB7 : Blk w7 b6 64 (placeC 1 false true (reqC root 1) (-1) false (respC 0 0 0 0) false 5) := hb7
  have hm67 : Mod (· = b6) w51 w7 := hm6.trans hm7
  have hg7 : Grow w w7 := (hg5.trans hg51).then hm67 (fun b hb e => by have e' : b = b6 := e; have := hg3.size; omega)
  have hq7 : Mod (b4 < ·) w1 w7 := (hq5.trans (Mod.any' hg51)).trans (hm67.mono fun b _ e => by have e' : b = b6 := e; omega)
  have hd7 := Mod.drew No w7
  have h7 := h.grow (hg7.trans hd7)
  have hB8 := hB7.mod hd7 (fun h => h)
  refine RL.done ?_
  iterate 2 refine RK.seq ?_
  refine RK.drawM No [(0, false), (1, false), (2, false), (3, false), (4, false), (5, false), (6, false), (7, false), (8, false), (9, false), (10, false), (11, false), (12, false)] [] mixed (by kernel_rfl) ?_
  iterate 2 refine DL.p rfl rfl rfl ?_
  refine DL.qf rfl (.free rfl) rfl rfl (Yld.fieldAddr fo90_1 rfl) ?_
  refine DL.q rfl (.free rfl) rfl rfl rfl (Yld.load p88 rfl (atM (h7.blk.cell rfl) id)) (Mod.drew _ _) ?_
  refine DL.qf rfl (.free rfl) rfl rfl (Yld.fieldAddr fo64_3 rfl) ?_
  refine DL.qf rfl (.free rfl) rfl rfl (Yld.fieldAddr fo57_0 rfl) ?_
  refine DL.q rfl (.free rfl) rfl rfl rfl (Yld.load p9 rfl (atM ((hB7.mod hd7 (fun h => h)).cell rfl) id)) (Mod.drew _ _) ?_
  refine DL.q rfl (.free rfl) rfl rfl rfl (Yld.lookup Tryz.underlying88 key9 i3 (k := root) rfl rfl (fun w' hm => (h.grow hg7).map.mod (M := No) hm (fun h => h))) (Mod.drew _ _) ?_
  iterate 5 refine DL.p rfl rfl rfl ?_
  refine DL.done ?_
  refine RK.seq ?_
  refine RK.region ?_
  iterate 2 refine RL.p rfl rfl ?_
  refine RL.knownT (d := 48) rfl rfl (rfl) ?_
  refine RL.q (.yes rfl rfl rfl) rfl rfl (Yld.fieldAddr fo64_2 rfl) ?_
  refine RL.q (.yes rfl rfl rfl) rfl rfl (Yld.load p4 rfl (at1 (hB8.cell rfl))) ?_
  refine RL.p rfl rfl ?_
  refine RL.done ?_
  refine RK.condT (hcT rfl (rfl)) ?_
  refine RK.region ?_
  refine RL.p rfl rfl ?_
  refine RL.q (.free rfl) rfl rfl (Yld.fieldAddr fo64_4 rfl) ?_
  refine RL.op' (.free rfl) rfl (Does.storeN (o := 22) i3 rfl rfl rfl rfl hB8 (by decide)) ?_
  rintro _ w9 ⟨hb9, hm9, hs9⟩
  have hB9 : Blk w9 b6 64 (placeC 1 false true (reqC root 1) 0 false (respC 0 0 0 0) false 5) := hb9
  have hg9 := (hg7.trans hd7).then hm9 (fun b hb e => by have e' : b = b6 := e; have := hg3.size; omega)
  have hq9 := (hq7.trans (Mod.any' hd7)).trans (hm9.mono fun b _ e => by have e' : b = b6 := e; omega)
  refine RL.done ?_
  refine RK.seq ?_
  refine RK.region ?_
  iterate 2 refine RL.p rfl rfl ?_
  refine RL.q (.free rfl) rfl rfl (Yld.fieldAddr fo90_0 rfl) ?_
  refine RL.q (.free rfl) rfl rfl (Yld.fieldAddr fo31_2 rfl) ?_
  refine RL.q (.free rfl) rfl rfl (Yld.load p29 rfl (at1 ((h.grow hg9).blk.cell rfl))) ?_
  refine RL.p rfl rfl ?_
  refine RL.q (.free rfl) rfl rfl (Yld.indexAddrN u29 i25 rfl rfl ((by exact hql))) ?_
  refine RL.q (.free rfl) rfl rfl (Yld.load p25 rfl (at1 (hg9.cell (hc2 _ _ hqs) (fun h => h)))) ?_
  refine RL.op (.free rfl) rfl rfl (Does.call rfl e64 (rRdI_ok _ _ _ (hq.mod hg9) hqc)) ?_
  rintro _ w10 ⟨rfl, hg10⟩
  have hB10 := hB9.mod hg10 (fun h => h)
  iterate 3 refine RL.p rfl rfl ?_
  refine RL.q (.free rfl) rfl rfl (Yld.fieldAddr fo64_6 rfl) ?_
  refine RL.op' (.free rfl) rfl (Does.storeN (o := 24) i62 rfl rfl rfl rfl hB10 (by decide)) ?_
  rintro _ w11 ⟨hb11, hm11, hs11⟩
  have hB11 : Blk w11 b6 64 (placeC 1 false true (reqC root 1) 0 false (respC 0 1 1 0) false 5) := hb11
  refine RL.q (.free rfl) rfl rfl (Yld.fieldAddr fo64_5 rfl) ?_
  refine RL.op' (.free rfl) rfl (Does.storeN (o := 23) i4 rfl rfl rfl rfl hB11 (by decide)) ?_
  rintro _ w12 ⟨hb12, hm12, hs12⟩
  have hB12 : Blk w12 b6 64 (placeC 1 false true (reqC root 1) 0 true (respC 0 1 1 0) false 5) := hb12
  have hm112 : Mod (· = b6) w10 w12 := hm11.trans hm12
  refine RL.done ?_
  refine RK.seq ?_
  refine RK.region ?_
  refine RL.q (.free rfl) rfl rfl (Yld.fieldAddr fo64_2 rfl) ?_
  refine RL.q (.free rfl) rfl rfl (Yld.load p4 rfl (at1 (hB12.cell rfl))) ?_
  refine RL.p rfl rfl ?_
  refine RL.knownT (d := 70) rfl rfl (rfl) ?_
  refine RL.q (.yes rfl rfl rfl) rfl rfl (Yld.fieldAddr fo64_5 rfl) ?_
  refine RL.q (.yes rfl rfl rfl) rfl rfl (Yld.load p4 rfl (at1 (hB12.cell rfl))) ?_
  iterate 2 refine RL.p rfl rfl ?_
  refine RL.knownT (d := 74) rfl rfl (rfl) ?_
  refine RL.q (.yes rfl rfl rfl) rfl rfl (Yld.fieldAddr fo64_6 rfl) ?_
  refine RL.q (.yes rfl rfl rfl) rfl rfl (Yld.fieldAddr fo62_0 rfl) ?_
  refine RL.q (.yes rfl rfl rfl) rfl rfl (Yld.load p58 rfl (at1 (hB12.cell rfl))) ?_
  refine RL.q (.yes rfl rfl rfl) rfl rfl (Yld.pure rfl) ?_
  iterate 2 refine RL.p rfl rfl ?_
  refine RL.knownT (d := 80) rfl rfl (rfl) ?_
  refine RL.q (.yes rfl rfl rfl) rfl rfl (Yld.fieldAddr fo64_6 rfl) ?_
  refine RL.q (.yes rfl rfl rfl) rfl rfl (Yld.fieldAddr fo62_1 rfl) ?_
  refine RL.q (.yes rfl rfl rfl) rfl rfl (Yld.load p3 rfl (at1 (hB12.cell rfl))) ?_
  refine RL.q (.yes rfl rfl rfl) rfl rfl (Yld.fieldAddr fo64_3 rfl) ?_
  refine RL.q (.yes rfl rfl rfl) rfl rfl (Yld.fieldAddr fo57_1 rfl) ?_
  refine RL.q (.yes rfl rfl rfl) rfl rfl (Yld.load p3 rfl (at1 (hB12.cell rfl))) ?_
  refine RL.q (.yes rfl rfl rfl) rfl rfl (Yld.pure rfl) ?_
  refine RL.p rfl rfl ?_
  refine RL.q (.free rfl) rfl rfl (Yld.fieldAddr fo64_7 rfl) ?_
  refine RL.op' (.free rfl) rfl (Does.storeN (o := 64) i4 rfl rfl rfl rfl hB12 (by decide)) ?_
  rintro _ w13 ⟨hb13, hm13, hs13⟩
  have hB13 : Blk w13 b6 64 pl1 := hb13
  have hm1013 : Mod (· = b6) w10 w13 := hm112.trans hm13
  have hg13 := (hg9.trans hg10).then hm1013 (fun b hb e => by have e' : b = b6 := e; have := hg3.size; omega)
  have hq13 := (hq9.trans (Mod.any' hg10)).trans (hm1013.mono fun b _ e => by have e' : b = b6 := e; omega)
  refine RL.done ?_
  refine RK.seq ?_
  refine RK.region ?_
  refine RL.q (.free rfl) rfl rfl (Yld.loadN (cs := pl1) a64 rfl (atN (blkV hB13))) ?_
  refine RL.op' (.free rfl) rfl (Does.storeN i64 rfl rfl rfl rfl (hn4.blk.mod hq13 (fun e => Nat.lt_irrefl _ e)) (Nat.le_refl 66)) ?_
  rintro _ w14 ⟨hb14, hm14, hs14⟩
  refine RL.done ?_
  refine RK.ret_of Tryz.func32 (resC (cs := pl1) rfl rfl a64 hb14) ?_ _
  exact ⟨_, rfl, rfl, hg13.then hm14 (fun b hb e => by have e' : b = b4 := e; omega)⟩
theorem place2_ok {w : World} {p m : Nat} {vi va : Value} {xs : List It} {qs : List Value} (h : WkAt w p m vi va 5) (hl : Lg w vi va xs qs) (ra : Option Addr) (rc : Nat) (hr : Sl No w (.slice ra 1 rc) 1 1 (bytesV [9])) (hrc : 1 ≤ rc) (hx : xs[2]? = some (false, 0, .slice ra 1 rc)) (qa : Option Addr) (qc : Nat) (hqs : qs[2]? = some (.slice qa 1 qc)) (hq : Sl No w (.slice qa 1 qc) 1 1 (bytesV [1])) (hqc : 1 ≤ qc) : Fx Tryz.prog 32 [pp p, .int .i64 2] w (fun u w' => u = .agg (pl2).toArray ∧ Grow w w') := by
  obtain ⟨b1, o1, c1, he1, _, _, hc1⟩ := hl.it.elem itC_len hx
  subst he1
  obtain ⟨b2, o2, c2, he2, _, _, hc2⟩ := hl.an.elem1 hqs
  subst he2
  have hxl := (List.getElem?_eq_some_iff.1 hx).1
  have hql := (List.getElem?_eq_some_iff.1 hqs).1
  refine enter Tryz.func32 rfl rfl rfl _ (Pick.sub (l := [0, 1]) (.cons rfl (.cons rfl .nil))) ?_
  refine RK.seq ?_
  refine RK.region ?_
  refine RL.op (.free rfl) rfl rfl (Does.alloc i64) ?_
  rintro _ w1 ⟨b4, rfl, hn4⟩
  have ha4 := hn4.at_
  have hz4 := hn4.size
  have h1 := h.grow hn4.grow
  refine RL.done ?_
  refine RK.seq ?_
  refine RK.region ?_
  iterate 2 refine RL.p rfl rfl ?_
  refine RL.q (.free rfl) rfl rfl (Yld.fieldAddr fo90_0 rfl) ?_
  refine RL.q (.free rfl) rfl rfl (Yld.fieldAddr fo31_1 rfl) ?_
  refine RL.q (.free rfl) rfl rfl (Yld.load p28 rfl (at1 (h1.blk.cell rfl))) ?_
  refine RL.p rfl rfl ?_
  refine RL.q (.free rfl) rfl rfl (Yld.indexAddrN u28 i27 rfl rfl ((by exact hxl))) ?_
  refine RL.q (.free rfl) rfl rfl (Yld.loadN (cs := itC (false, 0, .slice ra 1 rc)) a27 rfl (atN (fun j u hj => hn4.grow.cell (hc1 j u hj) (fun h => h)))) ?_
  refine RL.op (.free rfl) rfl rfl (Does.alloc i27) ?_
  rintro _ w2 ⟨b5, rfl, hn5⟩
  have ha5 := hn5.at_
  have hz5 := hn5.size
  refine RL.op' (.free rfl) rfl (Does.storeN i27 rfl rfl rfl rfl hn5.blk (Nat.le_refl 3)) ?_
  rintro _ w3 ⟨hb3, hm3, hs3⟩
  have hB3 : Blk w3 b5 27 (itC (false, 0, .slice ra 1 rc)) := hb3
  have hg3 : Grow w w3 := (hn4.grow.trans hn5.grow).then hm3 (fun b hb e => by have e' : b = b5 := e; omega)
  have h3 := h.grow hg3
  have hq3 : Mod (b4 < ·) w1 w3 := (Mod.any' hn5.grow).trans (hm3.mono fun b _ e => by have e' : b = b5 := e; omega)
  have hd := Mod.drew No w3
  refine RL.done ?_
  refine RK.seq ?_
  refine RK.drawM (fun _ => False) [(0, false), (1, false), (2, false), (3, false), (4, false), (5, false), (6, false), (7, false), (8, true), (9, true)] [9] mixed (by kernel_rfl) ?_
  refine DL.p rfl rfl rfl ?_
  refine DL.qf rfl (.free rfl) rfl rfl (Yld.fieldAddr fo27_0 rfl) ?_
  refine DL.q rfl (.free rfl) rfl rfl rfl (Yld.load p4 rfl (atM ((hB3.mod hd (fun h => h)).cell rfl) id)) (Mod.drew _ _) ?_
  iterate 2 refine DL.p rfl rfl rfl ?_
  refine DL.qf rfl (.free rfl) rfl rfl (Yld.fieldAddr fo90_2 rfl) ?_
  refine DL.q rfl (.free rfl) rfl rfl rfl (Yld.load p22 rfl (atM ((h3.grow hd).blk.cell rfl) id)) (Mod.drew _ _) ?_
  refine DL.qf rfl (.free rfl) rfl rfl (Yld.build (v := .agg (placeC 2 false false (reqC ⟨#[]⟩ 0) (-1) false (respC 0 0 0 0) false 5).toArray) rfl (fun w => by kernel_rfl)) ?_
  refine DL.op rfl (.free rfl) rfl rfl (Does.alloc i64) ?_
  rintro _ w4 ⟨b6, rfl, hn6⟩
  refine ⟨Mod.any' (hd.trans hn6.grow), ?_⟩
  have ha6 := hn6.at_
  have hz6 := hn6.size
  have hz36 : w3.drew.heap.size = w3.heap.size := rfl
  refine DL.opT rfl (.free rfl) rfl rfl (Does.storeN i64 rfl rfl rfl rfl hn6.blk (Nat.le_refl 66)) ?_
  rintro _ w5 ⟨hb5, hm5, hs5⟩
  have hB5 : Blk w5 b6 64 (placeC 2 false false (reqC ⟨#[]⟩ 0) (-1) false (respC 0 0 0 0) false 5) := hb5
  have hg5 : Grow w w5 := ((hg3.trans hd).trans hn6.grow).then hm5 (fun b hb e => by have e' : b = b6 := e; have := hg3.size; omega)
  have hq5 : Mod (b4 < ·) w1 w5 := ((hq3.trans (Mod.any' hd)).trans (Mod.any' hn6.grow)).trans (hm5.mono fun b _ e => by have e' : b = b6 := e; omega)
  have hI5 := ((hB3.mod hd (fun h => h)).mod hn6.grow (fun h => h)).mod hm5 (fun e => by have e' : b5 = b6 := e; have := hB3.lt; omega)
  refine DL.done ?_
  iterate 2 refine RK.seq ?_
  refine RK.region ?_
  refine RL.q (.free rfl) rfl rfl (Yld.fieldAddr fo27_0 rfl) ?_
  refine RL.q (.free rfl) rfl rfl (Yld.load p4 rfl (at1 (hI5.cell rfl))) ?_
  refine RL.p rfl rfl ?_
  refine RL.done ?_
  refine RK.condT (hcT rfl (rfl)) ?_
  refine RK.region ?_
  refine RL.q (.free rfl) rfl rfl (Yld.fieldAddr fo27_2 rfl) ?_
  refine RL.q (.free rfl) rfl rfl (Yld.load p25 rfl (at1 (hI5.cell rfl))) ?_
  refine RL.op (.free rfl) rfl rfl (Does.call rfl e63 (reqRd0_ok _ _ _ (hr.mod hg5) hrc)) ?_
  rintro _ w51 ⟨rfl, hg51⟩
  have hB51 := hB5.mod hg51 (fun h => h)
  iterate 3 refine RL.p rfl rfl ?_
  refine RL.q (.free rfl) rfl rfl (Yld.fieldAddr fo64_3 rfl) ?_
  refine RL.op' (.free rfl) rfl (Does.storeN (o := 3) i57 rfl rfl rfl rfl hB51 (by decide)) ?_
  rintro _ w6 ⟨hb6, hm6, hs6⟩
  have hB6 : Blk w6 b6 64 (placeC 2 false false (reqC ⟨#[]⟩ 0) (-1) false (respC 0 0 0 0) false 5) := hb6
  refine RL.q (.free rfl) rfl rfl (Yld.fieldAddr fo64_2 rfl) ?_
  refine RL.op' (.free rfl) rfl (Does.storeN (o := 2) i4 rfl rfl rfl rfl hB6 (by decide)) ?_
  rintro _ w7 ⟨hb7, hm7, hs7⟩
  have hB7 : Blk w7 b6 64 (placeC 2 false false (reqC ⟨#[]⟩ 0) (-1) false (respC 0 0 0 0) false 5) := hb7
  have hm67 : Mod (· = b6) w51 w7 := hm6.trans hm7
  have hg7 : Grow w w7 := (hg5.trans hg51).then hm67 (fun b hb e => by have e' : b = b6 := e; have := hg3.size; omega)
  have hq7 : Mod (b4 < ·) w1 w7 := (hq5.trans (Mod.any' hg51)).trans (hm67.mono fun b _ e => by have e' : b = b6 := e; omega)
  have hd7 := Mod.drew No w7
  have h7 := h.grow (hg7.trans hd7)
  have hB8 := hB7.mod hd7 (fun h => h)
  have hB9 := hB8
  have hg9 := hg7.trans hd7
  have hq9 := hq7.trans (Mod.any' hd7)
  refine RL.done ?_
  iterate 2 refine RK.seq ?_
  refine RK.drawM No [(0, false), (1, false), (2, false), (3, false), (4, false), (5, false), (6, false), (7, false), (8, false), (9, false), (10, false), (11, false), (12, false)] [] mixed (by kernel_rfl) ?_
  iterate 2 refine DL.p rfl rfl rfl ?_
  refine DL.qf rfl (.free rfl) rfl rfl (Yld.fieldAddr fo90_1 rfl) ?_
  refine DL.q rfl (.free rfl) rfl rfl rfl (Yld.load p88 rfl (atM (h7.blk.cell rfl) id)) (Mod.drew _ _) ?_
  refine DL.qf rfl (.free rfl) rfl rfl (Yld.fieldAddr fo64_3 rfl) ?_
  refine DL.qf rfl (.free rfl) rfl rfl (Yld.fieldAddr fo57_0 rfl) ?_
  refine DL.q rfl (.free rfl) rfl rfl rfl (Yld.load p9 rfl (atM ((hB7.mod hd7 (fun h => h)).cell rfl) id)) (Mod.drew _ _) ?_
  refine DL.q rfl (.free rfl) rfl rfl rfl (Yld.lookup Tryz.underlying88 key9 i3 (k := ⟨#[]⟩) rfl rfl (fun w' hm => (h.grow hg7).map.mod (M := No) hm (fun h => h))) (Mod.drew _ _) ?_
  iterate 5 refine DL.p rfl rfl rfl ?_
  refine DL.done ?_
  refine RK.seq ?_
  refine RK.region ?_
  iterate 2 refine RL.p rfl rfl ?_
  refine RL.knownF (d := 48) rfl rfl (rfl) ?_
  iterate 2 refine RL.no (.no rfl rfl rfl rfl) rfl rfl ?_
  refine RL.p rfl rfl ?_
  refine RL.done ?_
  refine RK.condF rfl ?_
  refine RK.skip ?_
  refine RK.seq ?_
  refine RK.region ?_
  iterate 2 refine RL.p rfl rfl ?_
  refine RL.q (.free rfl) rfl rfl (Yld.fieldAddr fo90_0 rfl) ?_
  refine RL.q (.free rfl) rfl rfl (Yld.fieldAddr fo31_2 rfl) ?_
  refine RL.q (.free rfl) rfl rfl (Yld.load p29 rfl (at1 ((h.grow hg9).blk.cell rfl))) ?_
  refine RL.p rfl rfl ?_
  refine RL.q (.free rfl) rfl rfl (Yld.indexAddrN u29 i25 rfl rfl ((by exact hql))) ?_
  refine RL.q (.free rfl) rfl rfl (Yld.load p25 rfl (at1 (hg9.cell (hc2 _ _ hqs) (fun h => h)))) ?_
  refine RL.op (.free rfl) rfl rfl (Does.call rfl e64 (rRdE_ok _ _ _ (hq.mod hg9) hqc)) ?_
  rintro _ w10 ⟨rfl, hg10⟩
  have hB10 := hB9.mod hg10 (fun h => h)
  iterate 3 refine RL.p rfl rfl ?_
  refine RL.q (.free rfl) rfl rfl (Yld.fieldAddr fo64_6 rfl) ?_
  refine RL.op' (.free rfl) rfl (Does.storeN (o := 24) i62 rfl rfl rfl rfl hB10 (by decide)) ?_
  rintro _ w11 ⟨hb11, hm11, hs11⟩
  have hB11 : Blk w11 b6 64 (placeC 2 false false (reqC ⟨#[]⟩ 0) (-1) false (respC 1 0 0 0) false 5) := hb11
  refine RL.q (.free rfl) rfl rfl (Yld.fieldAddr fo64_5 rfl) ?_
  refine RL.op' (.free rfl) rfl (Does.storeN (o := 23) i4 rfl rfl rfl rfl hB11 (by decide)) ?_
  rintro _ w12 ⟨hb12, hm12, hs12⟩
  have hB12 : Blk w12 b6 64 (placeC 2 false false (reqC ⟨#[]⟩ 0) (-1) true (respC 1 0 0 0) false 5) := hb12
  have hm112 : Mod (· = b6) w10 w12 := hm11.trans hm12
  refine RL.done ?_
  refine RK.seq ?_
  refine RK.region ?_
  refine RL.q (.free rfl) rfl rfl (Yld.fieldAddr fo64_2 rfl) ?_
  refine RL.q (.free rfl) rfl rfl (Yld.load p4 rfl (at1 (hB12.cell rfl))) ?_
  refine RL.p rfl rfl ?_
  refine RL.knownF (d := 70) rfl rfl (rfl) ?_
  iterate 2 refine RL.no (.no rfl rfl rfl rfl) rfl rfl ?_
  iterate 2 refine RL.p rfl rfl ?_
  iterate 4 refine RL.no (.no rfl rfl rfl rfl) rfl rfl ?_
  iterate 2 refine RL.p rfl rfl ?_
  iterate 7 refine RL.no (.no rfl rfl rfl rfl) rfl rfl ?_
  refine RL.p rfl rfl ?_
  refine RL.q (.free rfl) rfl rfl (Yld.fieldAddr fo64_7 rfl) ?_
  refine RL.op' (.free rfl) rfl (Does.storeN (o := 64) i4 rfl rfl rfl rfl hB12 (by decide)) ?_
  rintro _ w13 ⟨hb13, hm13, hs13⟩
  have hB13 : Blk w13 b6 64 pl2 := hb13
  have hm1013 : Mod (· = b6) w10 w13 := hm112.trans hm13
  have hg13 := (hg9.trans hg10).then hm1013 (fun b hb e => by have e' : b = b6 := e; have := hg3.size; omega)
  have hq13 := (hq9.trans (Mod.any' hg10)).trans (hm1013.mono fun b _ e => by have e' : b = b6 := e; omega)
  refine RL.done ?_
  refine RK.seq ?_
  refine RK.region ?_
  refine RL.q (.free rfl) rfl rfl (Yld.loadN (cs := pl2) a64 rfl (atN (blkV hB13))) ?_
  refine RL.op' (.free rfl) rfl (Does.storeN i64 rfl rfl rfl rfl (hn4.blk.mod hq13 (fun e => Nat.lt_irrefl _ e)) (Nat.le_refl 66)) ?_
  rintro _ w14 ⟨hb14, hm14, hs14⟩
  refine RL.done ?_
  refine RK.ret_of Tryz.func32 (resC (cs := pl2) rfl rfl a64 hb14) ?_ _
  exact ⟨_, rfl, rfl, hg13.then hm14 (fun b hb e => by have e' : b = b4 := e; omega)⟩
end Go.Proofs.YtghcdngegadkaaaGreat
set_option linter.unusedVariables false
set_option linter.unusedSimpArgs false
set_option maxHeartbeats 6400000
set_option maxRecDepth 100000
namespace Go.Proofs.YtghcdngegadkaaaGreat
open Go Go.X
@[reducible] def pl : Nat → List Value
  | 0 => pl0
  | 1 => pl1
  | _ => pl2
@[reducible] def nowAt : Nat → Int
  | 0 => 0
  | _ => 5
section
variable {w : World} {p m : Nat} {vi va : Value}
theorem behind0_ok (h : WkAt w p m vi va 0) : Fx Tryz.prog 33 [pp p, .agg pl0.toArray] w (fun u w' => ∃ w1, Grow w w1 ∧ WkAt w' p m vi va 5 ∧ Mod (· = p) w1 w') := by
  refine enter Tryz.func33 rfl rfl rfl _ (Pick.sub (l := [0, 1]) (.cons rfl (.cons rfl .nil))) ?_
  refine RK.seq ?_
  refine RK.region ?_
  refine RL.op (.free rfl) rfl rfl (Does.box rfl) ?_
  rintro _ w1 ⟨b3, rfl, hn3⟩
  have hB : Blk w1 b3 64 pl0 := hn3.blk
  refine RL.done ?_
  refine RK.block ?_
  refine RK.seq ?_
  refine RK.region ?_
  refine RL.q (.free rfl) rfl rfl (Yld.fieldAddr fo64_1 rfl) ?_
  refine RL.q (.free rfl) rfl rfl (Yld.load p4 rfl (at1 (hB.cell rfl))) ?_
  refine RL.p rfl rfl ?_
  refine RL.knownT (d := 7) rfl rfl (rfl) ?_
  refine RL.q (.yes rfl rfl rfl) rfl rfl (Yld.fieldAddr fo64_5 rfl) ?_
  refine RL.q (.yes rfl rfl rfl) rfl rfl (Yld.load p4 rfl (at1 (hB.cell rfl))) ?_
  iterate 2 refine RL.p rfl rfl ?_
  refine RL.knownT (d := 11) rfl rfl (rfl) ?_
  refine RL.q (.yes rfl rfl rfl) rfl rfl (Yld.fieldAddr fo64_6 rfl) ?_
  refine RL.q (.yes rfl rfl rfl) rfl rfl (Yld.fieldAddr fo62_0 rfl) ?_
  refine RL.q (.yes rfl rfl rfl) rfl rfl (Yld.load p58 rfl (at1 (hB.cell rfl))) ?_
  refine RL.q (.yes rfl rfl rfl) rfl rfl (Yld.pure rfl) ?_
  iterate 2 refine RL.p rfl rfl ?_
  refine RL.knownT (d := 17) rfl rfl (rfl) ?_
  refine RL.q (.yes rfl rfl rfl) rfl rfl (Yld.fieldAddr fo64_6 rfl) ?_
  refine RL.q (.yes rfl rfl rfl) rfl rfl (Yld.fieldAddr fo62_1 rfl) ?_
  refine RL.q (.yes rfl rfl rfl) rfl rfl (Yld.load p3 rfl (at1 (hB.cell rfl))) ?_
  refine RL.q (.yes rfl rfl rfl) rfl rfl (Yld.pure rfl) ?_
  iterate 2 refine RL.p rfl rfl ?_
  refine RL.done ?_
  refine RK.condT (hcT rfl (rfl)) ?_
  refine RK.region ?_
  refine RL.p rfl rfl ?_
  refine RL.q (.free rfl) rfl rfl (Yld.fieldAddr fo64_6 rfl) ?_
  refine RL.q (.free rfl) rfl rfl (Yld.fieldAddr fo62_8 rfl) ?_
  refine RL.q (.free rfl) rfl rfl (Yld.load p22 rfl (at1 (hB.cell rfl))) ?_
  refine RL.p rfl rfl ?_
  refine RL.q (.free rfl) rfl rfl (Yld.fieldAddr fo90_2 rfl) ?_
  refine RL.op' (.free rfl) rfl (Does.storeN (o := 12) i22 rfl rfl rfl rfl (h.grow hn3.grow).blk (Nat.le_refl 13)) ?_
  rintro _ w2 ⟨hb2, hm2, hs2⟩
  refine RL.done ?_
  refine RK.inBlock ?_
  refine RK.end_of Tryz.func33 (res0 rfl) ?_
  exact ⟨_, rfl, w1, hn3.grow, ⟨hb2, (h.grow hn3.grow).map.mod hm2 (fun e => by
      obtain ⟨es, c, h1, _⟩ := h.map.out
      have h2 : w.heap[p]? = _ := h.blk
      have e' : m = p := e
      rw [e', h2] at h1
      cases h1)⟩, hm2⟩
theorem behind1_ok (h : WkAt w p m vi va 5) : Fx Tryz.prog 33 [pp p, .agg pl1.toArray] w (fun u w' => ∃ w1, Grow w w1 ∧ WkAt w' p m vi va 5 ∧ Mod (· = p) w1 w') := by
  refine enter Tryz.func33 rfl rfl rfl _ (Pick.sub (l := [0, 1]) (.cons rfl (.cons rfl .nil))) ?_
  refine RK.seq ?_
  refine RK.region ?_
  refine RL.op (.free rfl) rfl rfl (Does.box rfl) ?_
  rintro _ w1 ⟨b3, rfl, hn3⟩
  have hB : Blk w1 b3 64 pl1 := hn3.blk
  refine RL.done ?_
  refine RK.block ?_
  refine RK.seq ?_
  refine RK.region ?_
  refine RL.q (.free rfl) rfl rfl (Yld.fieldAddr fo64_1 rfl) ?_
  refine RL.q (.free rfl) rfl rfl (Yld.load p4 rfl (at1 (hB.cell rfl))) ?_
  refine RL.p rfl rfl ?_
  refine RL.knownF (d := 7) rfl rfl (rfl) ?_
  iterate 2 refine RL.no (.no rfl rfl rfl rfl) rfl rfl ?_
  iterate 2 refine RL.p rfl rfl ?_
  iterate 4 refine RL.no (.no rfl rfl rfl rfl) rfl rfl ?_
  iterate 2 refine RL.p rfl rfl ?_
  iterate 4 refine RL.no (.no rfl rfl rfl rfl) rfl rfl ?_
  iterate 2 refine RL.p rfl rfl ?_
  refine RL.done ?_
  refine RK.condF rfl ?_
  refine RK.seq ?_
  refine RK.region ?_
  refine RL.q (.free rfl) rfl rfl (Yld.fieldAddr fo64_7 rfl) ?_
  refine RL.q (.free rfl) rfl rfl (Yld.load p4 rfl (at1 (hB.cell rfl))) ?_
  iterate 2 refine RL.p rfl rfl ?_
  refine RL.knownF (d := 33) rfl rfl (rfl) ?_
  refine RL.q (.yes rfl rfl rfl) rfl rfl (Yld.fieldAddr fo64_4 rfl) ?_
  refine RL.q (.yes rfl rfl rfl) rfl rfl (Yld.load p3 rfl (at1 (hB.cell rfl))) ?_
  refine RL.q (.yes rfl rfl rfl) rfl rfl (Yld.pure rfl) ?_
  iterate 2 refine RL.p rfl rfl ?_
  refine RL.done ?_
  refine RK.condF (hcF rfl (rfl)) ?_
  refine RK.seq ?_
  refine RK.region ?_
  refine RL.q (.free rfl) rfl rfl (Yld.fieldAddr fo64_3 rfl) ?_
  refine RL.q (.free rfl) rfl rfl (Yld.fieldAddr fo57_1 rfl) ?_
  refine RL.q (.free rfl) rfl rfl (Yld.load p3 rfl (at1 (hB.cell rfl))) ?_
  iterate 2 refine RL.p rfl rfl ?_
  refine RL.done ?_
  refine RK.condF (hcF rfl (rfl)) ?_
  refine RK.seq ?_
  refine RK.region ?_
  refine RL.q (.free rfl) rfl rfl (Yld.fieldAddr fo64_3 rfl) ?_
  refine RL.q (.free rfl) rfl rfl (Yld.fieldAddr fo57_1 rfl) ?_
  refine RL.q (.free rfl) rfl rfl (Yld.load p3 rfl (at1 (hB.cell rfl))) ?_
  iterate 2 refine RL.p rfl rfl ?_
  refine RL.done ?_
  refine RK.condF (hcF rfl (rfl)) ?_
  refine RK.seq ?_
  refine RK.region ?_
  refine RL.q (.free rfl) rfl rfl (Yld.fieldAddr fo64_3 rfl) ?_
  refine RL.q (.free rfl) rfl rfl (Yld.fieldAddr fo57_1 rfl) ?_
  refine RL.q (.free rfl) rfl rfl (Yld.load p3 rfl (at1 (hB.cell rfl))) ?_
  iterate 2 refine RL.p rfl rfl ?_
  refine RL.done ?_
  refine RK.condF (hcF rfl (rfl)) ?_
  refine RK.skip ?_
  refine RK.inBlock ?_
  refine RK.end_of Tryz.func33 (res0 rfl) ?_
  exact ⟨_, rfl, w1, hn3.grow, h.grow hn3.grow, Mod.refl _ _⟩
theorem behind2_ok (h : WkAt w p m vi va 5) : Fx Tryz.prog 33 [pp p, .agg pl2.toArray] w (fun u w' => ∃ w1, Grow w w1 ∧ WkAt w' p m vi va 5 ∧ Mod (· = p) w1 w') := by
  refine enter Tryz.func33 rfl rfl rfl _ (Pick.sub (l := [0, 1]) (.cons rfl (.cons rfl .nil))) ?_
  refine RK.seq ?_
  refine RK.region ?_
  refine RL.op (.free rfl) rfl rfl (Does.box rfl) ?_
  rintro _ w1 ⟨b3, rfl, hn3⟩
  have hB : Blk w1 b3 64 pl2 := hn3.blk
  refine RL.done ?_
  refine RK.block ?_
  refine RK.seq ?_
  refine RK.region ?_
  refine RL.q (.free rfl) rfl rfl (Yld.fieldAddr fo64_1 rfl) ?_
  refine RL.q (.free rfl) rfl rfl (Yld.load p4 rfl (at1 (hB.cell rfl))) ?_
  refine RL.p rfl rfl ?_
  refine RL.knownF (d := 7) rfl rfl (rfl) ?_
  iterate 2 refine RL.no (.no rfl rfl rfl rfl) rfl rfl ?_
  iterate 2 refine RL.p rfl rfl ?_
  iterate 4 refine RL.no (.no rfl rfl rfl rfl) rfl rfl ?_
  iterate 2 refine RL.p rfl rfl ?_
  iterate 4 refine RL.no (.no rfl rfl rfl rfl) rfl rfl ?_
  iterate 2 refine RL.p rfl rfl ?_
  refine RL.done ?_
  refine RK.condF rfl ?_
  refine RK.seq ?_
  refine RK.region ?_
  refine RL.q (.free rfl) rfl rfl (Yld.fieldAddr fo64_7 rfl) ?_
  refine RL.q (.free rfl) rfl rfl (Yld.load p4 rfl (at1 (hB.cell rfl))) ?_
  iterate 2 refine RL.p rfl rfl ?_
  refine RL.knownT (d := 33) rfl rfl (rfl) ?_
  iterate 3 refine RL.no (.no rfl rfl rfl rfl) rfl rfl ?_
  iterate 2 refine RL.p rfl rfl ?_
  refine RL.done ?_
  refine RK.condT rfl ?_
  refine RK.skip ?_
  refine RK.inBlock ?_
  refine RK.end_of Tryz.func33 (res0 rfl) ?_
  exact ⟨_, rfl, w1, hn3.grow, h.grow hn3.grow, Mod.refl _ _⟩
theorem behind_ok (k : Nat) (h : WkAt w p m vi va (nowAt k)) : Fx Tryz.prog 33 [pp p, .agg (pl k).toArray] w (fun u w' => ∃ w1, Grow w w1 ∧ WkAt w' p m vi va (nowAt (k + 1)) ∧ Mod (· = p) w1 w') := by
  match k, h with
  | 0, h => exact behind0_ok h
  | 1, h => exact behind1_ok h
  | k + 2, h => exact behind2_ok h
end
theorem tlen_ok (w : World) (xa qa : Option Addr) (xc qc n k : Nat) : Fx Tryz.prog 14 [.agg (logC (.slice xa n xc) (.slice qa k qc)).toArray] w (fun u w' => u = .int .i64 (min n k : Nat) ∧ Grow w w') := by
  refine enter Tryz.func14 rfl rfl rfl _ (Pick.sub (l := [0]) (.cons rfl .nil)) ?_
  refine RK.seq ?_
  refine RK.region ?_
  refine RL.op (.free rfl) rfl rfl (Does.box rfl) ?_
  rintro _ w1 ⟨b1, rfl, hn1⟩
  have hB : Blk w1 b1 31 (logC (.slice xa n xc) (.slice qa k qc)) := hn1.blk
  refine RL.p rfl rfl ?_
  refine RL.done ?_
  refine RK.seq ?_
  refine RK.region ?_
  refine RL.q (.free rfl) rfl rfl (Yld.fieldAddr fo31_1 rfl) ?_
  refine RL.q (.free rfl) rfl rfl (Yld.load p28 rfl (at1 (hB.cell rfl))) ?_
  refine RL.q (.free rfl) rfl rfl (Yld.lenSl u28 rfl) ?_
  refine RL.q (.free rfl) rfl rfl (Yld.fieldAddr fo31_2 rfl) ?_
  refine RL.q (.free rfl) rfl rfl (Yld.load p29 rfl (at1 (hB.cell rfl))) ?_
  refine RL.q (.free rfl) rfl rfl (Yld.lenSl u29 rfl) ?_
  refine RL.q (.free rfl) rfl rfl (Yld.min2 rfl rfl) ?_
  refine RL.p rfl rfl ?_
  refine RL.done ?_
  refine RK.ret_of Tryz.func14 (res1 rfl rfl) ?_ _
  exact ⟨_, rfl, congrArg (Value.int .i64) (by split <;> omega), hn1.grow⟩
theorem pl_agg : ∀ k, Agg Tryz.prog 64 (pl k).length
  | 0 => a64
  | 1 => a64
  | _ + 2 => a64
theorem pl_size : ∀ k, (Value.agg (pl k).toArray).cells.size = 66
  | 0 => rfl
  | 1 => rfl
  | _ + 2 => rfl
theorem pl_one : ∀ k, (Value.agg (pl k).toArray).cells.toList.all (·.oneCell') = true
  | 0 => rfl
  | 1 => rfl
  | _ + 2 => rfl
theorem min_law {n a x y : Nat} (h : n = min a (min x y)) : (if ((min x y : Nat) : Int) < (if (0 : Int) > (a : Int) then 0 else (a : Int)) then ((min x y : Nat) : Int) else if (0 : Int) > (a : Int) then 0 else (a : Int)) = (n : Int) := by
  rw [if_neg (show ¬ (0 : Int) > (a : Int) by omega)]
  split <;> omega
theorem walk_ok (w : World) (xa qa : Option Addr) (nx xc nq qc : Nat) (I : Nat → World → Prop) (a n : Nat) (hn : n = min a (min nx nq)) (hbig : nx ≤ 1000) (gf : Nat) (cap : Array Value) (hE : Go.Proofs.Enters Tryz.prog gf)
    (hI0 : I 0 w) (hg : ∀ k w1 w2, I k w1 → Grow w1 w2 → I k w2)
    (hm : ∀ k w1 w2 p m now, I k w1 → WkAt w1 p m (.slice xa nx xc) (.slice qa nq qc) now → w.heap.size ≤ p → Mod (· = p) w1 w2 → I k w2)
    (hp : ∀ k w1 p m, k < n → I k w1 → WkAt w1 p m (.slice xa nx xc) (.slice qa nq qc) (nowAt k) → Fx Tryz.prog 32 [pp p, .int .i64 (k : Int)] w1 (fun u w' => u = .agg (pl k).toArray ∧ Grow w1 w'))
    (hs : ∀ k w1 p m, k < n → I k w1 → WkAt w1 p m (.slice xa nx xc) (.slice qa nq qc) (nowAt k) → ∀ b, Blk w1 b 64 (pl k) → Fx Tryz.prog gf ([.agg (pl k).toArray] ++ cap.toList) w1 (fun u w2 => I (k + 1) w2 ∧ WkAt w2 p m (.slice xa nx xc) (.slice qa nq qc) (nowAt k) ∧ Blk w2 b 64 (pl k))) :
    Fx Tryz.prog 13 [.agg (logC (.slice xa nx xc) (.slice qa nq qc)).toArray, .int .i64 (a : Int), .func (.func gf) #[] cap] w (fun u w' => u = .int .u64 (nowAt n) ∧ I n w') := by
  refine enter Tryz.func13 rfl rfl rfl _ (Pick.sub (l := [0, 1, 2]) (.cons rfl (.cons rfl (.cons rfl .nil)))) ?_
  refine RK.seq ?_
  refine RK.region ?_
  refine RL.op (.free rfl) rfl rfl (Does.box rfl) ?_
  rintro _ w1 ⟨b3, rfl, hn3⟩
  have hz3 := hn3.size
  have hB3 : Blk w1 b3 31 (logC (.slice xa nx xc) (.slice qa nq qc)) := hn3.blk
  refine RL.p rfl rfl ?_
  refine RL.done ?_
  refine RK.seq ?_
  refine RK.region ?_
  refine RL.q (.free rfl) rfl rfl (Yld.loadN (cs := logC (.slice xa nx xc) (.slice qa nq qc)) a31 rfl (atN (blkV hB3))) ?_
  refine RL.op (.free rfl) rfl rfl (Does.makeMap Value.string) ?_
  rintro _ w2 ⟨m, rfl, hm2, hM2, hg2, hs2⟩
  have hB2 := hB3.mod hg2 (fun h => h)
  refine RL.q (.free rfl) rfl rfl (Yld.fieldAddr fo31_0 rfl) ?_
  refine RL.q (.free rfl) rfl rfl (Yld.fieldAddr fo24_0 rfl) ?_
  refine RL.q (.free rfl) rfl rfl (Yld.load p9 rfl (at1 (hB2.cell rfl))) ?_
  refine RL.op' (.free rfl) rfl (Does.insert Tryz.underlying88 key9 (k := root) rfl rfl rfl hM2) ?_
  rintro _ w4 ⟨hM4, hm4, hs4⟩
  have hM4' : MapAt Value.string w4 m [(root, .int .i64 0)] := hM4
  have hz2 := hg2.size
  have hg4 : Grow w w4 := (hn3.grow.trans hg2).then hm4 (fun b hb e => by have e' : b = m := e; omega)
  have hB4 := hB2.mod hm4 (fun e => by have e' : b3 = m := e; have := hB3.lt; omega)
  refine RL.p rfl rfl ?_
  refine RL.q (.free rfl) rfl rfl (Yld.build (v := .agg (wkC (.slice xa nx xc) (.slice qa nq qc) m 0).toArray) rfl (fun w => by kernel_rfl)) ?_
  refine RL.op (.free rfl) rfl rfl (Does.box rfl) ?_
  rintro _ w5 ⟨p, rfl, hn5⟩
  have ha5 := hn5.at_
  have hw5 : WkAt w5 p m (.slice xa nx xc) (.slice qa nq qc) 0 := ⟨hn5.blk, hM4'.mod hn5.grow (fun h => h)⟩
  have hg5 := hg4.trans hn5.grow
  have hB5 := hB4.mod hn5.grow (fun h => h)
  have hzz := hg4.size
  have hpw : w.heap.size ≤ p := by omega
  refine RL.p rfl rfl ?_
  refine RL.done ?_
  iterate 2 refine RK.seq ?_
  refine RK.region ?_
  refine RL.p rfl rfl ?_
  refine RL.q (.free rfl) rfl rfl (Yld.max2 rfl rfl) ?_
  refine RL.q (.free rfl) rfl rfl (Yld.loadN (cs := logC (.slice xa nx xc) (.slice qa nq qc)) a31 rfl (atN (blkV hB5))) ?_
  refine RL.op (.free rfl) rfl rfl (Does.call rfl e14 (tlen_ok _ xa qa xc qc nx nq)) ?_
  rintro _ w6 ⟨rfl, hg6⟩
  refine RL.q (.free rfl) rfl rfl (Yld.min2 rfl rfl) ?_
  refine RL.p rfl rfl ?_
  refine RL.done ?_
  refine RK.block ?_
  refine RK.loop (fun k : Nat => [(2, .func (.func gf) #[] cap), (7, pp p), (22, .int .i64 (n : Int)), (23, .int .i64 (k : Int))]) (fun k w' => WkAt w' p m (.slice xa nx xc) (.slice qa nq qc) (nowAt k) ∧ I k w' ∧ k ≤ n) (fun k => n - k) 0 ⟨rfl, rfl, congrArg (fun x => some (Value.int IntKind.i64 x)) (min_law hn), rfl, trivial⟩ ⟨hw5.grow hg6, hg _ _ _ hI0 (hg5.trans hg6), Nat.zero_le _⟩ (fun k w7 hI ih => ?_)
  obtain ⟨hw7, hi7, hk⟩ := hI
  refine RK.seq ?_
  refine RK.region ?_
  refine RL.p rfl rfl ?_
  refine RL.done ?_
  refine RK.seq ?_
  first | refine RK.condD rfl (fun h24 => ?_) (fun h24 => ?_) | refine RK.condN rfl (fun h24 => ?_) (fun h24 => ?_) | refine RK.cond rfl (fun h24 => ?_) (fun h24 => ?_)
  · have hkn : k < n := by omega
    refine RK.skip ?_
    refine RK.seq ?_
    refine RK.block ?_
    refine RK.seq ?_
    refine RK.region ?_
    iterate 2 refine RL.p rfl rfl ?_
    refine RL.done ?_
    refine RK.seq ?_
    refine RK.region ?_
    iterate 2 refine RL.p rfl rfl ?_
    refine RL.op (.free rfl) rfl rfl (Does.call rfl e32 (hp k w7 p m hkn hi7 hw7)) ?_
    rintro _ w8 ⟨rfl, hg8⟩
    refine RL.op (.free rfl) rfl rfl (Does.alloc i64) ?_
    rintro _ w9 ⟨b9, rfl, hn9⟩
    have ha9 := hn9.at_
    refine RL.op' (.free rfl) rfl (Does.storeN i64 rfl rfl (pl_size k) (pl_one k) hn9.blk (Nat.le_refl 66)) ?_
    rintro _ w10 ⟨hb10, hm10, hs10⟩
    have hB10 : Blk w10 b9 64 (pl k) := by
        have h : Blk w10 b9 64 (pl k ++ []) := hb10
        rwa [List.append_nil] at h
    have hg10 : Grow w7 w10 := (hg8.trans hn9.grow).then hm10 (fun b hb e => by have e' : b = b9 := e; have := hg8.size; omega)
    refine RL.done ?_
    refine RK.seq ?_
    refine RK.region ?_
    refine RL.p rfl rfl ?_
    refine RL.q (.free rfl) rfl rfl (Yld.loadN (cs := pl k) (pl_agg k) rfl (atN (blkV hB10))) ?_
    refine RL.op (.free rfl) rfl rfl (Does.callv rfl rfl (by assumption) (hs k w10 p m hkn (hg _ _ _ hi7 hg10) (hw7.grow hg10) b9 hB10)) ?_
    rintro _ w11 ⟨hi11, hw11, hB11⟩
    refine RL.done ?_
    refine RK.region ?_
    refine RL.p rfl rfl ?_
    refine RL.q (.free rfl) rfl rfl (Yld.loadN (cs := pl k) (pl_agg k) rfl (atN (blkV hB11))) ?_
    refine RL.op (.free rfl) rfl rfl (Does.call rfl e33 (behind_ok k hw11)) ?_
    rintro _ w12 ⟨w13, hg13, hw12, hm12⟩
    refine RL.done ?_
    refine RK.inBlock ?_
    refine RK.region ?_
    refine RL.p rfl rfl ?_
    refine RL.re (d := 35) rfl rfl (succ_i64 (by omega)) ?_
    refine RL.p rfl rfl ?_
    refine RL.done ?_
    exact RK.back (ih (k + 1) _ ⟨hw12, hm _ _ _ _ _ _ (hg _ _ _ hi11 hg13) (hw11.grow hg13) hpw hm12, by omega⟩ (by omega)) ⟨rfl, rfl, rfl, rfl, trivial⟩
  · obtain rfl : k = n := by omega
    refine RK.exit rfl ?_
    refine RK.seq ?_
    refine RK.region ?_
    iterate 2 refine RL.p rfl rfl ?_
    refine RL.q (.free rfl) rfl rfl (Yld.fieldAddr fo90_2 rfl) ?_
    refine RL.q (.free rfl) rfl rfl (Yld.load p22 rfl (at1 (hw7.blk.cell rfl))) ?_
    refine RL.p rfl rfl ?_
    refine RL.done ?_
    refine RK.ret_of Tryz.func13 (res1 rfl rfl) ?_ _
    exact ⟨_, rfl, rfl, hi7⟩
end Go.Proofs.YtghcdngegadkaaaGreat
set_option linter.unusedVariables false
set_option linter.unusedSimpArgs false
set_option maxHeartbeats 400000
set_option maxRecDepth 100000
namespace Go.Proofs.YtghcdngegadkaaaGreat
open Go Go.X
section
variable {α : Type}
def pos (lt : α → α → Bool) (x : α) (L : List α) : Nat := L.length - (L.reverse.takeWhile (lt x)).length
end
end Go.Proofs.YtghcdngegadkaaaGreat
set_option linter.unusedVariables false
set_option linter.unusedSimpArgs false
set_option maxHeartbeats 400000
set_option maxRecDepth 100000
namespace Go.Proofs.YtghcdngegadkaaaGreat
open Go Go.X
end Go.Proofs.YtghcdngegadkaaaGreat
set_option linter.unusedVariables false
set_option linter.unusedSimpArgs false
set_option maxHeartbeats 400000
set_option maxRecDepth 100000
namespace Go.Proofs.YtghcdngegadkaaaGreat
open Go Go.X
theorem take_snoc_eq {α : Type} {l1 l2 : List α} {k : Nat} {x : α} (h : l1.take k = l2.take k) (h1 : l1[k]? = some x) (h2 : l2[k]? = some x) : l1.take (k + 1) = l2.take (k + 1) := by
  rw [List.take_add_one, List.take_add_one, h, h1, h2]
theorem sameInts_ok (M : Nat → Prop) (l1 l2 : List Int) (v1 v2 : Value) (w : World) (hv1 : Sl M w v1 1 l1.length (ints l1)) (hv2 : Sl M w v2 1 l2.length (ints l2)) :
    Fx Tryz.prog 5 [v1, v2] w (fun u w' => u = .bool (decide (l1 = l2)) ∧ Grow w w') := by
  obtain ⟨a1, c1, rfl⟩ := hv1.shape
  obtain ⟨a2, c2, rfl⟩ := hv2.shape
  have hbig := hv1.big
  refine enter Tryz.func5 rfl rfl rfl _ (Pick.sub (l := [0, 1]) (.cons rfl (.cons rfl .nil))) ?_
  refine RK.seq ?_
  refine RK.region ?_
  refine RL.p rfl rfl ?_
  refine RL.done ?_
  iterate 2 refine RK.seq ?_
  refine RK.region ?_
  refine RL.p rfl rfl ?_
  refine RL.q (.free rfl) rfl rfl (Yld.lenSl u33 rfl) ?_
  refine RL.p rfl rfl ?_
  refine RL.q (.free rfl) rfl rfl (Yld.lenSl u33 rfl) ?_
  refine RL.p rfl rfl ?_
  refine RL.done ?_
  first | refine RK.condD rfl (fun h10 => ?_) (fun h10 => ?_) | refine RK.condN rfl (fun h10 => ?_) (fun h10 => ?_) | refine RK.cond rfl (fun h10 => ?_) (fun h10 => ?_)
  · refine RK.seq ?_
    refine RK.region ?_
    refine RL.p rfl rfl ?_
    refine RL.done ?_
    refine RK.ret_of Tryz.func5 (res1 rfl rfl) ?_ _
    exact ⟨_, rfl, congrArg _ (by rw [eq_comm, decide_eq_false_iff_not]; rintro rfl; simp at h10), Mod.refl _ _⟩
  · refine RK.skip ?_
    iterate 2 refine RK.seq ?_
    refine RK.region ?_
    refine RL.p rfl rfl ?_
    refine RL.done ?_
    refine RK.block ?_
    refine RK.loop (fun k : Nat => [(0, .slice a1 l1.length c1), (1, .slice a2 l2.length c2), (5, .int .i64 k)]) (fun k w' => Grow w w' ∧ k ≤ l1.length ∧ l1.take k = l2.take k) (fun k => l1.length - k) 0 ⟨rfl, rfl, rfl, trivial⟩ ⟨Mod.refl _ _, by omega, by simp⟩ (fun k w' hI ih => ?_)
    obtain ⟨hg, hk, htk⟩ := hI
    have hl : l1.length = l2.length := by simp at h10; omega
    iterate 2 refine RK.seq ?_
    refine RK.region ?_
    iterate 2 refine RL.p rfl rfl ?_
    refine RL.q (.free rfl) rfl rfl (Yld.lenSl u33 rfl) ?_
    refine RL.p rfl rfl ?_
    refine RL.done ?_
    first | refine RK.condD rfl (fun h14 => ?_) (fun h14 => ?_) | refine RK.condN rfl (fun h14 => ?_) (fun h14 => ?_) | refine RK.cond rfl (fun h14 => ?_) (fun h14 => ?_)
    · obtain ⟨x, hx⟩ : ∃ x, l1[k]? = some x := ⟨l1[k]'(by omega), List.getElem?_eq_getElem (by omega)⟩
      obtain ⟨y, hy⟩ : ∃ y, l2[k]? = some y := ⟨l2[k]'(by omega), List.getElem?_eq_getElem (by omega)⟩
      obtain ⟨b1, o1, c1', he1, _, _, hc1⟩ := hv1.elem1 (k := k) (u := .int .i64 x) (by simp [hx])
      obtain ⟨b2, o2, c2', he2, _, _, hc2⟩ := hv2.elem1 (k := k) (u := .int .i64 y) (by simp [hy])
      cases he1
      cases he2
      refine RK.skip ?_
      refine RK.seq ?_
      refine RK.block ?_
      refine RK.seq ?_
      refine RK.drawM No [(0, false), (1, false), (2, false), (3, false), (4, false), (5, false), (6, false), (7, false), (8, false)] [] mixed (by kernel_rfl) ?_
      iterate 2 refine DL.p rfl rfl rfl ?_
      refine DL.qf rfl (.free rfl) rfl rfl (Yld.indexAddrN u33 i3 rfl rfl (by omega)) ?_
      refine DL.q rfl (.free rfl) rfl rfl rfl (Yld.load p3 rfl (atM (hg.cell (hc1 k (.int .i64 x) (by simp [hx])) (fun h => h)) (id))) (Mod.drew _ _) ?_
      iterate 2 refine DL.p rfl rfl rfl ?_
      refine DL.qf rfl (.free rfl) rfl rfl (Yld.indexAddrN u33 i3 rfl rfl (by omega)) ?_
      refine DL.q rfl (.free rfl) rfl rfl rfl (Yld.load p3 rfl (atM (hg.cell (hc2 k (.int .i64 y) (by simp [hy])) (fun h => h)) (id))) (Mod.drew _ _) ?_
      refine DL.p rfl rfl rfl ?_
      refine DL.done ?_
      first | refine RK.condD rfl (fun h25 => ?_) (fun h25 => ?_) | refine RK.condN rfl (fun h25 => ?_) (fun h25 => ?_) | refine RK.cond rfl (fun h25 => ?_) (fun h25 => ?_)
      · refine RK.seq ?_
        refine RK.region ?_
        refine RL.p rfl rfl ?_
        refine RL.done ?_
        refine RK.ret_of Tryz.func5 (res1 rfl rfl) ?_ _
        exact ⟨_, rfl, congrArg _ (by rw [eq_comm, decide_eq_false_iff_not]; rintro rfl; rw [hx] at hy; cases hy; simp at h25), hg.trans (Mod.drew _ _)⟩
      · refine RK.skip ?_
        refine RK.inBlock ?_
        refine RK.region ?_
        iterate 2 refine RL.p rfl rfl ?_
        refine RL.re (d := 16) rfl rfl (succ_i64 (by omega)) ?_
        refine RL.p rfl rfl ?_
        refine RL.done ?_
        exact RK.back (ih (k + 1) _ ⟨hg.trans (Mod.drew _ _), by omega, take_snoc_eq htk hx (by
            have : x = y := by simpa using h25
            rw [this]; exact hy)⟩ (by omega)) ⟨rfl, rfl, rfl, trivial⟩
    · refine RK.exit rfl ?_
      refine RK.seq ?_
      refine RK.region ?_
      refine RL.p rfl rfl ?_
      refine RL.done ?_
      refine RK.ret_of Tryz.func5 (res1 rfl rfl) ?_ _
      exact ⟨_, rfl, congrArg _ (by
          have e1 : k = l1.length := by omega
          have h1 : l1.take k = l1 := List.take_of_length_le (by omega)
          have h2 : l2.take k = l2 := List.take_of_length_le (by omega)
          rw [h1, h2] at htk; simp [htk]), hg⟩
end Go.Proofs.YtghcdngegadkaaaGreat
set_option linter.unusedVariables false
set_option linter.unusedSimpArgs false
set_option maxHeartbeats 400000
set_option maxRecDepth 100000
namespace Go.Proofs.YtghcdngegadkaaaGreat
open Go Go.X
end Go.Proofs.YtghcdngegadkaaaGreat
set_option linter.unusedVariables false
set_option linter.unusedSimpArgs false
set_option maxHeartbeats 400000
set_option maxRecDepth 100000
namespace Go.Proofs.YtghcdngegadkaaaGreat
open Go Go.X
end Go.Proofs.YtghcdngegadkaaaGreat
set_option linter.unusedVariables false
set_option linter.unusedSimpArgs false
set_option maxHeartbeats 6400000
set_option maxRecDepth 100000
namespace Go.Proofs.YtghcdngegadkaaaGreat
open Go Go.X
structure Im where
  t : Bool
  n : Nat
  v : Value
  bs : List UInt8
def Im.it (x : Im) : It := (x.t, x.n, x.v)
@[reducible] def imC (x : Im) : List Value := [.bool x.t, .int .u64 (x.n : Int), x.v]
theorem imC_len (x : Im) : (imC x).length = 3 := rfl
theorem imC_it (l : List Im) : (l.map Im.it).flatMap itC = l.flatMap imC := by rw [List.flatMap_map]; rfl
structure LgN (n : Nat) (w : World) (vi va : Value) (ims : List Im) (qs : List Value) : Prop where
  it : Sl No w vi 3 ims.length (ims.flatMap imC)
  an : Sl No w va 1 qs.length qs
  il : ims.length = n
  ql : qs.length = n
  n3 : n ≤ 3
  raw : ∀ x ∈ ims, Sl No w x.v 1 x.bs.length (bytesV x.bs)
  i0 : 0 < n → ims[0]? = some ⟨true, 5, .slice none 0 0, []⟩
  i1 : 1 < n → ∃ a c, ims[1]? = some ⟨false, 0, .slice a 6 c, [4, 114, 111, 111, 116, 1]⟩ ∧ 6 ≤ c
  i2 : 2 < n → ∃ a c, ims[2]? = some ⟨false, 0, .slice a 1 c, [9]⟩ ∧ 1 ≤ c
  q0 : 0 < n → ∃ a c, qs[0]? = some (.slice a 3 c) ∧ 3 ≤ c ∧ Sl No w (.slice a 3 c) 1 3 (bytesV [0, 0, 5])
  q1 : 1 < n → ∃ a c, qs[1]? = some (.slice a 3 c) ∧ 3 ≤ c ∧ Sl No w (.slice a 3 c) 1 3 (bytesV [0, 1, 1])
  q2 : 2 < n → ∃ a c, qs[2]? = some (.slice a 1 c) ∧ 1 ≤ c ∧ Sl No w (.slice a 1 c) 1 1 (bytesV [1])
theorem LgN.grow {n : Nat} {w w' : World} {vi va : Value} {ims : List Im} {qs : List Value} (h : LgN n w vi va ims qs) (hg : Grow w w') : LgN n w' vi va ims qs :=
  ⟨h.it.mod hg, h.an.mod hg, h.il, h.ql, h.n3, fun x hx => (h.raw x hx).mod hg, h.i0, h.i1, h.i2, fun e => by obtain ⟨a, c, h1, h2, h3⟩ := h.q0 e; exact ⟨a, c, h1, h2, h3.mod hg⟩, fun e => by obtain ⟨a, c, h1, h2, h3⟩ := h.q1 e; exact ⟨a, c, h1, h2, h3.mod hg⟩, fun e => by obtain ⟨a, c, h1, h2, h3⟩ := h.q2 e; exact ⟨a, c, h1, h2, h3.mod hg⟩⟩
theorem LgN.lg {n : Nat} {w : World} {vi va : Value} {ims : List Im} {qs : List Value} (h : LgN n w vi va ims qs) : Lg w vi va (ims.map Im.it) qs := ⟨by rw [imC_it, List.length_map]; exact h.it, h.an⟩
theorem placeN_ok {n k : Nat} {w : World} {p m : Nat} {vi va : Value} {ims : List Im} {qs : List Value} (h : LgN n w vi va ims qs) (hk : k < n) (hw : WkAt w p m vi va (nowAt k)) : Fx Tryz.prog 32 [pp p, .int .i64 (k : Int)] w (fun u w' => u = .agg (pl k).toArray ∧ Grow w w') := by
  have h3 := h.n3
  match k, hk, hw with
  | 0, hk, hw =>
    obtain ⟨qa, qc, h1, h2, h4⟩ := h.q0 hk
    exact place0_ok hw h.lg (by rw [List.getElem?_map, h.i0 hk]; rfl) qa qc h1 h4 h2
  | 1, hk, hw =>
    obtain ⟨qa, qc, h1, h2, h4⟩ := h.q1 hk
    obtain ⟨a, c, h5, h6⟩ := h.i1 hk
    exact place1_ok hw h.lg a c (h.raw _ (List.mem_of_getElem? h5)) h6 (by rw [List.getElem?_map, h5]; rfl) qa qc h1 h4 h2
  | 2, hk, hw =>
    obtain ⟨qa, qc, h1, h2, h4⟩ := h.q2 hk
    obtain ⟨a, c, h5, h6⟩ := h.i2 hk
    exact place2_ok hw h.lg a c (h.raw _ (List.mem_of_getElem? h5)) h6 (by rw [List.getElem?_map, h5]; rfl) qa qc h1 h4 h2
  | k + 3, hk, hw => omega
def seesW (k : Nat) (who : Int) : Bool := match k with
  | 0 => true
  | 1 => decide (who = 0 ∨ who = 1)
  | _ => false
def idsW (who : Int) : Nat → List Int
  | 0 => []
  | k + 1 => if seesW k who = true then idsW who k ++ [(k : Int)] else idsW who k
theorem idsW_len (who : Int) : ∀ k, (idsW who k).length ≤ k
  | 0 => Nat.le_refl _
  | k + 1 => by
    have := idsW_len who k
    unfold idsW
    split
    · rw [List.length_append, List.length_singleton]; omega
    · omega
theorem about1_ok (who : Int) (w : World) : Fx Tryz.prog 16 [.agg pl1.toArray, .int .i64 who] w (fun u w' => u = .bool (decide (1 = who)) ∧ Grow w w') := by
  refine enter Tryz.func16 rfl rfl rfl _ (Pick.sub (l := [0, 1]) (.cons rfl (.cons rfl .nil))) ?_
  refine RK.seq ?_
  refine RK.region ?_
  refine RL.op (.free rfl) rfl rfl (Does.box rfl) ?_
  rintro _ w1 ⟨b2, rfl, hn2⟩
  have hB : Blk w1 b2 64 pl1 := hn2.blk
  refine RL.p rfl rfl ?_
  refine RL.done ?_
  iterate 2 refine RK.seq ?_
  refine RK.region ?_
  refine RL.q (.free rfl) rfl rfl (Yld.fieldAddr fo64_7 rfl) ?_
  refine RL.q (.free rfl) rfl rfl (Yld.load p4 rfl (at1 (hB.cell rfl))) ?_
  iterate 2 refine RL.p rfl rfl ?_
  refine RL.knownF (d := 8) rfl rfl (rfl) ?_
  refine RL.q (.yes rfl rfl rfl) rfl rfl (Yld.fieldAddr fo64_4 rfl) ?_
  refine RL.q (.yes rfl rfl rfl) rfl rfl (Yld.load p3 rfl (at1 (hB.cell rfl))) ?_
  refine RL.q (.yes rfl rfl rfl) rfl rfl (Yld.pure rfl) ?_
  refine RL.p rfl rfl ?_
  refine RL.done ?_
  refine RK.condF (hcF rfl (rfl)) ?_
  refine RK.skip ?_
  iterate 2 refine RK.seq ?_
  refine RK.region ?_
  refine RL.q (.free rfl) rfl rfl (Yld.fieldAddr fo64_3 rfl) ?_
  refine RL.q (.free rfl) rfl rfl (Yld.fieldAddr fo57_1 rfl) ?_
  refine RL.q (.free rfl) rfl rfl (Yld.load p3 rfl (at1 (hB.cell rfl))) ?_
  refine RL.done ?_
  refine RK.block ?_
  refine RK.seq ?_
  refine RK.region ?_
  iterate 2 refine RL.p rfl rfl ?_
  refine RL.done ?_
  refine RK.condT (hcT rfl (rfl)) ?_
  refine RK.seq ?_
  refine RK.region ?_
  refine RL.q (.free rfl) rfl rfl (Yld.fieldAddr fo64_6 rfl) ?_
  refine RL.q (.free rfl) rfl rfl (Yld.fieldAddr fo62_2 rfl) ?_
  refine RL.q (.free rfl) rfl rfl (Yld.load p3 rfl (at1 (hB.cell rfl))) ?_
  iterate 3 refine RL.p rfl rfl ?_
  refine RL.done ?_
  refine RK.ret_of Tryz.func16 (res1 rfl rfl) ?_ _
  exact ⟨_, rfl, rfl, hn2.grow⟩
theorem about2_ok (who : Int) (w : World) : Fx Tryz.prog 16 [.agg pl2.toArray, .int .i64 who] w (fun u w' => u = .bool false ∧ Grow w w') := by
  refine enter Tryz.func16 rfl rfl rfl _ (Pick.sub (l := [0, 1]) (.cons rfl (.cons rfl .nil))) ?_
  refine RK.seq ?_
  refine RK.region ?_
  refine RL.op (.free rfl) rfl rfl (Does.box rfl) ?_
  rintro _ w1 ⟨b2, rfl, hn2⟩
  have hB : Blk w1 b2 64 pl2 := hn2.blk
  refine RL.p rfl rfl ?_
  refine RL.done ?_
  iterate 2 refine RK.seq ?_
  refine RK.region ?_
  refine RL.q (.free rfl) rfl rfl (Yld.fieldAddr fo64_7 rfl) ?_
  refine RL.q (.free rfl) rfl rfl (Yld.load p4 rfl (at1 (hB.cell rfl))) ?_
  iterate 2 refine RL.p rfl rfl ?_
  refine RL.knownT (d := 8) rfl rfl (rfl) ?_
  iterate 3 refine RL.no (.no rfl rfl rfl rfl) rfl rfl ?_
  refine RL.p rfl rfl ?_
  refine RL.done ?_
  refine RK.condT rfl ?_
  refine RK.seq ?_
  refine RK.region ?_
  refine RL.p rfl rfl ?_
  refine RL.done ?_
  refine RK.ret_of Tryz.func16 (res1 rfl rfl) ?_ _
  exact ⟨_, rfl, rfl, hn2.grow⟩
theorem see0_ok (who : Int) (ids : List Int) (hl : ids.length ≤ 1000) {w : World} {b3 b5 : Nat} {v : Value} (h3 : Blk w b3 3 [.int .i64 who]) (h5 : Blk w b5 33 [v]) (hr : Row w 3 1 v ids.length (ints ids)) : Fx Tryz.prog 15 [.agg pl0.toArray, pp b3, pp b5] w (fun u w' => ∃ v', Blk w' b5 33 [v'] ∧ Row w' 3 1 v' (if seesW 0 who = true then ids ++ [((0 : Nat) : Int)] else ids).length (ints (if seesW 0 who = true then ids ++ [((0 : Nat) : Int)] else ids)) ∧ (v'.ownBlock = v.ownBlock ∨ ∀ b, v'.ownBlock = some b → w.heap.size ≤ b) ∧ Mod (fun b => b = b5 ∨ v.ownBlock = some b) w w') := by
  obtain ⟨adv, cv, rfl⟩ := hr.slice
  refine enter Tryz.func15 rfl rfl rfl _ (Pick.sub (l := [0, 1, 2]) (.cons rfl (.cons rfl (.cons rfl .nil)))) ?_
  refine RK.seq ?_
  refine RK.region ?_
  refine RL.op (.free rfl) rfl rfl (Does.box rfl) ?_
  rintro _ w1 ⟨b4, rfl, hn4⟩
  have hB : Blk w1 b4 64 pl0 := hn4.blk
  have hg1 := hn4.grow
  have hI3 := h3.mod hg1 (fun h => h)
  refine RL.done ?_
  refine RK.seq ?_
  refine RK.region ?_
  refine RL.q (.free rfl) rfl rfl (Yld.fieldAddr fo64_1 rfl) ?_
  refine RL.q (.free rfl) rfl rfl (Yld.load p4 rfl (at1 (hB.cell rfl))) ?_
  refine RL.p rfl rfl ?_
  refine RL.knownT (d := 6) rfl rfl (rfl) ?_
  iterate 9 refine RL.no (.no rfl rfl rfl rfl) rfl rfl ?_
  iterate 2 refine RL.p rfl rfl ?_
  iterate 7 refine RL.no (.no rfl rfl rfl rfl) rfl rfl ?_
  refine RL.p rfl rfl ?_
  refine RL.done ?_
  refine RK.condT rfl ?_
  refine RK.region ?_
  refine RL.q (.free rfl) rfl rfl (Yld.load p33 rfl (at1 ((h5.mod hg1 (fun h => h)).cell rfl))) ?_
  refine RL.q (.free rfl) rfl rfl (Yld.fieldAddr fo64_0 rfl) ?_
  refine RL.q (.free rfl) rfl rfl (Yld.load p3 rfl (at1 (hB.cell rfl))) ?_
  refine RL.op (.free rfl) rfl rfl (Does.slice1 u33 i3 rfl rfl rfl rfl rfl) ?_
  rintro _ w9 ⟨b9, rfl, hn9⟩
  have hg9 := (hg1).trans hn9.grow
  refine RL.op (.free rfl) rfl rfl (Does.append u33 i3 rfl rfl rfl rfl rfl (hr.mod hg9 (fun _ _ h => h)) (Sl.new hn9 1 1 rfl (by omega) (fun h => h)) (rfl) (by omega)) ?_
  rintro u10 w10 ⟨hr10, hm10, hu10⟩
  have h5' := (h5.mod hg9 (fun h => h)).mod hm10 (fun e => h5.ty.ne (hr.ty e) rfl rfl)
  have hz9 := hn9.grow.size
  have hz0 := (hg1).size
  obtain ⟨ad10, c10, rfl⟩ := hr10.slice
  refine RL.op' (.free rfl) rfl (Does.store i33 rfl rfl rfl h5' (.z)) ?_
  rintro _ w11 ⟨hb11, hm11, hs11⟩
  refine RL.done ?_
  refine RK.end_of Tryz.func15 (res0 rfl) ?_
  exact ⟨_, rfl, .slice ad10 _ c10, hb11, by
      rw [if_pos (show seesW 0 who = true from rfl)]
      have e1 : ints (ids ++ [((0 : Nat) : Int)]) = ints ids ++ (Value.int .i64 ((0 : Nat) : Int)).cells.toList := by simp [ints, Value.cells]
      rw [e1, List.length_append]
      exact hr10.mod hm11 (fun b e1 e2 => (hr10.ty e1).ne h5'.ty rfl e2), by
      rcases hu10 with h1 | h1
      · exact .inl h1
      · exact .inr fun b e => by rw [h1] at e; cases e; omega, ((Mod.any' hg9).trans (hm10.mono fun b _ e => .inr e)).trans (hm11.mono fun b _ e => .inl e)⟩
theorem see1_ok (who : Int) (ids : List Int) (hl : ids.length ≤ 1000) {w : World} {b3 b5 : Nat} {v : Value} (h3 : Blk w b3 3 [.int .i64 who]) (h5 : Blk w b5 33 [v]) (hr : Row w 3 1 v ids.length (ints ids)) : Fx Tryz.prog 15 [.agg pl1.toArray, pp b3, pp b5] w (fun u w' => ∃ v', Blk w' b5 33 [v'] ∧ Row w' 3 1 v' (if seesW 1 who = true then ids ++ [((1 : Nat) : Int)] else ids).length (ints (if seesW 1 who = true then ids ++ [((1 : Nat) : Int)] else ids)) ∧ (v'.ownBlock = v.ownBlock ∨ ∀ b, v'.ownBlock = some b → w.heap.size ≤ b) ∧ Mod (fun b => b = b5 ∨ v.ownBlock = some b) w w') := by
  obtain ⟨adv, cv, rfl⟩ := hr.slice
  refine enter Tryz.func15 rfl rfl rfl _ (Pick.sub (l := [0, 1, 2]) (.cons rfl (.cons rfl (.cons rfl .nil)))) ?_
  refine RK.seq ?_
  refine RK.region ?_
  refine RL.op (.free rfl) rfl rfl (Does.box rfl) ?_
  rintro _ w1 ⟨b4, rfl, hn4⟩
  have hB : Blk w1 b4 64 pl1 := hn4.blk
  have hg1 := hn4.grow
  have hI3 := h3.mod hg1 (fun h => h)
  refine RL.done ?_
  refine RK.seq ?_
  refine RK.region ?_
  refine RL.q (.free rfl) rfl rfl (Yld.fieldAddr fo64_1 rfl) ?_
  refine RL.q (.free rfl) rfl rfl (Yld.load p4 rfl (at1 (hB.cell rfl))) ?_
  refine RL.p rfl rfl ?_
  refine RL.knownF (d := 6) rfl rfl (rfl) ?_
  refine RL.q (.yes rfl rfl rfl) rfl rfl (Yld.fieldAddr fo64_4 rfl) ?_
  refine RL.q (.yes rfl rfl rfl) rfl rfl (Yld.load p3 rfl (at1 (hB.cell rfl))) ?_
  iterate 2 refine RL.q (.yes rfl rfl rfl) rfl rfl (Yld.pure rfl) ?_
  refine RL.knownT (d := 10) rfl rfl (rfl) ?_
  refine RL.q (.yes rfl rfl rfl) rfl rfl (Yld.fieldAddr fo64_4 rfl) ?_
  refine RL.q (.yes rfl rfl rfl) rfl rfl (Yld.load p3 rfl (at1 (hB.cell rfl))) ?_
  refine RL.q (.yes rfl rfl rfl) rfl rfl (Yld.load p3 rfl (at1 (hI3.cell rfl))) ?_
  iterate 2 refine RL.q (.yes rfl rfl rfl) rfl rfl (Yld.pure rfl) ?_
  iterate 2 refine RL.p rfl rfl ?_
  first | refine RL.splitD (d := 17) rfl rfl (fun h17 => ?_) (fun h17 => ?_) | refine RL.splitN (d := 17) rfl rfl (fun h17 => ?_) (fun h17 => ?_) | refine RL.split (d := 17) rfl rfl (fun h17 => ?_) (fun h17 => ?_)
  · iterate 7 refine RL.no (.no rfl rfl rfl rfl) rfl rfl ?_
    refine RL.p rfl rfl ?_
    refine RL.done ?_
    refine RK.condT (hcT rfl (rfl)) ?_
    refine RK.region ?_
    refine RL.q (.free rfl) rfl rfl (Yld.load p33 rfl (at1 ((h5.mod hg1 (fun h => h)).cell rfl))) ?_
    refine RL.q (.free rfl) rfl rfl (Yld.fieldAddr fo64_0 rfl) ?_
    refine RL.q (.free rfl) rfl rfl (Yld.load p3 rfl (at1 (hB.cell rfl))) ?_
    refine RL.op (.free rfl) rfl rfl (Does.slice1 u33 i3 rfl rfl rfl rfl rfl) ?_
    rintro _ w9 ⟨b9, rfl, hn9⟩
    have hg9 := (hg1).trans hn9.grow
    refine RL.op (.free rfl) rfl rfl (Does.append u33 i3 rfl rfl rfl rfl rfl (hr.mod hg9 (fun _ _ h => h)) (Sl.new hn9 1 1 rfl (by omega) (fun h => h)) (rfl) (by omega)) ?_
    rintro u10 w10 ⟨hr10, hm10, hu10⟩
    have h5' := (h5.mod hg9 (fun h => h)).mod hm10 (fun e => h5.ty.ne (hr.ty e) rfl rfl)
    have hz9 := hn9.grow.size
    have hz0 := (hg1).size
    obtain ⟨ad10, c10, rfl⟩ := hr10.slice
    refine RL.op' (.free rfl) rfl (Does.store i33 rfl rfl rfl h5' (.z)) ?_
    rintro _ w11 ⟨hb11, hm11, hs11⟩
    refine RL.done ?_
    refine RK.end_of Tryz.func15 (res0 rfl) ?_
    exact ⟨_, rfl, .slice ad10 _ c10, hb11, by
        rw [if_pos (by simp only [seesW, decide_eq_true_eq]; exact .inl (by simpa using (show (0 : Int) = who by simpa using h17).symm))]
        have e1 : ints (ids ++ [((1 : Nat) : Int)]) = ints ids ++ (Value.int .i64 ((1 : Nat) : Int)).cells.toList := by simp [ints, Value.cells]
        rw [e1, List.length_append]
        exact hr10.mod hm11 (fun b e1 e2 => (hr10.ty e1).ne h5'.ty rfl e2), by
        rcases hu10 with h1 | h1
        · exact .inl h1
        · exact .inr fun b e => by rw [h1] at e; cases e; omega, ((Mod.any' hg9).trans (hm10.mono fun b _ e => .inr e)).trans (hm11.mono fun b _ e => .inl e)⟩
  · refine RL.q (.yes rfl rfl rfl) rfl rfl (Yld.load p3 rfl (at1 (hI3.cell rfl))) ?_
    iterate 2 refine RL.q (.yes rfl rfl rfl) rfl rfl (Yld.pure rfl) ?_
    refine RL.knownT (d := 20) rfl rfl (by simpa using fun e => h17 (by simpa using e.symm)) ?_
    refine RL.q (.yes rfl rfl rfl) rfl rfl (Yld.loadN (cs := pl1) a64 rfl (atN (blkV hB))) ?_
    refine RL.q (.yes rfl rfl rfl) rfl rfl (Yld.load p3 rfl (at1 (hI3.cell rfl))) ?_
    refine RL.op (.yes rfl rfl rfl) rfl rfl (Does.call rfl e16 (about1_ok who _)) ?_
    rintro _ w2 ⟨rfl, hg2⟩
    refine RL.q (.yes rfl rfl rfl) rfl rfl (Yld.pure rfl) ?_
    refine RL.p rfl rfl ?_
    refine RL.done ?_
    first | refine RK.condD rfl (fun h25 => ?_) (fun h25 => ?_) | refine RK.condN rfl (fun h25 => ?_) (fun h25 => ?_) | refine RK.cond rfl (fun h25 => ?_) (fun h25 => ?_)
    · have hgg := hg1.trans hg2
      have hB2 := hB.mod hg2 (fun h => h)
      refine RK.region ?_
      refine RL.q (.free rfl) rfl rfl (Yld.load p33 rfl (at1 ((h5.mod hgg (fun h => h)).cell rfl))) ?_
      refine RL.q (.free rfl) rfl rfl (Yld.fieldAddr fo64_0 rfl) ?_
      refine RL.q (.free rfl) rfl rfl (Yld.load p3 rfl (at1 (hB2.cell rfl))) ?_
      refine RL.op (.free rfl) rfl rfl (Does.slice1 u33 i3 rfl rfl rfl rfl rfl) ?_
      rintro _ w9 ⟨b9, rfl, hn9⟩
      have hg9 := (hgg).trans hn9.grow
      refine RL.op (.free rfl) rfl rfl (Does.append u33 i3 rfl rfl rfl rfl rfl (hr.mod hg9 (fun _ _ h => h)) (Sl.new hn9 1 1 rfl (by omega) (fun h => h)) (rfl) (by omega)) ?_
      rintro u10 w10 ⟨hr10, hm10, hu10⟩
      have h5' := (h5.mod hg9 (fun h => h)).mod hm10 (fun e => h5.ty.ne (hr.ty e) rfl rfl)
      have hz9 := hn9.grow.size
      have hz0 := (hgg).size
      obtain ⟨ad10, c10, rfl⟩ := hr10.slice
      refine RL.op' (.free rfl) rfl (Does.store i33 rfl rfl rfl h5' (.z)) ?_
      rintro _ w11 ⟨hb11, hm11, hs11⟩
      refine RL.done ?_
      refine RK.end_of Tryz.func15 (res0 rfl) ?_
      exact ⟨_, rfl, .slice ad10 _ c10, hb11, by
          rw [if_pos (by simp only [seesW, decide_eq_true_eq]; exact .inr (by simpa using (show (1 : Int) = who by simpa using h25).symm))]
          have e1 : ints (ids ++ [((1 : Nat) : Int)]) = ints ids ++ (Value.int .i64 ((1 : Nat) : Int)).cells.toList := by simp [ints, Value.cells]
          rw [e1, List.length_append]
          exact hr10.mod hm11 (fun b e1 e2 => (hr10.ty e1).ne h5'.ty rfl e2), by
          rcases hu10 with h1 | h1
          · exact .inl h1
          · exact .inr fun b e => by rw [h1] at e; cases e; omega, ((Mod.any' hg9).trans (hm10.mono fun b _ e => .inr e)).trans (hm11.mono fun b _ e => .inl e)⟩
    · refine RK.skip ?_
      refine RK.end_of Tryz.func15 (res0 rfl) ?_
      exact ⟨_, rfl, .slice adv ids.length cv, h5.mod (hg1.trans hg2) (fun h => h), by
          rw [if_neg (by simp only [seesW, decide_eq_true_eq]; intro e; rcases e with e | e; exact h17 (by simpa using e.symm); exact h25 (by simpa using e.symm))]
          exact hr.mod (hg1.trans hg2) (fun _ _ h => h), .inl rfl, Mod.any' (hg1.trans hg2)⟩
theorem see2_ok (who : Int) (ids : List Int) (hl : ids.length ≤ 1000) {w : World} {b3 b5 : Nat} {v : Value} (h3 : Blk w b3 3 [.int .i64 who]) (h5 : Blk w b5 33 [v]) (hr : Row w 3 1 v ids.length (ints ids)) : Fx Tryz.prog 15 [.agg pl2.toArray, pp b3, pp b5] w (fun u w' => ∃ v', Blk w' b5 33 [v'] ∧ Row w' 3 1 v' (if seesW 2 who = true then ids ++ [((2 : Nat) : Int)] else ids).length (ints (if seesW 2 who = true then ids ++ [((2 : Nat) : Int)] else ids)) ∧ (v'.ownBlock = v.ownBlock ∨ ∀ b, v'.ownBlock = some b → w.heap.size ≤ b) ∧ Mod (fun b => b = b5 ∨ v.ownBlock = some b) w w') := by
  obtain ⟨adv, cv, rfl⟩ := hr.slice
  refine enter Tryz.func15 rfl rfl rfl _ (Pick.sub (l := [0, 1, 2]) (.cons rfl (.cons rfl (.cons rfl .nil)))) ?_
  refine RK.seq ?_
  refine RK.region ?_
  refine RL.op (.free rfl) rfl rfl (Does.box rfl) ?_
  rintro _ w1 ⟨b4, rfl, hn4⟩
  have hB : Blk w1 b4 64 pl2 := hn4.blk
  have hg1 := hn4.grow
  have hI3 := h3.mod hg1 (fun h => h)
  refine RL.done ?_
  refine RK.seq ?_
  refine RK.region ?_
  refine RL.q (.free rfl) rfl rfl (Yld.fieldAddr fo64_1 rfl) ?_
  refine RL.q (.free rfl) rfl rfl (Yld.load p4 rfl (at1 (hB.cell rfl))) ?_
  refine RL.p rfl rfl ?_
  refine RL.knownF (d := 6) rfl rfl (rfl) ?_
  refine RL.q (.yes rfl rfl rfl) rfl rfl (Yld.fieldAddr fo64_4 rfl) ?_
  refine RL.q (.yes rfl rfl rfl) rfl rfl (Yld.load p3 rfl (at1 (hB.cell rfl))) ?_
  iterate 2 refine RL.q (.yes rfl rfl rfl) rfl rfl (Yld.pure rfl) ?_
  refine RL.knownF (d := 10) rfl rfl (rfl) ?_
  iterate 4 refine RL.no (.no rfl rfl rfl rfl) rfl rfl ?_
  refine RL.q (.yes rfl rfl rfl) rfl rfl (Yld.pure rfl) ?_
  iterate 2 refine RL.p rfl rfl ?_
  refine RL.q (.yes rfl rfl rfl) rfl rfl (Yld.load p3 rfl (at1 (hI3.cell rfl))) ?_
  iterate 2 refine RL.q (.yes rfl rfl rfl) rfl rfl (Yld.pure rfl) ?_
  first | refine RL.splitD (d := 20) rfl rfl (fun h20 => ?_) (fun h20 => ?_) | refine RL.splitN (d := 20) rfl rfl (fun h20 => ?_) (fun h20 => ?_) | refine RL.split (d := 20) rfl rfl (fun h20 => ?_) (fun h20 => ?_)
  · refine RL.q (.yes rfl rfl rfl) rfl rfl (Yld.loadN (cs := pl2) a64 rfl (atN (blkV hB))) ?_
    refine RL.q (.yes rfl rfl rfl) rfl rfl (Yld.load p3 rfl (at1 (hI3.cell rfl))) ?_
    refine RL.op (.yes rfl rfl rfl) rfl rfl (Does.call rfl e16 (about2_ok who _)) ?_
    rintro _ w2 ⟨rfl, hg2⟩
    refine RL.q (.yes rfl rfl rfl) rfl rfl (Yld.pure rfl) ?_
    refine RL.p rfl rfl ?_
    refine RL.done ?_
    refine RK.condF (hcF rfl (rfl)) ?_
    refine RK.skip ?_
    refine RK.end_of Tryz.func15 (res0 rfl) ?_
    exact ⟨_, rfl, .slice adv ids.length cv, h5.mod (hg1.trans hg2) (fun h => h), hr.mod (hg1.trans hg2) (fun _ _ h => h), .inl rfl, Mod.any' (hg1.trans hg2)⟩
  · iterate 3 refine RL.no (.no rfl rfl rfl rfl) rfl rfl ?_
    refine RL.q (.yes rfl rfl rfl) rfl rfl (Yld.pure rfl) ?_
    refine RL.p rfl rfl ?_
    refine RL.done ?_
    refine RK.condF rfl ?_
    refine RK.skip ?_
    refine RK.end_of Tryz.func15 (res0 rfl) ?_
    exact ⟨_, rfl, .slice adv ids.length cv, h5.mod hg1 (fun h => h), hr.mod hg1 (fun _ _ h => h), .inl rfl, Mod.any' hg1⟩
theorem see_ok (k : Nat) (hk : k < 3) (who : Int) (ids : List Int) (hl : ids.length ≤ 1000) {w : World} {b3 b5 : Nat} {v : Value} (h3 : Blk w b3 3 [.int .i64 who]) (h5 : Blk w b5 33 [v]) (hr : Row w 3 1 v ids.length (ints ids)) : Fx Tryz.prog 15 [.agg (pl k).toArray, pp b3, pp b5] w (fun u w' => ∃ v', Blk w' b5 33 [v'] ∧ Row w' 3 1 v' (if seesW k who = true then ids ++ [(k : Int)] else ids).length (ints (if seesW k who = true then ids ++ [(k : Int)] else ids)) ∧ (v'.ownBlock = v.ownBlock ∨ ∀ b, v'.ownBlock = some b → w.heap.size ≤ b) ∧ Mod (fun b => b = b5 ∨ v.ownBlock = some b) w w') := by
  match k, hk with
  | 0, _ => exact see0_ok who ids hl h3 h5 hr
  | 1, _ => exact see1_ok who ids hl h3 h5 hr
  | 2, _ => exact see2_ok who ids hl h3 h5 hr
  | k + 3, hk => omega
structure Seen (wz : World) (N b5 : Nat) (ids : List Int) (w : World) : Prop where
  mod : Mod (· = b5) wz w
  out : ∃ v, Blk w b5 33 [v] ∧ Row w 3 1 v ids.length (ints ids) ∧ ∀ b, v.ownBlock = some b → N ≤ b
theorem viewOf_ok {n : Nat} {w : World} {xa qa : Option Addr} {xc qc : Nat} {ims : List Im} {qs : List Value} (h : LgN n w (.slice xa n xc) (.slice qa n qc) ims qs) (who : Int) : Fx Tryz.prog 6 [.agg (logC (.slice xa n xc) (.slice qa n qc)).toArray, .int .i64 who] w (fun u w' => Row w' 3 1 u (idsW who n).length (ints (idsW who n)) ∧ Fresh w.heap.size u ∧ Grow w w') := by
  have hn3 := h.n3
  refine enter Tryz.func6 rfl rfl rfl _ (Pick.sub (l := [0, 1]) (.cons rfl (.cons rfl .nil))) ?_
  refine RK.seq ?_
  refine RK.region ?_
  refine RL.op (.free rfl) rfl rfl (Does.box rfl) ?_
  rintro _ w1 ⟨b2, rfl, hn2⟩
  refine RL.op (.free rfl) rfl rfl (Does.box rfl) ?_
  rintro _ w2 ⟨b3, rfl, hn3'⟩
  have hB2 : Blk w2 b2 31 (logC (.slice xa n xc) (.slice qa n qc)) := hn2.blk.mod hn3'.grow (fun h => h)
  have hB3 : Blk w2 b3 3 [.int .i64 who] := hn3'.blk
  refine RL.p rfl rfl ?_
  refine RL.done ?_
  refine RK.seq ?_
  refine RK.region ?_
  refine RL.op (.free rfl) rfl rfl (Does.alloc i33) ?_
  rintro _ w3 ⟨b5, rfl, hn5⟩
  have ha2 := hn2.at_
  have ha3 := hn3'.at_
  have ha5 := hn5.at_
  have hz2 := hn2.size
  have hz3 := hn3'.size
  have hz5 := hn5.size
  have hg3 := (hn2.grow.trans hn3'.grow).trans hn5.grow
  have hB2' := hB2.mod hn5.grow (fun h => h)
  have hB3' := hB3.mod hn5.grow (fun h => h)
  have hd := Mod.drew No w3
  refine RL.done ?_
  refine RK.seq ?_
  refine RK.drawM (fun x => x = b5) [(0, false), (1, false), (3, false), (2, true), (4, true)] [] mixed (by kernel_rfl) ?_
  iterate 2 refine DL.q rfl (.free rfl) rfl rfl rfl (Yld.loadN (cs := logC (.slice xa n xc) (.slice qa n qc)) a31 rfl (atNM (blkV hB2') (fun e => by omega))) (Mod.drew _ _) ?_
  refine DL.p rfl rfl rfl ?_
  refine DL.op rfl (.free rfl) rfl rfl (Does.call rfl e14 (tlen_ok _ xa qa xc qc n n)) ?_
  rintro _ w4 ⟨rfl, hg4⟩
  have hg34 := hd.trans hg4
  refine ⟨Mod.any' hg34, ?_⟩
  have hz4 := hg34.size
  have hL4 := h.grow (hg3.trans hg34)
  refine DL.op rfl (.free rfl) rfl rfl (Does.call rfl e13 (walk_ok _ xa qa n xc n qc (fun k w' => Seen w4 w4.heap.size b5 (idsW who k) w') (min n n) n (by omega) (by omega) 15 #[pp b3, pp b5] e15 ⟨Mod.refl _ _, .slice none 0 0, hn5.blk.mod hg34 (fun h => h), Row.nil _ _ _, fun b e => by simp [Value.ownBlock] at e⟩ (fun k w1 w2 hi hg => by
      obtain ⟨v, h1, h2, h4⟩ := hi.out
      exact ⟨hi.mod.trans (Mod.any' hg), v, h1.mod hg (fun h => h), h2.mod hg (fun _ _ h => h), h4⟩) (fun k w1 w2 p m now hi hw hp hm => by
      obtain ⟨v, h1, h2, h4⟩ := hi.out
      exact ⟨hi.mod.then hm (fun x hx e => by have e' : x = p := e; omega), v, h1.mod hm (fun e => h1.ty.ne hw.blk.ty rfl e), h2.mod hm (fun b e1 e2 => (h2.ty e1).ne hw.blk.ty rfl e2), h4⟩) (fun k w1 p m hk hi hw => placeN_ok (h.grow ((hg3.trans hg34).then hi.mod (fun x hx e => by have e' : x = b5 := e; omega))) hk hw) (fun k w1 p m hk hi hw b hb => by
      obtain ⟨v, h1, h2, h4⟩ := hi.out
      have hl := idsW_len who k
      refine (see_ok k (by omega) who (idsW who k) (by omega) ((hB3'.mod hg34 (fun h => h)).mod hi.mod (fun e => by have e' : b3 = b5 := e; omega)) h1 h2).mono ?_
      rintro u w2' ⟨v', h1', h2', h3', hm'⟩
      have hz := hi.mod.size
      refine ⟨⟨hi.mod.then hm' (fun x hx e => e.elim id fun e => by have := h4 x e; exact absurd hx (by omega)), v', h1', h2', fun b e => by rcases h3' with h5 | h5; rw [h5] at e; exact h4 b e; have := h5 b e; omega⟩, ⟨hw.blk.mod hm' (fun e => e.elim (fun e => hw.blk.ty.ne h1.ty rfl e) (fun e => hw.blk.ty.ne (h2.ty e) rfl rfl)), hw.map.mod hm' (fun e => e.elim (fun e => h1.ty.nem hw.map.mp e.symm) (fun e => (h2.ty e).nem hw.map.mp rfl))⟩, hb.mod hm' (fun e => e.elim (fun e => hb.ty.ne h1.ty rfl e) (fun e => hb.ty.ne (h2.ty e) rfl rfl))⟩))) ?_
  rintro _ w5 ⟨rfl, hi5⟩
  refine ⟨(Mod.any' hg34).trans hi5.mod, ?_⟩
  obtain ⟨v, h1, h2, h4⟩ := hi5.out
  refine DL.done ?_
  refine RK.seq ?_
  refine RK.region ?_
  refine RL.q (.free rfl) rfl rfl (Yld.load p33 rfl (at1 (h1.cell rfl))) ?_
  refine RL.p rfl rfl ?_
  refine RL.done ?_
  refine RK.ret_of Tryz.func6 (res1 rfl rfl) ?_ _
  exact ⟨_, rfl, h2, fun b e => by have := h4 b e; omega, (hg3.trans hg34).then hi5.mod (fun x hx e => by have e' : x = b5 := e; omega)⟩
end Go.Proofs.YtghcdngegadkaaaGreat
set_option linter.unusedVariables false
set_option linter.unusedSimpArgs false
set_option maxHeartbeats 6400000
set_option maxRecDepth 100000
namespace Go.Proofs.YtghcdngegadkaaaGreat
open Go Go.X
theorem cloneB_ok (M : Nat → Prop) (bs : List UInt8) (v : Value) (w : World) (hv : Sl M w v 1 bs.length (bytesV bs)) (hb : bs.length ≤ 1000) :
    Fx Tryz.prog 34 [v] w (fun u w' => Row w' 5 1 u bs.length (bytesV bs) ∧ Fresh w.heap.size u ∧ Grow w w') := by
  obtain ⟨ad, c, b, o, rfl, hf⟩ := hv.open
  refine enter Tryz.func34 rfl rfl rfl _ (Pick.sub (l := [0]) (.cons rfl .nil)) ?_
  refine RK.seq ?_
  refine RK.region ?_
  refine RL.p rfl rfl ?_
  refine RL.done ?_
  iterate 2 refine RK.seq ?_
  refine RK.region ?_
  refine RL.p rfl rfl ?_
  refine RL.q (.free rfl) rfl rfl (Yld.eqNil u25 rfl rfl) ?_
  refine RL.done ?_
  first | refine RK.condD rfl (fun h4 => ?_) (fun h4 => ?_) | refine RK.condN rfl (fun h4 => ?_) (fun h4 => ?_) | refine RK.cond rfl (fun h4 => ?_) (fun h4 => ?_)
  · refine RK.seq ?_
    refine RK.region ?_
    refine RL.p rfl rfl ?_
    refine RL.done ?_
    refine RK.ret_of Tryz.func34 (res1 rfl rfl) ?_ _
    exact ⟨_, rfl, by cases ad with | none => (have h0 : bs.length = 0 := by (rcases Nat.eq_zero_or_pos bs.length with h | h; exact h; exact absurd (hf h).1 (by simp))); have : bs = [] := List.eq_nil_of_length_eq_zero h0; subst this; exact ⟨Row.nil _ _ _, fun b hb => by simp [Value.ownBlock] at hb, Mod.refl _ _⟩ | some a => simp at h4⟩
  · refine RK.skip ?_
    refine RK.seq ?_
    refine RK.region ?_
    refine RL.op (.free rfl) rfl rfl (Does.slice0 u25 i5) ?_
    rintro _ w1 ⟨b1, rfl, hn1⟩
    refine RL.p rfl rfl ?_
    refine RL.op (.free rfl) rfl rfl (Does.append u25 i5 rfl rfl rfl rfl rfl (Row.new hn1 1 0 rfl (by omega)) ((hv.mod (Mod.any' hn1.grow)).noM) (bytesV_one bs) (by omega)) ?_
    rintro u w2 ⟨hr, hm, hu⟩
    refine RL.p rfl rfl ?_
    refine RL.done ?_
    refine RK.ret_of Tryz.func34 (res1 rfl rfl) ?_ _
    exact ⟨_, rfl, by simpa using hr, fun b hb => by rcases hu with hu | hu <;> rw [hu] at hb <;> simp [Value.ownBlock] at hb <;> (have := hn1.at_; have := hn1.size; omega), hn1.grow.then hm (fun x hx e => by simp [Value.ownBlock] at e; have := hn1.at_; omega)⟩
theorem bytesEq_ok (bs : List UInt8) (v1 v2 : Value) (w : World) (h1 : Sl No w v1 1 bs.length (bytesV bs)) (h2 : Sl No w v2 1 bs.length (bytesV bs)) :
    Fx Tryz.prog 35 [v1, v2] w (fun u w' => u = .bool true ∧ w = w') := by
  refine enter Tryz.func35 rfl rfl rfl _ (Pick.sub (l := [0, 1]) (.cons rfl (.cons rfl .nil))) ?_
  refine RK.seq ?_
  refine RK.region ?_
  refine RL.p rfl rfl ?_
  refine RL.done ?_
  refine RK.seq ?_
  refine RK.region ?_
  refine RL.p rfl rfl ?_
  refine RL.q (.free rfl) rfl rfl (Yld.bytesSl u25 Tryz.underlying5 Tryz.underlying9 rfl (fun w9 h9 => h9 ▸ h1)) ?_
  refine RL.p rfl rfl ?_
  refine RL.q (.free rfl) rfl rfl (Yld.bytesSl u25 Tryz.underlying5 Tryz.underlying9 rfl (fun w9 h9 => h9 ▸ h2)) ?_
  iterate 2 refine RL.p rfl rfl ?_
  refine RL.done ?_
  refine RK.ret_of Tryz.func35 (res1 rfl rfl) ?_ _
  exact ⟨_, rfl, by simp, rfl⟩
theorem alike_ok (x y : Im) (w : World) (ht : x.t = y.t) (hn : x.n = y.n) (hb : x.bs = y.bs) (h1 : Sl No w x.v 1 x.bs.length (bytesV x.bs)) (h2 : Sl No w y.v 1 y.bs.length (bytesV y.bs)) :
    Fx Tryz.prog 19 [.agg (imC x).toArray, .agg (imC y).toArray] w (fun u w' => u = .bool true ∧ Grow w w') := by
  obtain ⟨xt, xn, xv, xb⟩ := x
  obtain ⟨yt, yn, yv, yb⟩ := y
  simp only at ht hn hb h1 h2
  subst ht
  subst hn
  subst hb
  cases xt with
  | true =>
    refine enter Tryz.func19 rfl rfl rfl _ (Pick.sub (l := [0, 1]) (.cons rfl (.cons rfl .nil))) ?_
    refine RK.seq ?_
    refine RK.region ?_
    refine RL.op (.free rfl) rfl rfl (Does.box rfl) ?_
    rintro _ w1 ⟨b2, rfl, hn2⟩
    refine RL.op (.free rfl) rfl rfl (Does.box rfl) ?_
    rintro _ w2 ⟨b3, rfl, hn3⟩
    have hB2 : Blk w2 b2 27 (imC ⟨true, xn, xv, xb⟩) := hn2.blk.mod hn3.grow (fun h => h)
    have hB3 : Blk w2 b3 27 (imC ⟨true, xn, yv, xb⟩) := hn3.blk
    refine RL.p rfl rfl ?_
    refine RL.done ?_
    iterate 2 refine RK.seq ?_
    refine RK.region ?_
    refine RL.q (.free rfl) rfl rfl (Yld.fieldAddr fo27_0 rfl) ?_
    refine RL.q (.free rfl) rfl rfl (Yld.load p4 rfl (at1 (hB2.cell rfl))) ?_
    refine RL.p rfl rfl ?_
    refine RL.knownT (d := 7) rfl rfl (rfl) ?_
    iterate 2 refine RL.no (.no rfl rfl rfl rfl) rfl rfl ?_
    refine RL.p rfl rfl ?_
    refine RL.done ?_
    refine RK.condT rfl ?_
    refine RK.seq ?_
    refine RK.region ?_
    refine RL.q (.free rfl) rfl rfl (Yld.fieldAddr fo27_0 rfl) ?_
    refine RL.q (.free rfl) rfl rfl (Yld.load p4 rfl (at1 (hB2.cell rfl))) ?_
    refine RL.q (.free rfl) rfl rfl (Yld.fieldAddr fo27_0 rfl) ?_
    refine RL.q (.free rfl) rfl rfl (Yld.load p4 rfl (at1 (hB3.cell rfl))) ?_
    refine RL.q (.free rfl) rfl rfl (Yld.eqBool u4 rfl rfl) ?_
    refine RL.p rfl rfl ?_
    refine RL.knownT (d := 16) rfl rfl (by simp) ?_
    refine RL.q (.yes rfl rfl rfl) rfl rfl (Yld.fieldAddr fo27_1 rfl) ?_
    refine RL.q (.yes rfl rfl rfl) rfl rfl (Yld.load p22 rfl (at1 (hB2.cell rfl))) ?_
    refine RL.q (.yes rfl rfl rfl) rfl rfl (Yld.fieldAddr fo27_1 rfl) ?_
    refine RL.q (.yes rfl rfl rfl) rfl rfl (Yld.load p22 rfl (at1 (hB3.cell rfl))) ?_
    refine RL.q (.yes rfl rfl rfl) rfl rfl (Yld.pure rfl) ?_
    iterate 2 refine RL.p rfl rfl ?_
    refine RL.done ?_
    refine RK.ret_of Tryz.func19 (res1 rfl rfl) ?_ _
    exact ⟨_, rfl, by simp, hn2.grow.trans hn3.grow⟩
  | false =>
    refine enter Tryz.func19 rfl rfl rfl _ (Pick.sub (l := [0, 1]) (.cons rfl (.cons rfl .nil))) ?_
    refine RK.seq ?_
    refine RK.region ?_
    refine RL.op (.free rfl) rfl rfl (Does.box rfl) ?_
    rintro _ w1 ⟨b2, rfl, hn2⟩
    refine RL.op (.free rfl) rfl rfl (Does.box rfl) ?_
    rintro _ w2 ⟨b3, rfl, hn3⟩
    have hB2 : Blk w2 b2 27 (imC ⟨false, xn, xv, xb⟩) := hn2.blk.mod hn3.grow (fun h => h)
    have hB3 : Blk w2 b3 27 (imC ⟨false, xn, yv, xb⟩) := hn3.blk
    have hg2 := hn2.grow.trans hn3.grow
    refine RL.p rfl rfl ?_
    refine RL.done ?_
    iterate 2 refine RK.seq ?_
    refine RK.region ?_
    refine RL.q (.free rfl) rfl rfl (Yld.fieldAddr fo27_0 rfl) ?_
    refine RL.q (.free rfl) rfl rfl (Yld.load p4 rfl (at1 (hB2.cell rfl))) ?_
    refine RL.p rfl rfl ?_
    refine RL.knownF (d := 7) rfl rfl (rfl) ?_
    refine RL.q (.yes rfl rfl rfl) rfl rfl (Yld.fieldAddr fo27_0 rfl) ?_
    refine RL.q (.yes rfl rfl rfl) rfl rfl (Yld.load p4 rfl (at1 (hB3.cell rfl))) ?_
    refine RL.p rfl rfl ?_
    refine RL.done ?_
    refine RK.condF (hcF rfl (rfl)) ?_
    refine RK.skip ?_
    refine RK.seq ?_
    refine RK.region ?_
    refine RL.q (.free rfl) rfl rfl (Yld.fieldAddr fo27_2 rfl) ?_
    refine RL.q (.free rfl) rfl rfl (Yld.load p25 rfl (at1 (hB2.cell rfl))) ?_
    refine RL.q (.free rfl) rfl rfl (Yld.fieldAddr fo27_2 rfl) ?_
    refine RL.q (.free rfl) rfl rfl (Yld.load p25 rfl (at1 (hB3.cell rfl))) ?_
    refine RL.op (.free rfl) rfl rfl (Does.call rfl e35 (bytesEq_ok xb xv yv _ (h1.mod hg2) (h2.mod hg2))) ?_
    rintro _ _ ⟨rfl, rfl⟩
    refine RL.p rfl rfl ?_
    refine RL.done ?_
    refine RK.ret_of Tryz.func19 (res1 rfl rfl) ?_ _
    exact ⟨_, rfl, rfl, hg2⟩
theorem imC_one {x : Im} {ad : Option Addr} {n c : Nat} (h : x.v = .slice ad n c) : ((Value.agg (imC x).toArray).cells.toList.all (·.oneCell')) = true := by
  obtain ⟨t, k, v, b⟩ := x
  simp only at h
  subst h
  rfl
def strip (x : Im) : Bool × Nat × List UInt8 := (x.t, x.n, x.bs)
theorem equalIm_ok (ys zs : List Im) (hyz : ys.map strip = zs.map strip) (vy vz : Value) (w : World) (hy : Sl No w vy 3 ys.length (ys.flatMap imC)) (hz : Sl No w vz 3 zs.length (zs.flatMap imC)) (hyr : ∀ x ∈ ys, Sl No w x.v 1 x.bs.length (bytesV x.bs)) (hzr : ∀ x ∈ zs, Sl No w x.v 1 x.bs.length (bytesV x.bs)) (hl : ys.length ≤ 1000) :
    Fx Tryz.prog 17 [vy, vz, .func (.func 19) #[] #[]] w (fun u w' => u = .bool true ∧ Grow w w') := by
  obtain ⟨ay, cy, rfl⟩ := hy.shape
  obtain ⟨az, cz, rfl⟩ := hz.shape
  have hlen : ys.length = zs.length := by simpa using congrArg List.length hyz
  refine enter Tryz.func17 rfl rfl rfl _ (Pick.sub (l := [0, 1, 2]) (.cons rfl (.cons rfl (.cons rfl .nil)))) ?_
  refine RK.seq ?_
  refine RK.region ?_
  refine RL.p rfl rfl ?_
  refine RL.done ?_
  iterate 2 refine RK.seq ?_
  refine RK.region ?_
  refine RL.p rfl rfl ?_
  refine RL.q (.free rfl) rfl rfl (Yld.lenSl u28 rfl) ?_
  refine RL.p rfl rfl ?_
  refine RL.q (.free rfl) rfl rfl (Yld.lenSl u28 rfl) ?_
  refine RL.p rfl rfl ?_
  refine RL.done ?_
  refine RK.condF (hcF rfl (by simp [hlen])) ?_
  refine RK.skip ?_
  iterate 2 refine RK.seq ?_
  refine RK.region ?_
  refine RL.p rfl rfl ?_
  refine RL.q (.free rfl) rfl rfl (Yld.lenSl u28 rfl) ?_
  refine RL.p rfl rfl ?_
  refine RL.done ?_
  refine RK.block ?_
  refine RK.loop (fun k : Nat => [(1, .slice az zs.length cz), (2, .func (.func 19) #[] #[]), (15, .slice ay ys.length cy), (16, .int .i64 (ys.length : Int)), (17, .int .i64 (k : Int))]) (fun k w' => Grow w w' ∧ k ≤ ys.length) (fun k => ys.length - k) 0 ⟨rfl, rfl, rfl, rfl, rfl, trivial⟩ ⟨Mod.refl _ _, Nat.zero_le _⟩ (fun k w' hI ih => ?_)
  obtain ⟨hg, hk⟩ := hI
  refine RK.seq ?_
  refine RK.region ?_
  refine RL.p rfl rfl ?_
  refine RL.done ?_
  refine RK.seq ?_
  first | refine RK.condD rfl (fun h18 => ?_) (fun h18 => ?_) | refine RK.condN rfl (fun h18 => ?_) (fun h18 => ?_) | refine RK.cond rfl (fun h18 => ?_) (fun h18 => ?_)
  · obtain ⟨x, hx⟩ : ∃ x, ys[k]? = some x := ⟨ys[k]'(by omega), List.getElem?_eq_getElem (by omega)⟩
    obtain ⟨y, hy'⟩ : ∃ y, zs[k]? = some y := ⟨zs[k]'(by omega), List.getElem?_eq_getElem (by omega)⟩
    have hs : strip x = strip y := by
        have := congrArg (fun l => l[k]?) hyz
        simpa [hx, hy'] using this
    have hs1 : x.t = y.t := congrArg (fun p => p.1) hs
    have hs2 : x.n = y.n := congrArg (fun p => p.2.1) hs
    have hs3 : x.bs = y.bs := congrArg (fun p => p.2.2) hs
    obtain ⟨b1, o1, c1, he1, _, _, hc1⟩ := hy.elem imC_len hx
    cases he1
    obtain ⟨b2, o2, c2, he2, _, _, hc2⟩ := hz.elem imC_len hy'
    cases he2
    obtain ⟨axv, cxv, hxv⟩ := (hyr x (List.mem_of_getElem? hx)).shape
    obtain ⟨ayv, cyv, hyv⟩ := (hzr y (List.mem_of_getElem? hy')).shape
    refine RK.skip ?_
    refine RK.seq ?_
    refine RK.block ?_
    refine RK.seq ?_
    refine RK.region ?_
    refine RL.p rfl rfl ?_
    refine RL.q (.free rfl) rfl rfl (Yld.indexAddrN u28 i27 rfl rfl (by omega)) ?_
    refine RL.q (.free rfl) rfl rfl (Yld.loadN (cs := imC x) a27 rfl (atN (fun j u hj => hg.cell (hc1 j u hj) (fun h => h)))) ?_
    refine RL.op (.free rfl) rfl rfl (Does.alloc i27) ?_
    rintro _ w2 ⟨b8, rfl, hn8⟩
    refine RL.p rfl rfl ?_
    refine RL.op' (.free rfl) rfl (Does.storeN i27 rfl rfl rfl (imC_one hxv) hn8.blk (Nat.le_refl 3)) ?_
    rintro _ w3 ⟨hb3, hm3, hs3'⟩
    have hB8 : Blk w3 b8 27 (imC x) := hb3
    have ha8 := hn8.at_
    have hz8 := hn8.size
    have hg3 : Grow w' w3 := hn8.grow.then hm3 (fun b hb e => by have e' : b = b8 := e; omega)
    have hg03 := hg.trans hg3
    refine RL.done ?_
    refine RK.seq ?_
    refine RK.region ?_
    iterate 2 refine RL.p rfl rfl ?_
    refine RL.q (.free rfl) rfl rfl (Yld.indexAddrN u28 i27 rfl rfl (by omega)) ?_
    refine RL.q (.free rfl) rfl rfl (Yld.loadN (cs := imC y) a27 rfl (atN (fun j u hj => hg03.cell (hc2 j u hj) (fun h => h)))) ?_
    refine RL.op (.free rfl) rfl rfl (Does.alloc i27) ?_
    rintro _ w4 ⟨b9, rfl, hn9⟩
    have ha9 := hn9.at_
    refine RL.op' (.free rfl) rfl (Does.storeN i27 rfl rfl rfl (imC_one hyv) hn9.blk (Nat.le_refl 3)) ?_
    rintro _ w5 ⟨hb5, hm5, hs5⟩
    have hB9 : Blk w5 b9 27 (imC y) := hb5
    have hB8' := (hB8.mod hn9.grow (fun h => h)).mod hm5 (fun e => by have e' : b8 = b9 := e; have := hB8.lt; omega)
    have hz3 := hg3.size
    have hg05 : Grow w w5 := (hg03.trans hn9.grow).then hm5 (fun b hb e => by have e' : b = b9 := e; have := hg03.size; omega)
    refine RL.done ?_
    refine RK.seq ?_
    refine RK.region ?_
    refine RL.p rfl rfl ?_
    refine RL.q (.free rfl) rfl rfl (Yld.loadN (cs := imC x) a27 rfl (atN (blkV hB8'))) ?_
    refine RL.q (.free rfl) rfl rfl (Yld.loadN (cs := imC y) a27 rfl (atN (blkV hB9))) ?_
    refine RL.op (.free rfl) rfl rfl (Does.callv rfl rfl e19 (alike_ok x y _ hs1 hs2 hs3 ((hyr x (List.mem_of_getElem? hx)).mod hg05) ((hzr y (List.mem_of_getElem? hy')).mod hg05))) ?_
    rintro _ w6 ⟨rfl, hg6⟩
    refine RL.p rfl rfl ?_
    refine RL.done ?_
    refine RK.condF (hcF rfl (rfl)) ?_
    refine RK.skip ?_
    refine RK.inBlock ?_
    refine RK.region ?_
    refine RL.p rfl rfl ?_
    refine RL.re (d := 31) rfl rfl (succ_i64 (by omega)) ?_
    refine RL.p rfl rfl ?_
    refine RL.done ?_
    exact RK.back (ih (k + 1) _ ⟨hg05.trans hg6, by omega⟩ (by omega)) ⟨rfl, rfl, rfl, rfl, rfl, trivial⟩
  · refine RK.exit rfl ?_
    refine RK.seq ?_
    refine RK.region ?_
    refine RL.p rfl rfl ?_
    refine RL.done ?_
    refine RK.ret_of Tryz.func17 (res1 rfl rfl) ?_ _
    exact ⟨_, rfl, rfl, hg⟩
theorem keep_ok (ims : List Im) (vi : Value) (w : World) (hit : Sl No w vi 3 ims.length (ims.flatMap imC)) (hraw : ∀ x ∈ ims, Sl No w x.v 1 x.bs.length (bytesV x.bs) ∧ x.bs.length ≤ 1000) (js : List Nat) (hj : ∀ j ∈ js, j < ims.length) (hl : js.length ≤ 1000) (hil : ims.length ≤ 1000) (vp : Value) (hp : Sl No w vp 1 js.length (ints (js.map fun (j : Nat) => (j : Int)))) :
    Fx Tryz.prog 18 [vi, vp] w (fun u w' => ∃ ys : List Im, Row w' 27 3 u ys.length (ys.flatMap imC) ∧ Fresh w.heap.size u ∧ (∀ y ∈ ys, Row w' 5 1 y.v y.bs.length (bytesV y.bs)) ∧ ys.length = js.length ∧ ys.map strip = js.filterMap (fun j => (ims[j]?).map strip) ∧ Grow w w') := by
  obtain ⟨ai, ci, rfl⟩ := hit.shape
  obtain ⟨ap, cp, rfl⟩ := hp.shape
  refine enter Tryz.func18 rfl rfl rfl _ (Pick.sub (l := [0, 1]) (.cons rfl (.cons rfl .nil))) ?_
  refine RK.seq ?_
  refine RK.region ?_
  refine RL.p rfl rfl ?_
  refine RL.done ?_
  refine RK.seq ?_
  refine RK.region ?_
  refine RL.p rfl rfl ?_
  refine RL.done ?_
  iterate 2 refine RK.seq ?_
  refine RK.region ?_
  refine RL.p rfl rfl ?_
  refine RL.q (.free rfl) rfl rfl (Yld.lenSl u33 rfl) ?_
  refine RL.p rfl rfl ?_
  refine RL.done ?_
  refine RK.block ?_
  refine RK.loop (fun s : Nat × Value × List Im => [(0, .slice ai ims.length ci), (5, s.2.1), (9, .slice ap js.length cp), (10, .int .i64 (js.length : Int)), (11, .int .i64 (s.1 : Int))]) (fun s w' => Row w' 27 3 s.2.1 s.2.2.length (s.2.2.flatMap imC) ∧ Fresh w.heap.size s.2.1 ∧ (∀ y ∈ s.2.2, Row w' 5 1 y.v y.bs.length (bytesV y.bs)) ∧ s.2.2.length = s.1 ∧ s.2.2.map strip = (js.take s.1).filterMap (fun j => (ims[j]?).map strip) ∧ Grow w w' ∧ s.1 ≤ js.length) (fun s => js.length - s.1) (0, .slice none 0 0, []) ⟨rfl, rfl, rfl, rfl, rfl, trivial⟩ ⟨Row.nil _ _ _, fun b e => by simp [Value.ownBlock] at e, by simp, rfl, by simp, Mod.refl _ _, Nat.zero_le _⟩ (fun s w' hI ih => ?_)
  obtain ⟨k, u, ys⟩ := s
  obtain ⟨hr, hf, hy, hyl, hst, hg, hk⟩ := hI
  simp only at hr hf hy hyl hst hk
  refine RK.seq ?_
  refine RK.region ?_
  refine RL.p rfl rfl ?_
  refine RL.done ?_
  refine RK.seq ?_
  first | refine RK.condD rfl (fun h12 => ?_) (fun h12 => ?_) | refine RK.condN rfl (fun h12 => ?_) (fun h12 => ?_) | refine RK.cond rfl (fun h12 => ?_) (fun h12 => ?_)
  · obtain ⟨j, hjk⟩ : ∃ j, js[k]? = some j := ⟨js[k]'(by omega), List.getElem?_eq_getElem (by omega)⟩
    have hjl := hj j (List.mem_of_getElem? hjk)
    obtain ⟨x, hx⟩ : ∃ x, ims[j]? = some x := ⟨ims[j]'(by omega), List.getElem?_eq_getElem (by omega)⟩
    obtain ⟨b1, o1, c1, he1, _, _, hc1⟩ := (hp.mod hg).elem1 (k := k) (u := .int .i64 (j : Int)) (by simp [ints, hjk])
    cases he1
    obtain ⟨b2, o2, c2, he2, _, _, hc2⟩ := hit.elem imC_len hx
    cases he2
    obtain ⟨hxr, hxl⟩ := hraw x (List.mem_of_getElem? hx)
    obtain ⟨axv, cxv, hxv⟩ := hxr.shape
    refine RK.skip ?_
    refine RK.seq ?_
    refine RK.block ?_
    refine RK.seq ?_
    refine RK.region ?_
    refine RL.q (.free rfl) rfl rfl (Yld.indexAddrN u33 i3 rfl rfl (by omega)) ?_
    refine RL.q (.free rfl) rfl rfl (Yld.load p3 rfl (at1 (hc1 k (.int .i64 (j : Int)) (by simp [ints, hjk])))) ?_
    refine RL.p rfl rfl ?_
    refine RL.done ?_
    refine RK.seq ?_
    refine RK.region ?_
    iterate 3 refine RL.p rfl rfl ?_
    refine RL.knownT (d := 17) rfl rfl (decide_eq_true (by omega)) ?_
    iterate 2 refine RL.q (.yes rfl rfl rfl) rfl rfl (Yld.pure rfl) ?_
    refine RL.q (.yes rfl rfl rfl) rfl rfl (Yld.lenSl u28 rfl) ?_
    refine RL.q (.yes rfl rfl rfl) rfl rfl (Yld.pure rfl) ?_
    refine RL.p rfl rfl ?_
    refine RL.done ?_
    refine RK.condT (hcT rfl (decide_eq_true (by omega))) ?_
    refine RK.seq ?_
    refine RK.region ?_
    iterate 2 refine RL.p rfl rfl ?_
    refine RL.q (.free rfl) rfl rfl (Yld.indexAddrN u28 i27 rfl rfl (by omega)) ?_
    refine RL.q (.free rfl) rfl rfl (Yld.loadN (cs := imC x) a27 rfl (atN (fun q z hq => hg.cell (hc2 q z hq) (fun h => h)))) ?_
    refine RL.op (.free rfl) rfl rfl (Does.alloc i27) ?_
    rintro _ w2 ⟨b8, rfl, hn8⟩
    have ha8 := hn8.at_
    have hz8 := hn8.size
    refine RL.op' (.free rfl) rfl (Does.storeN i27 rfl rfl rfl (imC_one hxv) hn8.blk (Nat.le_refl 3)) ?_
    rintro _ w3 ⟨hb3, hm3, hs3⟩
    have hB3 : Blk w3 b8 27 (imC x) := hb3
    have hg3 : Grow w' w3 := hn8.grow.then hm3 (fun b hb e => by have e' : b = b8 := e; omega)
    refine RL.done ?_
    refine RK.seq ?_
    refine RK.region ?_
    refine RL.q (.free rfl) rfl rfl (Yld.fieldAddr fo27_2 rfl) ?_
    refine RL.q (.free rfl) rfl rfl (Yld.load p25 rfl (at1 (hB3.cell rfl))) ?_
    refine RL.op (.free rfl) rfl rfl (Does.call rfl e34 (cloneB_ok No x.bs x.v _ ((hxr.mod hg).mod hg3) hxl)) ?_
    rintro u4 w4 ⟨hr4, hf4, hg4⟩
    obtain ⟨ad4, c4, rfl⟩ := hr4.slice
    have hB4 := hB3.mod hg4 (fun h => h)
    refine RL.q (.free rfl) rfl rfl (Yld.fieldAddr fo27_2 rfl) ?_
    refine RL.op' (.free rfl) rfl (Does.storeN (o := 2) i25 rfl rfl rfl rfl hB4 (Nat.le_refl 3)) ?_
    rintro _ w5 ⟨hb5, hm5, hs5⟩
    obtain ⟨x', hx'⟩ : ∃ x' : Im, x' = ⟨x.t, x.n, .slice ad4 x.bs.length c4, x.bs⟩ := ⟨_, rfl⟩
    have hB5 : Blk w5 b8 27 (imC ⟨x.t, x.n, .slice ad4 x.bs.length c4, x.bs⟩) := hb5
    refine RL.done ?_
    refine RK.region ?_
    refine RL.p rfl rfl ?_
    refine RL.q (.free rfl) rfl rfl (Yld.loadN (cs := imC ⟨x.t, x.n, .slice ad4 x.bs.length c4, x.bs⟩) a27 rfl (atN (blkV hB5))) ?_
    refine RL.op (.free rfl) rfl rfl (Does.slice1 u28 i27 rfl rfl rfl rfl rfl) ?_
    rintro _ w6 ⟨b33, rfl, hn33⟩
    have hz3 := hg3.size
    have hz4 := hg4.size
    have hg46 : Grow w' w6 := ((hg3.trans hg4).then hm5 (fun b hb e => by have e' : b = b8 := e; omega)).trans hn33.grow
    have hz0 := hg.size
    refine RL.op (.free rfl) rfl rfl (Does.append u28 i27 rfl rfl rfl rfl rfl (hr.mod hg46 (fun _ _ h => h)) (Sl.new hn33 3 1 rfl (by omega) (fun h => h)) (rfl) (by omega)) ?_
    rintro u7 w7 ⟨hr7, hm7, hu7⟩
    have hr4' := ((hr4.mod hm5 (fun b e1 e2 => (hr4.ty e1).ne hB4.ty rfl e2)).mod hn33.grow (fun _ _ h => h))
    have hr46 := hr.mod hg46 (fun _ _ h => h)
    have hz33 := hn33.size
    have ha33 := hn33.at_
    refine RL.p rfl rfl ?_
    refine RL.done ?_
    refine RK.inBlock ?_
    refine RK.region ?_
    refine RL.p rfl rfl ?_
    refine RL.re (d := 35) rfl rfl (succ_i64 (by omega)) ?_
    refine RL.p rfl rfl ?_
    refine RL.done ?_
    exact RK.back (ih (k + 1, u7, ys ++ [⟨x.t, x.n, .slice ad4 x.bs.length c4, x.bs⟩]) _ ⟨by
        simp only
        rw [List.length_append, List.flatMap_append, List.flatMap_singleton]; exact hr7, fun b e => by
        rcases hu7 with h1 | h1
        · exact hf b (h1 ▸ e)
        · rw [h1] at e; cases e; have := hg46.size; omega, fun y hy' => by
        rcases List.mem_append.1 hy' with hy' | hy'
        · have h1 := (hy y hy').mod hg46 (fun _ _ h => h)
          exact h1.mod hm7 (fun b e1 e2 => (h1.ty e1).ne (hr46.ty e2) rfl rfl)
        · obtain rfl := List.mem_singleton.1 hy'
          exact hr4'.mod hm7 (fun b e1 e2 => (hr4'.ty e1).ne (hr46.ty e2) rfl rfl), by simp [hyl], by
        simp only
        rw [List.map_append, hst, List.take_add_one, hjk, List.filterMap_append]
        simp [hx, strip], (hg.trans hg46).then hm7 (fun b hb e => by have := hf b e; omega), by simp only; omega⟩ (by simp only; omega)) ⟨rfl, rfl, rfl, rfl, rfl, trivial⟩
  · refine RK.exit rfl ?_
    refine RK.seq ?_
    refine RK.region ?_
    iterate 2 refine RL.p rfl rfl ?_
    refine RL.done ?_
    refine RK.ret_of Tryz.func18 (res1 rfl rfl) ?_ _
    exact ⟨_, rfl, ys, hr, hf, hy, by omega, by rw [hst, List.take_of_length_le (by omega)], hg⟩
theorem same_ok {n : Nat} {w : World} {xa qa : Option Addr} {xc qc : Nat} {ims : List Im} {qs : List Value} (h : LgN n w (.slice xa n xc) (.slice qa n qc) ims qs) (hil : ∀ x ∈ ims, x.bs.length ≤ 1000) (who : Int) (js : List Nat) (hjs : idsW who n = js.map fun (j : Nat) => (j : Int)) (hj : ∀ j ∈ js, j < n) : Fx Tryz.prog 7 [.agg (logC (.slice xa n xc) (.slice qa n qc)).toArray, .agg (logC (.slice xa n xc) (.slice qa n qc)).toArray, .int .i64 who] w (fun u w' => u = .bool true ∧ Grow w w') := by
  have hn3 := h.n3
  have hjl : js.length ≤ n := by have := idsW_len who n; rw [hjs, List.length_map] at this; exact this
  refine enter Tryz.func7 rfl rfl rfl _ (Pick.sub (l := [0, 1, 2]) (.cons rfl (.cons rfl (.cons rfl .nil)))) ?_
  refine RK.seq ?_
  refine RK.region ?_
  refine RL.op (.free rfl) rfl rfl (Does.box rfl) ?_
  rintro _ w1 ⟨b3, rfl, hn3'⟩
  refine RL.op (.free rfl) rfl rfl (Does.box rfl) ?_
  rintro _ w2 ⟨b4, rfl, hn4⟩
  have hB3 : Blk w2 b3 31 (logC (.slice xa n xc) (.slice qa n qc)) := hn3'.blk.mod hn4.grow (fun h => h)
  have hB4 : Blk w2 b4 31 (logC (.slice xa n xc) (.slice qa n qc)) := hn4.blk
  have hg2 := hn3'.grow.trans hn4.grow
  have hd := Mod.drew No w2
  have hg2d := hg2.trans hd
  refine RL.p rfl rfl ?_
  refine RL.done ?_
  refine RK.seq ?_
  refine RK.drawM No [(0, false), (1, false), (2, false), (3, false), (6, false), (7, false), (8, false), (9, false), (4, true), (5, true), (10, true), (11, true), (12, true), (13, false)] [] mixed (by kernel_rfl) ?_
  refine DL.qf rfl (.free rfl) rfl rfl (Yld.fieldAddr fo31_1 rfl) ?_
  refine DL.q rfl (.free rfl) rfl rfl rfl (Yld.load p28 rfl (atM (hB3.cell rfl) id)) (Mod.drew _ _) ?_
  refine DL.q rfl (.free rfl) rfl rfl rfl (Yld.loadN (cs := logC (.slice xa n xc) (.slice qa n qc)) a31 rfl (atNM (blkV hB3) id)) (Mod.drew _ _) ?_
  refine DL.p rfl rfl rfl ?_
  refine DL.qf rfl (.free rfl) rfl rfl (Yld.fieldAddr fo31_1 rfl) ?_
  refine DL.q rfl (.free rfl) rfl rfl rfl (Yld.load p28 rfl (atM (hB4.cell rfl) id)) (Mod.drew _ _) ?_
  refine DL.q rfl (.free rfl) rfl rfl rfl (Yld.loadN (cs := logC (.slice xa n xc) (.slice qa n qc)) a31 rfl (atNM (blkV hB4) id)) (Mod.drew _ _) ?_
  refine DL.p rfl rfl rfl ?_
  refine DL.op rfl (.free rfl) rfl rfl (Does.call rfl e6 (viewOf_ok (h.grow hg2d) who)) ?_
  rintro u3 w3 ⟨hr3, hf3, hg3⟩
  have hL3 := h.grow (hg2d.trans hg3)
  refine ⟨hd.trans hg3, ?_⟩
  rw [hjs, List.length_map] at hr3
  refine DL.op rfl (.free rfl) rfl rfl (Does.call rfl e18 (keep_ok ims _ _ (by have := hL3.it; rw [h.il] at this ⊢; exact this) (fun x hx => ⟨hL3.raw x hx, hil x hx⟩) js (by rw [h.il]; exact hj) (by omega) (by rw [h.il]; omega) u3 (Sl.own hr3 (fun _ _ h => h)))) ?_
  rintro u4 w4 ⟨ys, hry, hfy, hyr, hyl, hys, hg4⟩
  refine ⟨(hd.trans hg3).trans hg4, ?_⟩
  refine DL.op rfl (.free rfl) rfl rfl (Does.call rfl e6 (viewOf_ok (h.grow ((hg2d.trans hg3).trans hg4)) who)) ?_
  rintro u5 w5 ⟨hr5, hf5, hg5⟩
  have hL5 := h.grow (((hg2d.trans hg3).trans hg4).trans hg5)
  refine ⟨((hd.trans hg3).trans hg4).trans hg5, ?_⟩
  rw [hjs, List.length_map] at hr5
  refine DL.op rfl (.free rfl) rfl rfl (Does.call rfl e18 (keep_ok ims _ _ (by have := hL5.it; rw [h.il] at this ⊢; exact this) (fun x hx => ⟨hL5.raw x hx, hil x hx⟩) js (by rw [h.il]; exact hj) (by omega) (by rw [h.il]; omega) u5 (Sl.own hr5 (fun _ _ h => h)))) ?_
  rintro u6 w6 ⟨zs, hrz, hfz, hzr, hzl, hzs, hg6⟩
  refine ⟨(((hd.trans hg3).trans hg4).trans hg5).trans hg6, ?_⟩
  have hg46 := hg5.trans hg6
  refine DL.op rfl (.free rfl) rfl rfl (Does.call rfl e17 (equalIm_ok ys zs (hys.trans hzs.symm) u4 u6 _ (Sl.own (hry.mod hg46 (fun _ _ h => h)) (fun _ _ h => h)) (Sl.own hrz (fun _ _ h => h)) (fun y hy => Sl.own ((hyr y hy).mod hg46 (fun _ _ h => h)) (fun _ _ h => h)) (fun z hz => Sl.own (hzr z hz) (fun _ _ h => h)) (by omega))) ?_
  rintro _ w7 ⟨rfl, hg7⟩
  refine ⟨((((hd.trans hg3).trans hg4).trans hg5).trans hg6).trans hg7, ?_⟩
  refine DL.p rfl rfl rfl ?_
  refine DL.done ?_
  refine RK.ret_of Tryz.func7 (res1 rfl rfl) ?_ _
  exact ⟨_, rfl, rfl, ((((hg2d.trans hg3).trans hg4).trans hg5).trans hg6).trans hg7⟩
end Go.Proofs.YtghcdngegadkaaaGreat
set_option linter.unusedVariables false
set_option linter.unusedSimpArgs false
set_option maxHeartbeats 6400000
set_option maxRecDepth 100000
namespace Go.Proofs.YtghcdngegadkaaaGreat
open Go Go.X
theorem Does.convConst {P : Program} {n : Nat} {e : Env} {w : World} {d : Option Tmp} {t el : Nat} {x : Operand} {ty : TypeId} {pos : String} {af : Array Edge} {g : Option (Nat × Bool)} (hS : SlT P t el) (he : P.underlying el = some (.int .u8)) {b k c : Nat} {cs : List Value} (hx : ev e x = some (.slice (some ⟨b, 0, none⟩) k c)) (hb : Blk w b el cs) :
    Does P n e w ⟨d, .convert t t x, ty, pos, af, g⟩ (fun u w' => u = .slice (some ⟨b, 0, none⟩) k c ∧ (∀ j v, cs[j]? = some v → w'.cell? ⟨b, 0 + j, none⟩ = some v) ∧ Mod (· = b) w w' ∧ w'.heap.size = w.heap.size) := by
  have hb' : w.heap[b]? = some (.cells cs.toArray el (0, 0)) := hb
  have hlt := hb.lt
  have hsh : w.shape? b = some (el, cs.length) := by unfold World.shape?; rw [hb']; simp
  have hat : (w.freeze ⟨b, cs.length, none⟩ 1).heap[b]? = some (.cells cs.toArray el (cs.length, cs.length + 1)) := by
    unfold World.freeze
    rw [if_neg (by decide)]
    simp only [Array.getElem?_modify, hb', if_true, Option.map_some]
    rfl
  refine Does.of_run (w' := w.freeze ⟨b, cs.length, none⟩ 1) (v := .slice (some ⟨b, 0, none⟩) k c) (fun a ha => ?_) ⟨rfl, fun j v hj => ?_, ⟨?_, ?_, ?_, ?_, fun i hi hn => ?_⟩, ?_⟩
  · simp [execOp, ha.ev hx, convert, run_underlying hS, run_underlying he, markStringish, hsh]
  · rw [Nat.zero_add]
    unfold World.cell?
    simp only [hat]
    simp [hj]
  · unfold World.freeze; rw [if_neg (by decide)]
  · unfold World.freeze; rw [if_neg (by decide)]
  · unfold World.freeze; rw [if_neg (by decide)]
  · unfold World.freeze; rw [if_neg (by decide)]; simp
  · unfold World.freeze
    rw [if_neg (by decide)]
    have hn' : ¬ b = i := fun e => hn e.symm
    simp only [Array.getElem?_modify, if_neg hn']
  · unfold World.freeze; rw [if_neg (by decide)]; simp
@[reducible] def cfg0 : List Value := [.string root, .int .i64 0, .int .i64 0, .int .i64 0, .int .i64 0, .int .i64 0, .int .i64 0, .int .i64 0, .int .u64 0]
theorem vruns_ok (w : World) : Fx Tryz.prog 3 [] w (fun u w' => u = .bool true ∧ Grow w w') := by
  refine enter Tryz.func3 rfl rfl rfl _ (Pick.sub (l := []) .nil) ?_
  refine RK.seq ?_
  refine RK.region ?_
  refine RL.p rfl rfl ?_
  refine RL.done ?_
  refine RK.seq ?_
  refine RK.region ?_
  refine RL.q (.free rfl) rfl rfl (Yld.build (v := .agg cfg0.toArray) rfl (fun w => by kernel_rfl)) ?_
  refine RL.q (.free rfl) rfl rfl (Yld.build (v := .agg #[.bool true, .int .u64 5, .slice none 0 0]) rfl (fun w => by kernel_rfl)) ?_
  refine RL.op (.free rfl) rfl rfl (Does.bslice (el := 5) ([.int .u8 4, .int .u8 114, .int .u8 111, .int .u8 111, .int .u8 116, .int .u8 1]) rfl (fun w => by kernel_rfl)) ?_
  rintro _ w1 ⟨b4, rfl, hn4⟩
  refine RL.op (.free rfl) rfl rfl (Does.convConst u25 Tryz.underlying5 rfl hn4.blk) ?_
  rintro _ w1b ⟨rfl, hc4, hm4, hs4⟩
  refine RL.q (.free rfl) rfl rfl (Yld.build (v := .agg #[.bool false, .int .u64 0, .slice (some ⟨b4, 0, none⟩) 6 6]) rfl (fun w => by kernel_rfl)) ?_
  refine RL.op (.free rfl) rfl rfl (Does.slice1 u25 i5 rfl rfl rfl rfl rfl) ?_
  rintro _ w2 ⟨b7, rfl, hn7⟩
  refine RL.q (.free rfl) rfl rfl (Yld.build (v := .agg #[.bool false, .int .u64 0, .slice (some ⟨b7, 0, none⟩) 1 1]) rfl (fun w => by kernel_rfl)) ?_
  refine RL.op (.free rfl) rfl rfl (Does.bslice (el := 27) ([.bool true, .int .u64 5, .slice none 0 0, .bool false, .int .u64 0, .slice (some ⟨b4, 0, none⟩) 6 6, .bool false, .int .u64 0, .slice (some ⟨b7, 0, none⟩) 1 1]) rfl (fun w => by kernel_rfl)) ?_
  rintro _ w3 ⟨b9, rfl, hn9⟩
  refine RL.op (.free rfl) rfl rfl (Does.bslice (el := 5) ([.int .u8 0, .int .u8 0, .int .u8 5]) rfl (fun w => by kernel_rfl)) ?_
  rintro _ w4 ⟨b10, rfl, hn10⟩
  refine RL.op (.free rfl) rfl rfl (Does.bslice (el := 5) ([.int .u8 0, .int .u8 1, .int .u8 1]) rfl (fun w => by kernel_rfl)) ?_
  rintro _ w5 ⟨b11, rfl, hn11⟩
  refine RL.op (.free rfl) rfl rfl (Does.slice1 u25 i5 rfl rfl rfl rfl rfl) ?_
  rintro _ w6 ⟨b12, rfl, hn12⟩
  refine RL.op (.free rfl) rfl rfl (Does.bslice (el := 25) ([.slice (some ⟨b10, 0, none⟩) 3 3, .slice (some ⟨b11, 0, none⟩) 3 3, .slice (some ⟨b12, 0, none⟩) 1 1]) rfl (fun w => by kernel_rfl)) ?_
  rintro _ w7 ⟨b13, rfl, hn13⟩
  refine RL.q (.free rfl) rfl rfl (Yld.build (v := .agg (logC (.slice (some ⟨b9, 0, none⟩) 3 3) (.slice (some ⟨b13, 0, none⟩) 3 3)).toArray) rfl (fun w => by kernel_rfl)) ?_
  refine RL.op (.free rfl) rfl rfl (Does.alloc i31) ?_
  rintro _ w8 ⟨b1, rfl, hn1⟩
  have ha1 := hn1.at_
  refine RL.op' (.free rfl) rfl (Does.storeN i31 rfl rfl rfl rfl hn1.blk (Nat.le_refl 11)) ?_
  rintro _ w9 ⟨hb9, hm9, hs9⟩
  have hB9 : Blk w9 b1 31 (logC (.slice (some ⟨b9, 0, none⟩) 3 3) (.slice (some ⟨b13, 0, none⟩) 3 3)) := hb9
  have hg89 : Grow w7 w9 := hn1.grow.then hm9 (fun b hb e => by have e' : b = b1 := e; omega)
  have hg79 := hn13.grow.trans hg89
  have hg69 := hn12.grow.trans hg79
  have hg59 := hn11.grow.trans hg69
  have hg49 := hn10.grow.trans hg59
  have hg39 := hn9.grow.trans hg49
  have hg29 := hn7.grow.trans hg39
  have hg4b : Grow w w1b := hn4.grow.then hm4 (fun b hb e => by have e' : b = b4 := e; have := hn4.at_; omega)
  have hg19a := hg4b.trans hg29
  have h4 : Sl No w9 (.slice (some ⟨b4, 0, none⟩) 6 6) 1 6 (bytesV [4, 114, 111, 111, 116, 1]) := (show Sl No w1b (.slice (some ⟨b4, 0, none⟩) 6 6) 1 6 (bytesV [4, 114, 111, 111, 116, 1]) from ⟨rfl, by decide, _, _, rfl, fun _ => ⟨b4, 0, rfl, fun h => h, hc4⟩⟩).mod hg29
  have h7 : Sl No w9 (.slice (some ⟨b7, 0, none⟩) 1 1) 1 1 (bytesV [9]) := (Sl.new hn7 1 1 rfl (by decide) (fun h => h)).mod hg39
  have h10 : Sl No w9 (.slice (some ⟨b10, 0, none⟩) 3 3) 1 3 (bytesV [0, 0, 5]) := (Sl.new hn10 1 3 rfl (by decide) (fun h => h)).mod hg59
  have h11 : Sl No w9 (.slice (some ⟨b11, 0, none⟩) 3 3) 1 3 (bytesV [0, 1, 1]) := (Sl.new hn11 1 3 rfl (by decide) (fun h => h)).mod hg69
  have h12 : Sl No w9 (.slice (some ⟨b12, 0, none⟩) 1 1) 1 1 (bytesV [1]) := (Sl.new hn12 1 1 rfl (by decide) (fun h => h)).mod hg79
  obtain ⟨ims, hims⟩ : ∃ ims : List Im, ims = [⟨true, 5, .slice none 0 0, []⟩, ⟨false, 0, .slice (some ⟨b4, 0, none⟩) 6 6, [4, 114, 111, 111, 116, 1]⟩, ⟨false, 0, .slice (some ⟨b7, 0, none⟩) 1 1, [9]⟩] := ⟨_, rfl⟩
  have hil : ∀ x ∈ ims, x.bs.length ≤ 1000 := by subst hims; intro x hx; simp at hx; rcases hx with rfl | rfl | rfl <;> simp
  have hL : LgN 3 w9 (.slice (some ⟨b9, 0, none⟩) 3 3) (.slice (some ⟨b13, 0, none⟩) 3 3) ims [.slice (some ⟨b10, 0, none⟩) 3 3, .slice (some ⟨b11, 0, none⟩) 3 3, .slice (some ⟨b12, 0, none⟩) 1 1] := by
      subst hims
      refine ⟨(Sl.new hn9 3 3 rfl (by decide) (fun h => h)).mod hg49, (Sl.new hn13 1 3 rfl (by decide) (fun h => h)).mod hg89, rfl, rfl, by decide, fun x hx => ?_, fun _ => rfl, fun _ => ⟨_, _, rfl, by decide⟩, fun _ => ⟨_, _, rfl, by decide⟩, fun _ => ⟨_, _, rfl, by decide, h10⟩, fun _ => ⟨_, _, rfl, by decide, h11⟩, fun _ => ⟨_, _, rfl, by decide, h12⟩⟩
      simp only [List.mem_cons, List.mem_nil_iff, or_false] at hx
      rcases hx with rfl | rfl | rfl
      · exact Sl.nil _ _ _ _ _
      · exact h4
      · exact h7
  refine RL.done ?_
  refine RK.seq ?_
  refine RK.region ?_
  refine RL.q (.free rfl) rfl rfl (Yld.loadN (cs := logC (.slice (some ⟨b9, 0, none⟩) 3 3) (.slice (some ⟨b13, 0, none⟩) 3 3)) a31 rfl (atN (blkV hB9))) ?_
  refine RL.op (.free rfl) rfl rfl (Does.call rfl e6 (viewOf_ok hL 0)) ?_
  rintro u16 w10 ⟨hr16, hf16, hg10⟩
  refine RL.op (.free rfl) rfl rfl (Does.bslice (el := 3) ([.int .i64 0, .int .i64 1]) rfl (fun w => by kernel_rfl)) ?_
  rintro _ w11 ⟨b17, rfl, hn17⟩
  refine RL.op (.free rfl) rfl rfl (Does.call rfl e5 (sameInts_ok No [0, 1] [0, 1] _ _ _ (Sl.own (hr16.mod hn17.grow (fun _ _ h => h)) (fun _ _ h => h)) (Sl.new hn17 1 2 rfl (by decide) (fun h => h)))) ?_
  rintro _ w12 ⟨rfl, hg12⟩
  have hg912 := (hg10.trans hn17.grow).trans hg12
  refine RL.p rfl rfl ?_
  refine RL.knownT (d := 19) rfl rfl (by simp) ?_
  refine RL.q (.yes rfl rfl rfl) rfl rfl (Yld.loadN (cs := logC (.slice (some ⟨b9, 0, none⟩) 3 3) (.slice (some ⟨b13, 0, none⟩) 3 3)) a31 rfl (atN (blkV (hB9.mod hg912 (fun h => h))))) ?_
  refine RL.op (.yes rfl rfl rfl) rfl rfl (Does.call rfl e6 (viewOf_ok (hL.grow hg912) 1)) ?_
  rintro u21 w13 ⟨hr21, hf21, hg13⟩
  refine RL.op (.yes rfl rfl rfl) rfl rfl (Does.bslice (el := 3) ([.int .i64 0, .int .i64 1]) rfl (fun w => by kernel_rfl)) ?_
  rintro _ w14 ⟨b22, rfl, hn22⟩
  refine RL.op (.yes rfl rfl rfl) rfl rfl (Does.call rfl e5 (sameInts_ok No [0, 1] [0, 1] _ _ _ (Sl.own (hr21.mod hn22.grow (fun _ _ h => h)) (fun _ _ h => h)) (Sl.new hn22 1 2 rfl (by decide) (fun h => h)))) ?_
  rintro _ w15 ⟨rfl, hg15⟩
  have hg915 := ((hg912.trans hg13).trans hn22.grow).trans hg15
  iterate 2 refine RL.p rfl rfl ?_
  refine RL.knownT (d := 25) rfl rfl (by simp) ?_
  refine RL.q (.yes rfl rfl rfl) rfl rfl (Yld.loadN (cs := logC (.slice (some ⟨b9, 0, none⟩) 3 3) (.slice (some ⟨b13, 0, none⟩) 3 3)) a31 rfl (atN (blkV (hB9.mod hg915 (fun h => h))))) ?_
  refine RL.op (.yes rfl rfl rfl) rfl rfl (Does.call rfl e6 (viewOf_ok (hL.grow hg915) 2)) ?_
  rintro u27 w16 ⟨hr27, hf27, hg16⟩
  refine RL.op (.yes rfl rfl rfl) rfl rfl (Does.slice1 u33 i3 rfl rfl rfl rfl rfl) ?_
  rintro _ w17 ⟨b28, rfl, hn28⟩
  refine RL.op (.yes rfl rfl rfl) rfl rfl (Does.call rfl e5 (sameInts_ok No [0] [0] _ _ _ (Sl.own (hr27.mod hn28.grow (fun _ _ h => h)) (fun _ _ h => h)) (Sl.new hn28 1 1 rfl (by decide) (fun h => h)))) ?_
  rintro _ w18 ⟨rfl, hg18⟩
  have hg918 := ((hg915.trans hg16).trans hn28.grow).trans hg18
  iterate 2 refine RL.p rfl rfl ?_
  refine RL.knownT (d := 31) rfl rfl (by simp) ?_
  iterate 2 refine RL.q (.yes rfl rfl rfl) rfl rfl (Yld.loadN (cs := logC (.slice (some ⟨b9, 0, none⟩) 3 3) (.slice (some ⟨b13, 0, none⟩) 3 3)) a31 rfl (atN (blkV (hB9.mod hg918 (fun h => h))))) ?_
  refine RL.op (.yes rfl rfl rfl) rfl rfl (Does.call rfl e7 (same_ok (hL.grow hg918) hil 1 [0, 1] rfl (by decide))) ?_
  rintro _ w19 ⟨rfl, hg19⟩
  iterate 2 refine RL.p rfl rfl ?_
  refine RL.done ?_
  refine RK.ret_of Tryz.func3 (res1 rfl rfl) ?_ _
  exact ⟨_, rfl, rfl, (hg19a.trans hg918).trans hg19⟩
end Go.Proofs.YtghcdngegadkaaaGreat
namespace Go.Proofs.YtghcdngegadkaaaGreat.viewRuns
open Go.ChangeShapes Go.WideShapes Go.ChangeAt Go.RowKit Go.X
set_option linter.unusedVariables false
theorem own : ownKnob Tryz.prog.godebug = none := by kernel_rfl
set_option maxRecDepth 100000 in
theorem lifted (os : Os) (started : os.Started) (H : Type) (enc : TypeId × Value → H) :
    ReturnsInHanded {} Tryz.checked os 3 .any (Rows.viewRunsSpec.pre6 enc Tryz.prog Tryz.f3 Rows.viewRunsRow.domain false) (Rows.viewRunsSpec.post enc Tryz.prog Tryz.f3 false true false false) := by
  refine returnsInHanded_of_change (C := Tryz.checked) own started (by kernel_rfl) Tryz.func3
    (ChangeSpec.witness6 (enc := enc) (C := Tryz.checked) false ⟨#[], #[], []⟩ 8 (by kernel_rfl) (by kernel_rfl) (by kernel_rfl) (by kernel_rfl)) ?_
  intro W base args ds gs before hval0 hW hcnd _
  have hW' := hW
  obtain ⟨p, q, hA0, hV, rfl, hfz, hnd⟩ := hW
  have hA : DataW.TrodAll enc Tryz.prog W 0 (fun _ => true) true Tryz.f3.params.toList args.toList ds p := hA0
  rw [Tryz.params3] at hA
  obtain ⟨rfl, rfl, rfl⟩ := trodAll_none hA
  obtain ⟨rfl, rfl⟩ := trodVars_none hV
  simp only [List.append_nil] at hW'
  refine Calls.mono (vruns_ok W) ?_
  rintro e W' ⟨v, rfl, rfl, hg⟩
  exact ⟨_, rfl, post_grow hW' (fun _ _ _ => trodAll_cons_mk (shut_bool Tryz.underlying4 _) trodAll_mk0) (fun sp _ => rfl) (fun _ => rfl) hg (ok_one (by kernel_rfl) rfl (okWide_bool_mk Tryz.underlying4 _))⟩
end Go.Proofs.YtghcdngegadkaaaGreat.viewRuns
