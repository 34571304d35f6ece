/- What the claim stands on, part 9. Of own lemmas only those that it reaches. -/
import Derived.Test.YtnnmgfnhblbolaaGreatDoorKc8
set_option linter.unusedVariables false
set_option linter.unusedSimpArgs false
set_option maxHeartbeats 6400000
set_option maxRecDepth 100000
namespace Go.Proofs.YtnnmgfnhblbolaaGreatDoor
open Go Go.X
theorem doorQ2_ok {w : World} {pt dr q sl al ids base top c : Nat} {vr vp : Value} {a0 : Option Addr} {k0 : Nat} {v0 : Value} {co : Int} {ds : List Value} (hR : RuAt base top w pt dr sl al ids c vr vp) (hd : DoorAt w dr q 3 0 9 1 (.slice a0 1 k0) (recQ 0 v0 co) ds) (hv0 : ∀ b, (Value.slice a0 1 k0).ownBlock = some b → 0 < b) (hK : KeysAt w) (h0 : 0 < q) (a1 : Option Addr) (c1 : Nat) (a2 : Option Addr) (c2 : Nat) (a3 : Option Addr) (c3 : Nat) (M0 : Nat → Prop) (hr : (ruQ (.slice a1 1 c1) (.slice a2 1 c2) (.slice a3 0 c3)).Ok M0 w) : Fx Tryz.prog 24 [pp dr, .agg (reqQ a1 c1 a2 c2 a3 c3).toArray, .int .i64 1, .func (.func 25) #[pp pt] #[]] w (fun u w' => u = .agg (respC 6 0 0 0).toArray ∧ (∃ v' cs' ds', DoorAt w' dr q 3 0 9 2 v' cs' ds') ∧ Mod (fun b => b = q ∨ (Value.slice a0 1 k0).ownBlock = some b) w w') := by
  have hqlt := hd.ch.blk.lt
  have hol : ∀ b, (Value.slice a0 1 k0).ownBlock = some b → b < w.heap.size := fun b e => (hd.ch.row.ty e).lt
  refine enter Tryz.func24 rfl rfl rfl _ (Pick.sub (l := [0, 1, 2, 3]) (.cons rfl (.cons rfl (.cons rfl (.cons rfl .nil))))) ?_
  refine RK.seq ?_
  refine RK.region ?_
  refine RL.op (.free rfl) rfl rfl (Does.box rfl) ?_
  rintro _ w1 ⟨b5, rfl, hn5⟩
  refine RL.op (.free rfl) rfl rfl (Does.alloc i46) ?_
  rintro _ w2 ⟨b8, rfl, hn8⟩
  have hB5 : Blk w1 b5 39 (reqQ a1 c1 a2 c2 a3 c3) := hn5.blk
  have hB8 : Blk w2 b8 46 (respC 0 0 0 0) := hn8.blk
  have hB52 := hB5.mod hn8.grow (fun h => h)
  have ha5 := hn5.at_
  have ha8 := hn8.at_
  have hz5 := hn5.size
  have hz8 := hn8.size
  refine RL.done ?_
  refine RK.seq ?_
  refine RK.region ?_
  refine RL.q (.free rfl) rfl rfl (Yld.loadN (cs := reqQ a1 c1 a2 c2 a3 c3) a39 rfl (atN (blkV hB52))) ?_
  refine RL.op (.free rfl) rfl rfl (Does.call rfl e51 (bodyQ_ok a1 c1 a2 c2 a3 c3 _ (hr.noM'.mod (Mod.any' (hn5.grow.trans hn8.grow))))) ?_
  rintro _ w3 ⟨g, gc, rfl, hr3, hf3, hg3⟩
  have hG3 : Grow w w3 := (hn5.grow.trans hn8.grow).trans hg3
  have hd3 := hd.grow hG3
  refine RL.p rfl rfl ?_
  refine RL.done ?_
  iterate 2 refine RK.seq ?_
  refine RK.region ?_
  refine RL.p rfl rfl ?_
  refine RL.q (.free rfl) rfl rfl (Yld.eqNil u43 rfl rfl) ?_
  refine RL.done ?_
  refine RK.condF (hcF rfl (rfl)) ?_
  refine RK.skip ?_
  iterate 2 refine RK.seq ?_
  refine RK.region ?_
  iterate 2 refine RL.p rfl rfl ?_
  refine RL.q (.free rfl) rfl rfl (Yld.fieldAddr fo109_2 rfl) ?_
  refine RL.q (.free rfl) rfl rfl (Yld.load p106 rfl (at1 (hd3.blk.cell rfl))) ?_
  refine RL.op (.free rfl) rfl rfl (Does.call rfl e52 (full_ok hd3.ch)) ?_
  rintro _ w4 ⟨rfl, hg4⟩
  have hz3 := hG3.size
  have hz3b := hg3.size
  have hz4 := hg4.size
  refine RL.p rfl rfl ?_
  refine RL.knownF (d := 21) rfl rfl (by decide) ?_
  iterate 4 refine RL.no (.no rfl rfl rfl rfl) rfl rfl ?_
  refine RL.p rfl rfl ?_
  refine RL.done ?_
  refine RK.condF rfl ?_
  refine RK.skip ?_
  refine RK.seq ?_
  refine RK.region ?_
  refine RL.q (.free rfl) rfl rfl (Yld.build (v := .agg (respC 4 0 0 0).toArray) rfl (fun w => by kernel_rfl)) ?_
  refine RL.op (.free rfl) rfl rfl (Does.alloc i46) ?_
  rintro _ w5 ⟨b10, rfl, hn10⟩
  have ha10 := hn10.at_
  have hz10 := hn10.size
  have hB10 : Blk w5 b10 46 (respC 0 0 0 0) := hn10.blk
  refine RL.op' (.free rfl) rfl (Does.storeN i46 rfl rfl rfl rfl hn10.blk (Nat.le_of_ble_eq_true rfl)) ?_
  rintro _ w6 ⟨hb6, hm6, hs6⟩
  have hG36 : Grow w3 w6 := (hg4.trans hn10.grow).then hm6 (fun x hx e => by have e' : x = b10 := e; omega)
  have hG6 : Grow w w6 := hG3.trans hG36
  have hz6 := hG6.size
  have hG26 := hg3.trans hG36
  have hB56 := hB52.mod hG26 (fun h => h)
  have hB86 := hB8.mod hG26 (fun h => h)
  have hr6 := hr3.mod hG36 (fun _ _ h => h)
  refine RL.done ?_
  refine RK.seq ?_
  refine RK.block ?_
  refine RK.seq ?_
  refine RK.region ?_
  refine RL.p rfl rfl ?_
  refine RL.q (.free rfl) rfl rfl (Yld.fieldAddr fo39_1 rfl) ?_
  refine RL.q (.free rfl) rfl rfl (Yld.load p3 rfl (at1 (hB56.cell rfl))) ?_
  refine RL.op (.free rfl) rfl rfl (Does.call rfl e54 (may19_ok _)) ?_
  rintro _ _ ⟨rfl, rfl⟩
  iterate 2 refine RL.p rfl rfl ?_
  refine RL.done ?_
  refine RK.condF (hcF rfl (rfl)) ?_
  refine RK.seq ?_
  refine RK.region ?_
  refine RL.q (.free rfl) rfl rfl (Yld.fieldAddr fo39_1 rfl) ?_
  refine RL.q (.free rfl) rfl rfl (Yld.load p3 rfl (at1 (hB56.cell rfl))) ?_
  iterate 2 refine RL.p rfl rfl ?_
  refine RL.done ?_
  refine RK.condF (hcF rfl (rfl)) ?_
  refine RK.seq ?_
  refine RK.region ?_
  refine RL.q (.free rfl) rfl rfl (Yld.fieldAddr fo39_1 rfl) ?_
  refine RL.q (.free rfl) rfl rfl (Yld.load p3 rfl (at1 (hB56.cell rfl))) ?_
  iterate 2 refine RL.p rfl rfl ?_
  refine RL.done ?_
  refine RK.condF (hcF rfl (rfl)) ?_
  refine RK.region ?_
  refine RL.p rfl rfl ?_
  refine RL.q (.free rfl) rfl rfl (Yld.loadN (cs := reqQ a1 c1 a2 c2 a3 c3) a39 rfl (atN (blkV hB56))) ?_
  refine RL.op (.free rfl) rfl rfl (Does.callm rfl rfl e25 (partAns2_ok (hR.grow hG6) (hd.grow hG6) a1 c1 a2 c2 a3 c3 M0 (hr.mod (Mod.any' hG6)))) ?_
  rintro _ w7 ⟨rfl, hg7⟩
  have hz7 := hg7.size
  have hB107 := (show Blk w6 b10 46 (respC 4 0 0 0) from hb6).mod hg7 (fun h => h)
  refine RL.op' (.free rfl) rfl (Does.storeN i46 rfl rfl rfl rfl hB107 (Nat.le_of_ble_eq_true rfl)) ?_
  rintro _ w8 ⟨hb8', hm8, hs8⟩
  have hB108 : Blk w8 b10 46 (respC 6 0 0 0) := hb8'
  have hm68 : Mod (· = b10) w6 w8 := (Mod.any' hg7).trans hm8
  have hG8 : Grow w w8 := hG6.then hm68 (fun x hx e => by have e' : x = b10 := e; omega)
  have hD8 := hd.grow hG8
  have hr8 := hr6.mod hm68 (fun b e1 e2 => by have e' : b = b10 := e2; have hh := (hr3.ty e1).lt; omega)
  refine RL.done ?_
  refine RK.inBlock ?_
  iterate 2 refine RK.seq ?_
  refine RK.region ?_
  iterate 2 refine RL.p rfl rfl ?_
  refine RL.q (.free rfl) rfl rfl (Yld.fieldAddr fo109_2 rfl) ?_
  refine RL.q (.free rfl) rfl rfl (Yld.load p106 rfl (at1 (hD8.blk.cell rfl))) ?_
  refine RL.op (.free rfl) rfl rfl (Does.call rfl e52 (full_ok hD8.ch)) ?_
  rintro _ w9 ⟨rfl, hg9⟩
  have hD9 := hD8.grow hg9
  have hD9d := hD9.grow (Mod.drew No _)
  have hB109 := hB108.mod hg9 (fun h => h)
  have hB109d := hB109.mod (Mod.drew No _) (fun h => h)
  have hK9 : KeysAt w9 := (hK.grow hG8).grow hg9
  have hr9 := (hr8.mod hg9 (fun _ _ h => h)).mod (Mod.drew No _) (fun _ _ h => h)
  have hz8' := hm68.size
  refine RL.p rfl rfl ?_
  refine RL.done ?_
  refine RK.condT (hcT rfl (by decide)) ?_
  refine RK.drawM (fun b => b = q ∨ (Value.slice a0 1 k0).ownBlock = some b) [(0, false), (1, false), (2, false), (3, false), (4, false), (5, false), (6, false), (7, false), (8, false), (9, false), (10, false), (11, true)] [] mixed (by kernel_rfl) ?_
  iterate 2 refine DL.p rfl rfl rfl ?_
  refine DL.qf rfl (.free rfl) rfl rfl (Yld.fieldAddr fo109_2 rfl) ?_
  refine DL.q rfl (.free rfl) rfl rfl rfl (Yld.load p106 rfl (atM (hD9d.blk.cell rfl) (fun e => e.elim (hD9.blk.ty.ne hD9.ch.blk.ty rfl) (fun e => (hD9.ch.row.ty e).ne hD9.blk.ty rfl rfl)))) (Mod.drew _ _) ?_
  iterate 2 refine DL.p rfl rfl rfl ?_
  refine DL.qf rfl (.free rfl) rfl rfl (Yld.fieldAddr fo109_1 rfl) ?_
  refine DL.q rfl (.free rfl) rfl rfl rfl (Yld.load p24 rfl (atM (hD9d.blk.cell rfl) (fun e => e.elim (hD9.blk.ty.ne hD9.ch.blk.ty rfl) (fun e => (hD9.ch.row.ty e).ne hD9.blk.ty rfl rfl)))) (Mod.drew _ _) ?_
  refine DL.p rfl rfl rfl ?_
  refine DL.qf rfl (.free rfl) rfl rfl (Yld.fieldAddr fo46_0 rfl) ?_
  refine DL.q rfl (.free rfl) rfl rfl rfl (Yld.load p40 rfl (atM (hB109d.cell rfl) (fun e => e.elim (hB109.ty.ne hD9.ch.blk.ty rfl) (fun e => (hD9.ch.row.ty e).ne hB109.ty rfl rfl)))) (Mod.drew _ _) ?_
  refine DL.op rfl (.free rfl) rfl rfl (Does.call rfl e57 (chAddQ1_ok hD9d.ch (by decide) g gc hr9 (hK9.grow (Mod.drew No _)) h0 hv0)) ?_
  rintro _ w10 ⟨rfl, ⟨v', cs', ds', hCh10⟩, hm10⟩
  refine ⟨(Mod.drew _ _).trans hm10, ?_⟩
  have hm810 : Mod (fun b => b = q ∨ (Value.slice a0 1 k0).ownBlock = some b) w8 w10 := (Mod.any' (hg9.trans (Mod.drew No _))).trans hm10
  have hB1010 := hB108.mod hm810 (fun e => e.elim (hB108.ty.ne hD8.ch.blk.ty rfl) (fun e => (hD8.ch.row.ty e).ne hB108.ty rfl rfl))
  have hB88 := hB86.mod hm68 (fun e => by have e' : b8 = b10 := e; omega)
  have hB810 := hB88.mod hm810 (fun e => e.elim (hB88.ty.ne hD8.ch.blk.ty rfl) (fun e => (hD8.ch.row.ty e).ne hB88.ty rfl rfl))
  refine DL.done ?_
  iterate 2 refine RK.seq ?_
  refine RK.region ?_
  refine RL.q (.free rfl) rfl rfl (Yld.fieldAddr fo46_0 rfl) ?_
  refine RL.q (.free rfl) rfl rfl (Yld.load p40 rfl (at1 (hB1010.cell rfl))) ?_
  refine RL.p rfl rfl ?_
  refine RL.done ?_
  refine RK.condT (hcT rfl (rfl)) ?_
  refine RK.seq ?_
  refine RK.region ?_
  refine RL.q (.free rfl) rfl rfl (Yld.fieldAddr fo46_0 rfl) ?_
  refine RL.q (.free rfl) rfl rfl (Yld.load p40 rfl (at1 (hB1010.cell rfl))) ?_
  refine RL.q (.free rfl) rfl rfl (Yld.build (v := .agg (respC 6 0 0 0).toArray) rfl (fun w => by kernel_rfl)) ?_
  refine RL.op' (.free rfl) rfl (Does.storeN i46 rfl rfl rfl rfl hB810 (Nat.le_of_ble_eq_true rfl)) ?_
  rintro _ w11 ⟨hb11, hm11, hs11⟩
  have hdr10 := hD8.blk.mod hm810 (fun e => e.elim (hD8.blk.ty.ne hD8.ch.blk.ty rfl) (fun e => (hD8.ch.row.ty e).ne hD8.blk.ty rfl rfl))
  refine RL.done ?_
  refine RK.ret_of Tryz.func24 (resC (cs := respC 6 0 0 0) rfl rfl a46 hb11) ?_ _
  exact ⟨_, rfl, rfl, ⟨v', cs', ds', hdr10.mod hm11 (hdr10.ty.ne hB810.ty rfl), hCh10.blk.mod hm11 (hCh10.blk.ty.ne hB810.ty rfl), hCh10.row.mod hm11 (fun b e1 e2 => (hCh10.row.ty e1).ne hB810.ty rfl e2), hCh10.head⟩, ((Mod.any' hG8).trans hm810).then hm11 (fun x hx e => by have e' : x = b8 := e; omega)⟩
theorem partDo1_ok {w : World} {pt dr q sl al ids ix mr : Nat} {ds : List Value} (hb : Blk w pt 79 [pp dr, pp sl, pp al, pp ids, .slice none 0 0]) (hd : DoorAt w dr q 3 0 9 0 (.slice none 0 0) [] ds) (hp : PoolAt w ids 6 0 [] (.slice none 0 0)) (he : EmS w sl al ix mr) (hK : KeysAt w) (h0 : 0 < pt ∧ 0 < ids ∧ 0 < q) (a1 : Option Addr) (c1 : Nat) (a2 : Option Addr) (c2 : Nat) (a3 : Option Addr) (c3 : Nat) (M0 : Nat → Prop) (hM0 : M0 ids) (hr : (ruQ (.slice a1 1 c1) (.slice a2 1 c2) (.slice a3 0 c3)).Ok M0 w) : Fx Tryz.prog 8 [pp pt, .agg (reqQ a1 c1 a2 c2 a3 c3).toArray] w (fun u w' => u = .agg (respC 0 9 1 0).toArray ∧ (∃ base top c vr vp a' k' a9 c9 ds', RuAt base top w' pt dr sl al ids c vr vp ∧ w.heap.size ≤ base ∧ top ≤ w'.heap.size ∧ DoorAt w' dr q 3 0 9 1 (.slice a' 1 k') (recQ 0 (.slice a9 15 c9) 0) ds' ∧ ∀ b, (Value.slice a' 1 k').ownBlock = some b → top ≤ b) ∧ Mod (fun b => b = pt ∨ b = ids ∨ b = q) w w') := by
  have hptlt := hb.lt
  have hidlt := hp.blk.lt
  have hqlt := hd.ch.blk.lt
  refine enter Tryz.func8 rfl rfl rfl _ (Pick.sub (l := [0, 1]) (.cons rfl (.cons rfl .nil))) ?_
  refine RK.seq ?_
  refine RK.region ?_
  refine RL.op (.free rfl) rfl rfl (Does.box rfl) ?_
  rintro _ w1 ⟨b3, rfl, hn3⟩
  refine RL.op (.free rfl) rfl rfl (Does.alloc i46) ?_
  rintro _ w2 ⟨b4, rfl, hn4⟩
  have hB3 : Blk w1 b3 39 (reqQ a1 c1 a2 c2 a3 c3) := hn3.blk
  have hB4 : Blk w2 b4 46 (respC 0 0 0 0) := hn4.blk
  have ha3 := hn3.at_
  have ha4 := hn4.at_
  have hz3 := hn3.size
  have hz4 := hn4.size
  have hG2 := hn3.grow.trans hn4.grow
  have hG2d := hG2.trans (Mod.drew No _)
  have hbd := hb.mod hG2d (fun h => h)
  have hdd := hd.grow hG2d
  have hpd := hp.grow' hG2d
  have hB3d := (hB3.mod hn4.grow (fun h => h)).mod (Mod.drew No _) (fun h => h)
  have hB4d := hB4.mod (Mod.drew No _) (fun h => h)
  have hno3 : ¬ (b3 = pt ∨ b3 = ids ∨ b3 = q) := fun e => by rcases e with e | e | e <;> omega
  have hno4 : ¬ (b4 = pt ∨ b4 = ids ∨ b4 = q) := fun e => by rcases e with e | e | e <;> omega
  refine RL.done ?_
  refine RK.seq ?_
  refine RK.drawM (fun b => b = pt ∨ b = ids ∨ b = q) [(0, false), (1, false), (2, false), (4, false), (5, false), (6, false), (3, true), (7, true), (8, true)] [8] mixed (by kernel_rfl) ?_
  iterate 2 refine DL.p rfl rfl rfl ?_
  refine DL.qf rfl (.free rfl) rfl rfl (Yld.fieldAddr fo79_0 rfl) ?_
  refine DL.q rfl (.free rfl) rfl rfl rfl (Yld.loadN (cs := reqQ a1 c1 a2 c2 a3 c3) a39 rfl (atNM (blkV hB3d) (hno3))) (Mod.drew _ _) ?_
  iterate 2 refine DL.p rfl rfl rfl ?_
  refine DL.lq rfl (.free rfl) rfl rfl (Yld.load p69 rfl (at1 (hbd.cell rfl))) ?_
  refine DL.op rfl (.free rfl) rfl rfl (Does.call rfl e24 (doorQ1_ok hbd hdd hpd (he.grow hG2d) (hK.grow hG2d) h0 a1 c1 a2 c2 a3 c3 M0 hM0 (hr.mod (Mod.any' hG2d)))) ?_
  rintro _ w3 ⟨rfl, ⟨base, top, c, vr, vp, a', k', a9, c9, ds', hR3, hlb, hlt, hD3, hown⟩, hm3⟩
  refine ⟨(Mod.drew _ _).trans hm3, ?_⟩
  have hB43 := hB4d.mod hm3 hno4
  have hz2d := hG2d.size
  have hz3' := hm3.size
  refine DL.opT rfl (.free rfl) rfl rfl (Does.storeN i46 rfl rfl rfl rfl hB43 (Nat.le_of_ble_eq_true rfl)) ?_
  rintro _ w4 ⟨hb4, hm4, hs4⟩
  have hM3 : Mod (fun b => b = pt ∨ b = ids ∨ b = q) w w3 := (Mod.any' hG2d).trans hm3
  have hM4 := hM3.then hm4 (fun x hx e => by have e' : x = b4 := e; omega)
  have hz4' := hm4.size
  simp only [World.drew] at hlb hz3'
  refine DL.done ?_
  refine RK.ret_of Tryz.func8 (resC (cs := respC 0 9 1 0) rfl rfl a46 hb4) ?_ _
  exact ⟨_, rfl, rfl, ⟨base, top, c, vr, vp, a', k', a9, c9, ds', hR3.mod hm4 (fun b _ e => by have e' : b = b4 := e; left; omega) (fun e => by have e' : pt = b4 := e; omega) (fun e => by have e' : ids = b4 := e; omega) (fun b e1 e2 => (hR3.2.1.ty e1).ne hB43.ty rfl e2) (fun b e1 e2 => (hR3.2.2.1.row.ty e1).ne hB43.ty rfl e2), by omega, by omega, ⟨hD3.blk.mod hm4 (hD3.blk.ty.ne hB43.ty rfl), hD3.ch.blk.mod hm4 (hD3.ch.blk.ty.ne hB43.ty rfl), hD3.ch.row.mod hm4 (fun b e1 e2 => (hD3.ch.row.ty e1).ne hB43.ty rfl e2), hD3.ch.head⟩, hown⟩, hM4⟩
theorem partDo2_ok {w : World} {pt dr q sl al ids base top c : Nat} {vr vp : Value} {a0 : Option Addr} {k0 : Nat} {v0 : Value} {co : Int} {ds : List Value} (hR : RuAt base top w pt dr sl al ids c vr vp) (hd : DoorAt w dr q 3 0 9 1 (.slice a0 1 k0) (recQ 0 v0 co) ds) (hv0 : ∀ b, (Value.slice a0 1 k0).ownBlock = some b → 0 < b) (hK : KeysAt w) (h0 : 0 < q) (a1 : Option Addr) (c1 : Nat) (a2 : Option Addr) (c2 : Nat) (a3 : Option Addr) (c3 : Nat) (M0 : Nat → Prop) (hr : (ruQ (.slice a1 1 c1) (.slice a2 1 c2) (.slice a3 0 c3)).Ok M0 w) : Fx Tryz.prog 8 [pp pt, .agg (reqQ a1 c1 a2 c2 a3 c3).toArray] w (fun u w' => u = .agg (respC 6 0 0 0).toArray ∧ (∃ v' cs' ds', DoorAt w' dr q 3 0 9 2 v' cs' ds') ∧ Mod (fun b => b = q ∨ (Value.slice a0 1 k0).ownBlock = some b) w w') := by
  have hqlt := hd.ch.blk.lt
  have hol : ∀ b, (Value.slice a0 1 k0).ownBlock = some b → b < w.heap.size := fun b e => (hd.ch.row.ty e).lt
  refine enter Tryz.func8 rfl rfl rfl _ (Pick.sub (l := [0, 1]) (.cons rfl (.cons rfl .nil))) ?_
  refine RK.seq ?_
  refine RK.region ?_
  refine RL.op (.free rfl) rfl rfl (Does.box rfl) ?_
  rintro _ w1 ⟨b3, rfl, hn3⟩
  refine RL.op (.free rfl) rfl rfl (Does.alloc i46) ?_
  rintro _ w2 ⟨b4, rfl, hn4⟩
  have hB3 : Blk w1 b3 39 (reqQ a1 c1 a2 c2 a3 c3) := hn3.blk
  have hB4 : Blk w2 b4 46 (respC 0 0 0 0) := hn4.blk
  have ha3 := hn3.at_
  have ha4 := hn4.at_
  have hz3 := hn3.size
  have hz4 := hn4.size
  have hG2 := hn3.grow.trans hn4.grow
  have hG2d := hG2.trans (Mod.drew No _)
  have hbd := hR.1.mod hG2d (fun h => h)
  have hdd := hd.grow hG2d
  have hB3d := (hB3.mod hn4.grow (fun h => h)).mod (Mod.drew No _) (fun h => h)
  have hB4d := hB4.mod (Mod.drew No _) (fun h => h)
  have hno3 : ¬ (b3 = q ∨ (Value.slice a0 1 k0).ownBlock = some b3) := fun e => e.elim (fun e => by omega) (fun e => by have := hol _ e; omega)
  have hno4 : ¬ (b4 = q ∨ (Value.slice a0 1 k0).ownBlock = some b4) := fun e => e.elim (fun e => by omega) (fun e => by have := hol _ e; omega)
  refine RL.done ?_
  refine RK.seq ?_
  refine RK.drawM (fun b => b = q ∨ (Value.slice a0 1 k0).ownBlock = some b) [(0, false), (1, false), (2, false), (3, false), (4, false), (5, false), (6, false), (7, true), (8, true)] [8] mixed (by kernel_rfl) ?_
  iterate 2 refine DL.p rfl rfl rfl ?_
  refine DL.qf rfl (.free rfl) rfl rfl (Yld.fieldAddr fo79_0 rfl) ?_
  refine DL.q rfl (.free rfl) rfl rfl rfl (Yld.load p69 rfl (atM (hbd.cell rfl) (fun e => e.elim (hbd.ty.ne hdd.ch.blk.ty rfl) (fun e => (hdd.ch.row.ty e).ne hbd.ty rfl rfl)))) (Mod.drew _ _) ?_
  refine DL.q rfl (.free rfl) rfl rfl rfl (Yld.loadN (cs := reqQ a1 c1 a2 c2 a3 c3) a39 rfl (atNM (blkV hB3d) (hno3))) (Mod.drew _ _) ?_
  iterate 2 refine DL.p rfl rfl rfl ?_
  refine DL.op rfl (.free rfl) rfl rfl (Does.call rfl e24 (doorQ2_ok (hR.grow hG2d) hdd hv0 (hK.grow hG2d) h0 a1 c1 a2 c2 a3 c3 M0 (hr.mod (Mod.any' hG2d)))) ?_
  rintro _ w3 ⟨rfl, ⟨v', cs', ds', hD3⟩, hm3⟩
  refine ⟨(Mod.drew _ _).trans hm3, ?_⟩
  have hB43 := hB4d.mod hm3 hno4
  refine DL.opT rfl (.free rfl) rfl rfl (Does.storeN i46 rfl rfl rfl rfl hB43 (Nat.le_of_ble_eq_true rfl)) ?_
  rintro _ w4 ⟨hb4, hm4, hs4⟩
  have hM3 : Mod (fun b => b = q ∨ (Value.slice a0 1 k0).ownBlock = some b) w w3 := (Mod.any' hG2d).trans hm3
  refine DL.done ?_
  refine RK.ret_of Tryz.func8 (resC (cs := respC 6 0 0 0) rfl rfl a46 hb4) ?_ _
  exact ⟨_, rfl, rfl, ⟨v', cs', ds', hD3.blk.mod hm4 (hD3.blk.ty.ne hB43.ty rfl), hD3.ch.blk.mod hm4 (hD3.ch.blk.ty.ne hB43.ty rfl), hD3.ch.row.mod hm4 (fun b e1 e2 => (hD3.ch.row.ty e1).ne hB43.ty rfl e2), hD3.ch.head⟩, hM3.then hm4 (fun x hx e => by have e' : x = b4 := e; omega)⟩
end Go.Proofs.YtnnmgfnhblbolaaGreatDoor
set_option linter.unusedVariables false
set_option linter.unusedSimpArgs false
set_option maxHeartbeats 6400000
set_option maxRecDepth 100000
namespace Go.Proofs.YtnnmgfnhblbolaaGreatDoor
open Go Go.X
theorem RuAt.bt {base top : Nat} {w : World} {pt dr sl al ids c : Nat} {vr vp : Value} (h : RuAt base top w pt dr sl al ids c vr vp) : base < top := by
  obtain ⟨hb, hv, hp, mrc, mkc, v1, v2, v3, lo, hi, hC, hq⟩ := h
  omega
theorem partNew9_ok (tok : ByteArray) (a b c d f g r : Int) (hf1 : 1 ≤ f) (hf2 : f ≤ 200) (ow now : Int) (hnow : now ≤ 1099511627776) (w : World) (hK : KeysAt w) : Fx Tryz.prog 6 [.agg (cfgC tok a b c d 9 f g r).toArray, .int .i64 ow, .int .u64 now] w (fun u w' => ∃ pt dr q sl al ids ix mr ds, u = pp pt ∧ (w.heap.size ≤ pt ∧ w.heap.size ≤ q ∧ w.heap.size ≤ ids) ∧ Blk w' pt 79 [pp dr, pp sl, pp al, pp ids, .slice none 0 0] ∧ DoorAt w' dr q ow now f 0 (.slice none 0 0) [] ds ∧ PoolAt w' ids 6 0 [] (.slice none 0 0) ∧ EmS w' sl al ix mr ∧ Grow w w') := by
  refine enter Tryz.func6 rfl rfl rfl _ (Pick.sub (l := [0, 1, 2]) (.cons rfl (.cons rfl (.cons rfl .nil)))) ?_
  refine RK.seq ?_
  refine RK.region ?_
  refine RL.op (.free rfl) rfl rfl (Does.box rfl) ?_
  rintro _ w2 ⟨b3, rfl, hn3⟩
  have hB : Blk w2 b3 26 (cfgC tok a b c d 9 f g r) := hn3.blk
  have hBd := hB.mod (Mod.drew No _) (fun h => h)
  have hz2 := hn3.size
  refine RL.p rfl rfl ?_
  refine RL.done ?_
  refine RK.seq ?_
  refine RK.drawM No [(0, false), (1, false), (2, false), (3, false), (5, false), (6, false), (7, false), (8, false), (10, false), (11, false), (13, false), (14, false), (15, false), (16, false), (4, true), (9, true), (12, true), (17, true), (18, false), (19, true), (20, false)] [] mixed (by kernel_rfl) ?_
  refine DL.p rfl rfl rfl ?_
  refine DL.qf rfl (.free rfl) rfl rfl (Yld.fieldAddr fo26_6 rfl) ?_
  refine DL.q rfl (.free rfl) rfl rfl rfl (Yld.load p3 rfl (atM (hBd.cell rfl) id)) (Mod.drew _ _) ?_
  refine DL.p rfl rfl rfl ?_
  refine DL.qf rfl (.free rfl) rfl rfl (Yld.fieldAddr fo26_4 rfl) ?_
  refine DL.q rfl (.free rfl) rfl rfl rfl (Yld.load p3 rfl (atM (hBd.cell rfl) id)) (Mod.drew _ _) ?_
  refine DL.qf rfl (.free rfl) rfl rfl (Yld.fieldAddr fo26_8 rfl) ?_
  refine DL.q rfl (.free rfl) rfl rfl rfl (Yld.load p24 rfl (atM (hBd.cell rfl) id)) (Mod.drew _ _) ?_
  refine DL.qf rfl (.free rfl) rfl rfl (Yld.fieldAddr fo26_3 rfl) ?_
  refine DL.q rfl (.free rfl) rfl rfl rfl (Yld.load p3 rfl (atM (hBd.cell rfl) id)) (Mod.drew _ _) ?_
  refine DL.qf rfl (.free rfl) rfl rfl (Yld.fieldAddr fo26_5 rfl) ?_
  refine DL.q rfl (.free rfl) rfl rfl rfl (Yld.load p3 rfl (atM (hBd.cell rfl) id)) (Mod.drew _ _) ?_
  refine DL.q rfl (.free rfl) rfl rfl rfl (Yld.max2 rfl rfl) (Mod.drew _ _) ?_
  refine DL.q rfl (.free rfl) rfl rfl rfl (Yld.min2 rfl rfl) (Mod.drew _ _) ?_
  refine DL.op rfl (.free rfl) rfl rfl (Does.call rfl e20 (doorNew_ok ow f now hnow hf1 hf2 _ (hK.grow (hn3.grow.trans (Mod.drew No _))))) ?_
  rintro _ w3 ⟨dr, q, ds, rfl, hdr, hq, hD3, hg3⟩
  refine ⟨(Mod.drew _ _).trans hg3, ?_⟩
  refine DL.op rfl (.free rfl) rfl rfl (Does.call rfl e21 (newZ_ok d r _)) ?_
  rintro _ w4 ⟨sl, O4, rfl, hZ4, hg4, hO4⟩
  refine ⟨((Mod.drew _ _).trans hg3).trans hg4, ?_⟩
  refine DL.op rfl (.free rfl) rfl rfl (Does.call rfl e22 (alertNew_ok c _)) ?_
  rintro _ w5 ⟨al, M5, rfl, hA5, hM5, hg5⟩
  refine ⟨(((Mod.drew _ _).trans hg3).trans hg4).trans hg5, ?_⟩
  refine DL.op rfl (.free rfl) rfl rfl (Does.call rfl e23 (poolNew_ok _ _)) ?_
  rintro _ w6 ⟨ids, rfl, hid, hP6, hg6, hs6⟩
  refine ⟨((((Mod.drew _ _).trans hg3).trans hg4).trans hg5).trans hg6, ?_⟩
  refine DL.qf rfl (.free rfl) rfl rfl (Yld.build (v := .agg #[pp dr, pp sl, pp al, pp ids, .slice none 0 0]) rfl (fun w => by kernel_rfl)) ?_
  refine DL.op rfl (.free rfl) rfl rfl (Does.box rfl) ?_
  rintro _ w7 ⟨pt, rfl, hn7⟩
  refine ⟨(((((Mod.drew _ _).trans hg3).trans hg4).trans hg5).trans hg6).trans hn7.grow, ?_⟩
  have hz3 := hg3.size
  have hz4 := hg4.size
  have hz5 := hg5.size
  have hz6 := hg6.size
  have hk7 := hn7.at_
  simp only [World.drew] at hdr hq hz3
  obtain ⟨zpl, zqu, zvp, zvq, zvs, zal, zq, hO, hZ⟩ := hZ4
  obtain ⟨aq, ix, mh, mr, avo, avl, aal, hMo, hA⟩ := hA5
  obtain ⟨az, cz, hvs⟩ := hZ.row.slice
  have hzl : zal = [] := by have := hZ.als; simpa using this
  obtain ⟨aa, ca, hva⟩ := hA.row.slice
  have hal : aal = [] := by have := hA.als; simpa [St.new] using this
  obtain ⟨ir, hir1, hir2, _⟩ := hA.idx.rl
  have hir : ir = [] := by simpa [St.new] using hir1
  subst hzl hal hir hvs hva
  have hslf := hO4 sl ((hO sl).2 (.inl rfl))
  have half := hM5 al ((hMo al).2 (.inl rfl))
  have hixf := hM5 ix ((hMo ix).2 (.inr (.inr (.inr (.inr (.inr (.inr rfl)))))))
  have hmrf := hM5 mr ((hMo mr).2 (.inr (.inr (.inr (.inl rfl)))))
  have g57 := hg6.trans hn7.grow
  have g47 := hg5.trans g57
  have g37 := hg4.trans g47
  have hP6' : PoolAt w6 ids 6 0 [] (.slice none 0 0) := by simpa using hP6
  refine DL.p rfl rfl rfl ?_
  refine DL.done ?_
  refine RK.ret_of Tryz.func6 (res1 rfl rfl) ?_ _
  exact ⟨_, rfl, pt, dr, q, sl, al, ids, ix, mr, ds, rfl, ⟨by omega, by omega, by omega⟩, hn7.blk, (hD3.grow g37), hP6'.grow' hn7.grow, ⟨⟨_, _, _, az, cz, hZ.blk.mod g47 (fun h => h)⟩, ⟨_, aa, ca, hA.blk.mod g57 (fun h => h)⟩, ⟨_, hA.idx.blk.mod g57 (fun h => h)⟩, hir2.mod g57 (fun h => h)⟩, ((hn3.grow.trans (Mod.drew _ _)).trans hg3).trans g37⟩
theorem config25_ok (w : World) : Fx Tryz.prog 7 [.int .i64 9] w (fun u w' => u = .agg (cfgC ⟨#[]⟩ 0 0 9 9 9 9 0 2).toArray ∧ Grow w w') := by
  refine enter Tryz.func7 rfl rfl rfl _ (Pick.sub (l := [0]) (.cons rfl .nil)) ?_
  refine RK.seq ?_
  refine RK.region ?_
  refine RL.op (.free rfl) rfl rfl (Does.alloc i26) ?_
  rintro _ w1 ⟨b2, rfl, hn2⟩
  have ha2 := hn2.at_
  refine RL.done ?_
  refine RK.seq ?_
  refine RK.region ?_
  iterate 4 refine RL.p rfl rfl ?_
  refine RL.q (.free rfl) rfl rfl (Yld.build (v := .agg (cfgC ⟨#[]⟩ 0 0 9 9 9 9 0 2).toArray) rfl (fun w => by kernel_rfl)) ?_
  refine RL.op' (.free rfl) rfl (Does.storeN i26 rfl rfl rfl rfl hn2.blk (Nat.le_of_ble_eq_true rfl)) ?_
  rintro _ w3 ⟨hb3, hm3, hs3⟩
  refine RL.done ?_
  refine RK.ret_of Tryz.func7 (resC (cs := cfgC ⟨#[]⟩ 0 0 9 9 9 9 0 2) rfl rfl a26 hb3) ?_ _
  exact ⟨_, rfl, rfl, hn2.grow.then hm3 (fun x hx e => by have e' : x = b2 := e; omega)⟩
theorem emLenA_ok {w : World} {sl al ix mr : Nat} (h : EmS w sl al ix mr) : Fx Tryz.prog 26 [pp al] w (fun u w' => u = .int .i64 0 ∧ w = w') := by
  obtain ⟨x4, a4, c4, ha⟩ := h.alr
  refine enter Tryz.func26 rfl rfl rfl _ (Pick.sub (l := [0]) (.cons rfl .nil)) ?_
  refine RK.seq ?_
  refine RK.region ?_
  refine RL.p rfl rfl ?_
  refine RL.done ?_
  refine RK.seq ?_
  refine RK.region ?_
  iterate 2 refine RL.p rfl rfl ?_
  refine RL.q (.free rfl) rfl rfl (Yld.fieldAddr fo118_2 rfl) ?_
  refine RL.q (.free rfl) rfl rfl (Yld.load p116 rfl (at1 (ha.cell rfl))) ?_
  refine RL.q (.free rfl) rfl rfl (Yld.lenSl u116 rfl) ?_
  refine RL.p rfl rfl ?_
  refine RL.done ?_
  refine RK.ret_of Tryz.func26 (res1 rfl rfl) ?_ _
  exact ⟨_, rfl, rfl, rfl⟩
theorem emPosts_ok {w : World} {sl al ix mr : Nat} (h : EmS w sl al ix mr) : Fx Tryz.prog 29 [pp al] w (fun u w' => u = .int .i64 0 ∧ w = w') := by
  obtain ⟨x4, a4, c4, ha⟩ := h.alr
  obtain ⟨x5, hi⟩ := h.idx
  refine enter Tryz.func29 rfl rfl rfl _ (Pick.sub (l := [0]) (.cons rfl .nil)) ?_
  refine RK.seq ?_
  refine RK.region ?_
  refine RL.p rfl rfl ?_
  refine RL.done ?_
  refine RK.seq ?_
  refine RK.region ?_
  iterate 2 refine RL.p rfl rfl ?_
  refine RL.q (.free rfl) rfl rfl (Yld.fieldAddr fo118_1 rfl) ?_
  refine RL.q (.free rfl) rfl rfl (Yld.load p114 rfl (at1 (ha.cell rfl))) ?_
  refine RL.op (.free rfl) rfl rfl (Does.call rfl e73 (eIdx_ok hi h.mp)) ?_
  rintro _ _ ⟨rfl, rfl⟩
  refine RL.p rfl rfl ?_
  refine RL.done ?_
  refine RK.ret_of Tryz.func29 (res1 rfl rfl) ?_ _
  exact ⟨_, rfl, rfl, rfl⟩
theorem emLenS_ok {w : World} {sl al ix mr : Nat} (h : EmS w sl al ix mr) : Fx Tryz.prog 27 [pp sl] w (fun u w' => u = .int .i64 0 ∧ w = w') := by
  obtain ⟨x3, y3, z3, a3, c3, hs⟩ := h.sil
  refine enter Tryz.func27 rfl rfl rfl _ (Pick.sub (l := [0]) (.cons rfl .nil)) ?_
  refine RK.seq ?_
  refine RK.region ?_
  refine RL.p rfl rfl ?_
  refine RL.done ?_
  refine RK.seq ?_
  refine RK.region ?_
  iterate 2 refine RL.p rfl rfl ?_
  refine RL.q (.free rfl) rfl rfl (Yld.fieldAddr fo113_3 rfl) ?_
  refine RL.q (.free rfl) rfl rfl (Yld.load p42 rfl (at1 (hs.cell rfl))) ?_
  refine RL.q (.free rfl) rfl rfl (Yld.lenSl u42 rfl) ?_
  refine RL.p rfl rfl ?_
  refine RL.done ?_
  refine RK.ret_of Tryz.func27 (res1 rfl rfl) ?_ _
  exact ⟨_, rfl, rfl, rfl⟩
@[reducible] def cnt2 : List Value := [.int .i64 0, .int .i64 0, .int .i64 0, .int .i64 1, .int .i64 2, .int .i64 0, .int .i64 0]
theorem partCounts2_ok {w : World} {base top : Nat} {pt dr q sl al ids c ix mr : Nat} {vr vp v : Value} {cs ds : List Value} (hR : RuAt base top w pt dr sl al ids c vr vp) (hd : DoorAt w dr q 3 0 9 2 v cs ds) (h : EmS w sl al ix mr) : Fx Tryz.prog 9 [pp pt] w (fun u w' => u = .agg cnt2.toArray ∧ Grow w w') := by
  obtain ⟨hb, hv, hpp, mrc, mkc, v1, v2, v3, lo, hi, hC, hq⟩ := hR
  obtain ⟨b, o, k, rfl, _, _, hc⟩ := (slRow hv).elem (f := fun x : Nat => [.int .i64 1, pp x]) (xs := [c]) (fun _ => rfl) (k := 0) (x := c) rfl
  refine enter Tryz.func9 rfl rfl rfl _ (Pick.sub (l := [0]) (.cons rfl .nil)) ?_
  refine RK.seq ?_
  refine RK.region ?_
  refine RL.op (.free rfl) rfl rfl (Does.alloc i49) ?_
  rintro _ w1 ⟨b2, rfl, hn2⟩
  have hB2 : Blk w1 b2 49 cnt0 := hn2.blk
  have ha2 := hn2.at_
  have hz2 := hn2.size
  have h1d := (h.grow hn2.grow).grow (Mod.drew No _)
  have d1d := (hd.grow hn2.grow).grow (Mod.drew No _)
  have hb1 := hb.mod hn2.grow (fun h => h)
  have hb1d := hb1.mod (Mod.drew No _) (fun h => h)
  refine RL.done ?_
  refine RK.seq ?_
  refine RK.cutS (fun b3 : Nat => [(0, pp pt), (2, pp b2), (3, pp b3)]) (fun b3 w' => Blk w' b3 49 cnt2 ∧ Grow w1 w' ∧ w1.heap.size ≤ b3) (fun b3 w3 hQ => ?_) (fun hj => ?_)
  · obtain ⟨hB3, hg3, hle3⟩ := hQ
    iterate 2 refine RK.seq ?_
    refine RK.region ?_
    iterate 2 refine RL.p rfl rfl ?_
    refine RL.q (.free rfl) rfl rfl (Yld.fieldAddr fo79_4 rfl) ?_
    refine RL.q (.free rfl) rfl rfl (Yld.load p77 rfl (at1 ((hb1.mod hg3 (fun h => h)).cell rfl))) ?_
    refine RL.q (.free rfl) rfl rfl (Yld.lenSl u77 rfl) ?_
    refine RL.p rfl rfl ?_
    refine RL.done ?_
    refine RK.block ?_
    refine RK.loop (fun s : Nat => [(0, pp pt), (2, pp b2), (3, pp b3), (35, .slice (some ⟨b, o, none⟩) 1 k), (36, .int .i64 1), (37, .int .i64 (s : Int))]) (fun s w' => Blk w' b3 49 cnt2 ∧ Mod (· = b3) w3 w' ∧ s ≤ 1) (fun s => 1 - s) 0 ⟨rfl, rfl, rfl, rfl, rfl, rfl, trivial⟩ ⟨hB3, Mod.refl _ _, Nat.zero_le _⟩ (fun s w' hI ih => ?_)
    obtain ⟨hB, hm, hs⟩ := hI
    have hG1 : Grow w1 w' := hg3.then hm (fun x hx e => by have e' : x = b3 := e; omega)
    have hG := hn2.grow.trans hG1
    refine RK.seq ?_
    refine RK.region ?_
    refine RL.p rfl rfl ?_
    refine RL.done ?_
    refine RK.seq ?_
    first | refine RK.condD rfl (fun h38 => ?_) (fun h38 => ?_) | refine RK.condN rfl (fun h38 => ?_) (fun h38 => ?_) | refine RK.cond rfl (fun h38 => ?_) (fun h38 => ?_)
    · obtain rfl : s = 0 := by omega
      refine RK.skip ?_
      refine RK.seq ?_
      refine RK.block ?_
      refine RK.seq ?_
      refine RK.region ?_
      refine RL.q (.free rfl) rfl rfl (Yld.indexAddrN u77 i84 rfl rfl ((by decide : 0 < 1))) ?_
      refine RL.q (.free rfl) rfl rfl (Yld.loadN (cs := [.int .i64 1, pp c]) a84 rfl (atN (fun j u hj => hG.cell (hc j u hj) (fun h => h)))) ?_
      refine RL.op (.free rfl) rfl rfl (Does.alloc i84) ?_
      rintro _ w5 ⟨b5, rfl, hn5⟩
      have ha5 := hn5.at_
      have hlt := hB.lt
      refine RL.op' (.free rfl) rfl (Does.storeN i84 rfl rfl rfl rfl hn5.blk (Nat.le_refl 2)) ?_
      rintro _ w6 ⟨hb6, hm6, hs6⟩
      have hB6 : Blk w6 b5 84 [.int .i64 1, pp c] := hb6
      have hg6 : Grow w' w6 := hn5.grow.then hm6 (fun x hx e => by have e' : x = b5 := e; omega)
      have hB36 := hB.mod hg6 (fun h => h)
      have hB36d := hB36.mod (Mod.drew No _) (fun h => h)
      refine RL.done ?_
      refine RK.drawM (fun _ => False) [(0, false), (1, false), (2, false), (3, false), (4, true), (5, false), (6, false), (7, true)] [7] mixed (by kernel_rfl) ?_
      refine DL.qf rfl (.free rfl) rfl rfl (Yld.fieldAddr fo49_6 rfl) ?_
      refine DL.q rfl (.free rfl) rfl rfl rfl (Yld.load p3 rfl (atM (hB36d.cell rfl) id)) (Mod.drew _ _) ?_
      refine DL.qf rfl (.free rfl) rfl rfl (Yld.fieldAddr fo84_1 rfl) ?_
      refine DL.q rfl (.free rfl) rfl rfl rfl (Yld.load p82 rfl (atM ((hB6.mod (Mod.drew No _) (fun h => h)).cell rfl) id)) (Mod.drew _ _) ?_
      refine DL.op rfl (.free rfl) rfl rfl (Does.call rfl e30 (cacheLen_ok _ _ c mrc mkc (ruQ v1 v2 v3) ([], []) (hC.grow ((hG.trans hg6).trans (Mod.drew No _))))) ?_
      rintro _ w7 ⟨rfl, hg7⟩
      refine ⟨(Mod.drew _ _).trans (Mod.any' hg7), ?_⟩
      have hB37 := hB36d.mod hg7 (fun h => h)
      refine DL.p rfl rfl rfl ?_
      refine DL.qf rfl (.free rfl) rfl rfl (Yld.fieldAddr fo49_6 rfl) ?_
      refine DL.opT rfl (.free rfl) rfl rfl (Does.store i3 rfl rfl rfl hB37 (.s (.s (.s (.s (.s (.s .z))))))) ?_
      rintro _ w8 ⟨hb8, hm8, hs8⟩
      refine DL.done ?_
      refine RK.inBlock ?_
      refine RK.region ?_
      refine RL.p rfl rfl ?_
      refine RL.re (d := 48) rfl rfl (succ_i64 (by decide)) ?_
      refine RL.p rfl rfl ?_
      refine RL.done ?_
      exact RK.back (ih 1 _ ⟨hb8, ((hm.trans (Mod.any' hg6)).trans (Mod.any' ((Mod.drew _ _).trans hg7))).trans hm8, by omega⟩ (by decide)) ⟨rfl, rfl, rfl, rfl, rfl, rfl, trivial⟩
    · refine RK.exit rfl ?_
      refine RK.seq ?_
      refine RK.region ?_
      refine RL.q (.free rfl) rfl rfl (Yld.loadN (cs := cnt2) a49 rfl (atN (blkV hB))) ?_
      refine RL.op' (.free rfl) rfl (Does.storeN i49 rfl rfl rfl rfl (hB2.mod hG1 (fun h => h)) (Nat.le_of_ble_eq_true rfl)) ?_
      rintro _ w4 ⟨hb4, hm4, hs4⟩
      refine RL.done ?_
      refine RK.ret_of Tryz.func9 (resC (cs := cnt2) rfl rfl a49 hb4) ?_ _
      exact ⟨_, rfl, rfl, hG.then hm4 (fun x hx e => by have e' : x = b2 := e; omega)⟩
  · refine RK.drawT No (.op 0 false (.op 1 false (.op 2 false (.op 3 false (.op 5 false (.op 6 false (.op 7 false (.op 8 false (.op 10 false (.op 11 false (.op 12 false (.op 13 false (.op 14 false (.op 15 false (.op 16 false (.op 17 false (.op 18 false (.op 20 false (.op 21 false (.op 22 false (.op 23 false (.fork 4 (.fork 9 (.fork 19 (.fork 24 (.op 25 false (.op 26 true (.op 27 true .nil))) 26 (.op 24 true (.op 25 false (.op 27 true .nil)))) 26 (.op 19 true (.op 24 true (.op 25 false (.op 27 true .nil))))) 26 (.op 9 true (.op 19 true (.op 24 true (.op 25 false (.op 27 true .nil)))))) 26 (.op 4 true (.op 9 true (.op 19 true (.op 24 true (.op 25 false (.op 27 true .nil)))))))))))))))))))))))))))) [] mixed (by kernel_rfl) ?_
    iterate 2 refine DT.p rfl rfl rfl ?_
    refine DT.qf rfl (.free rfl) rfl rfl (Yld.fieldAddr fo79_2 rfl) ?_
    refine DT.q rfl (.free rfl) rfl rfl rfl (Yld.load p73 rfl (atM (hb1d.cell rfl) id)) (Mod.drew _ _) ?_
    iterate 2 refine DT.p rfl rfl rfl ?_
    refine DT.qf rfl (.free rfl) rfl rfl (Yld.fieldAddr fo79_1 rfl) ?_
    refine DT.q rfl (.free rfl) rfl rfl rfl (Yld.load p71 rfl (atM (hb1d.cell rfl) id)) (Mod.drew _ _) ?_
    iterate 2 refine DT.p rfl rfl rfl ?_
    refine DT.qf rfl (.free rfl) rfl rfl (Yld.fieldAddr fo79_4 rfl) ?_
    refine DT.q rfl (.free rfl) rfl rfl rfl (Yld.load p77 rfl (atM (hb1d.cell rfl) id)) (Mod.drew _ _) ?_
    refine DT.q rfl (.free rfl) rfl rfl rfl (Yld.lenSl u77 rfl) (Mod.drew _ _) ?_
    iterate 2 refine DT.p rfl rfl rfl ?_
    refine DT.qf rfl (.free rfl) rfl rfl (Yld.fieldAddr fo79_0 rfl) ?_
    refine DT.q rfl (.free rfl) rfl rfl rfl (Yld.load p69 rfl (atM (hb1d.cell rfl) id)) (Mod.drew _ _) ?_
    iterate 2 refine DT.p rfl rfl rfl ?_
    refine DT.qf rfl (.free rfl) rfl rfl (Yld.fieldAddr fo79_2 rfl) ?_
    refine DT.q rfl (.free rfl) rfl rfl rfl (Yld.load p73 rfl (atM (hb1d.cell rfl) id)) (Mod.drew _ _) ?_
    refine DT.fork ?_ ?_
    · refine DT.op rfl (.free rfl) rfl rfl (Does.call rfl e26 (emLenA_ok h1d)) ?_
      rintro _ _ ⟨rfl, rfl⟩
      refine ⟨Mod.drew No _, ?_⟩
      refine DT.fork ?_ ?_
      · refine DT.op rfl (.free rfl) rfl rfl (Does.call rfl e27 (emLenS_ok h1d)) ?_
        rintro _ _ ⟨rfl, rfl⟩
        refine ⟨Mod.drew No _, ?_⟩
        refine DT.fork ?_ ?_
        · refine DT.op rfl (.free rfl) rfl rfl (Does.call rfl e28 (doorRecs_ok d1d)) ?_
          rintro _ _ ⟨rfl, rfl⟩
          refine ⟨Mod.drew No _, ?_⟩
          refine DT.fork ?_ ?_
          · refine DT.op rfl (.free rfl) rfl rfl (Does.call rfl e29 (emPosts_ok h1d)) ?_
            rintro _ _ ⟨rfl, rfl⟩
            refine ⟨Mod.drew No _, ?_⟩
            refine DT.qf rfl (.free rfl) rfl rfl (Yld.build (v := .agg cnt2.toArray) rfl (fun w => by kernel_rfl)) ?_
            refine DT.op rfl (.free rfl) rfl rfl (Does.alloc i49) ?_
            rintro _ wN ⟨bN, rfl, hnN⟩
            refine ⟨(Mod.drew No _).trans hnN.grow, ?_⟩
            refine DT.op' rfl (.free rfl) rfl (Does.storeN i49 rfl rfl rfl rfl hnN.blk (Nat.le_of_ble_eq_true rfl)) ?_
            rintro _ wS ⟨hbS, hmS, hsS⟩
            have hGS : Grow w1 wS := ((Mod.drew No _).trans hnN.grow).then hmS (fun x hx e => by have e' : x = bN := e; have haN := hnN.at_; simp only [World.drew] at haN; omega)
            refine ⟨hGS, ?_⟩
            refine DT.done ?_
            exact RK.back (hj bN _ ⟨hbS, hGS, by have haN := hnN.at_; simp only [World.drew] at haN; omega⟩) ⟨rfl, rfl, rfl, trivial⟩
          · refine DT.op rfl (.free rfl) rfl rfl (Does.alloc i49) ?_
            rintro _ wN ⟨bN, rfl, hnN⟩
            refine ⟨(Mod.drew No _).trans hnN.grow, ?_⟩
            refine DT.op rfl (.free rfl) rfl rfl (Does.call rfl e29 (emPosts_ok (h1d.grow hnN.grow))) ?_
            rintro _ _ ⟨rfl, rfl⟩
            refine ⟨(Mod.drew No _).trans hnN.grow, ?_⟩
            refine DT.qf rfl (.free rfl) rfl rfl (Yld.build (v := .agg cnt2.toArray) rfl (fun w => by kernel_rfl)) ?_
            refine DT.op' rfl (.free rfl) rfl (Does.storeN i49 rfl rfl rfl rfl hnN.blk (Nat.le_of_ble_eq_true rfl)) ?_
            rintro _ wS ⟨hbS, hmS, hsS⟩
            have hGS : Grow w1 wS := ((Mod.drew No _).trans hnN.grow).then hmS (fun x hx e => by have e' : x = bN := e; have haN := hnN.at_; simp only [World.drew] at haN; omega)
            refine ⟨hGS, ?_⟩
            refine DT.done ?_
            exact RK.back (hj bN _ ⟨hbS, hGS, by have haN := hnN.at_; simp only [World.drew] at haN; omega⟩) ⟨rfl, rfl, rfl, trivial⟩
        · refine DT.op rfl (.free rfl) rfl rfl (Does.alloc i49) ?_
          rintro _ wN ⟨bN, rfl, hnN⟩
          refine ⟨(Mod.drew No _).trans hnN.grow, ?_⟩
          refine DT.op rfl (.free rfl) rfl rfl (Does.call rfl e28 (doorRecs_ok (d1d.grow hnN.grow))) ?_
          rintro _ _ ⟨rfl, rfl⟩
          refine ⟨(Mod.drew No _).trans hnN.grow, ?_⟩
          refine DT.op rfl (.free rfl) rfl rfl (Does.call rfl e29 (emPosts_ok (h1d.grow hnN.grow))) ?_
          rintro _ _ ⟨rfl, rfl⟩
          refine ⟨(Mod.drew No _).trans hnN.grow, ?_⟩
          refine DT.qf rfl (.free rfl) rfl rfl (Yld.build (v := .agg cnt2.toArray) rfl (fun w => by kernel_rfl)) ?_
          refine DT.op' rfl (.free rfl) rfl (Does.storeN i49 rfl rfl rfl rfl hnN.blk (Nat.le_of_ble_eq_true rfl)) ?_
          rintro _ wS ⟨hbS, hmS, hsS⟩
          have hGS : Grow w1 wS := ((Mod.drew No _).trans hnN.grow).then hmS (fun x hx e => by have e' : x = bN := e; have haN := hnN.at_; simp only [World.drew] at haN; omega)
          refine ⟨hGS, ?_⟩
          refine DT.done ?_
          exact RK.back (hj bN _ ⟨hbS, hGS, by have haN := hnN.at_; simp only [World.drew] at haN; omega⟩) ⟨rfl, rfl, rfl, trivial⟩
      · refine DT.op rfl (.free rfl) rfl rfl (Does.alloc i49) ?_
        rintro _ wN ⟨bN, rfl, hnN⟩
        refine ⟨(Mod.drew No _).trans hnN.grow, ?_⟩
        refine DT.op rfl (.free rfl) rfl rfl (Does.call rfl e27 (emLenS_ok (h1d.grow hnN.grow))) ?_
        rintro _ _ ⟨rfl, rfl⟩
        refine ⟨(Mod.drew No _).trans hnN.grow, ?_⟩
        refine DT.op rfl (.free rfl) rfl rfl (Does.call rfl e28 (doorRecs_ok (d1d.grow hnN.grow))) ?_
        rintro _ _ ⟨rfl, rfl⟩
        refine ⟨(Mod.drew No _).trans hnN.grow, ?_⟩
        refine DT.op rfl (.free rfl) rfl rfl (Does.call rfl e29 (emPosts_ok (h1d.grow hnN.grow))) ?_
        rintro _ _ ⟨rfl, rfl⟩
        refine ⟨(Mod.drew No _).trans hnN.grow, ?_⟩
        refine DT.qf rfl (.free rfl) rfl rfl (Yld.build (v := .agg cnt2.toArray) rfl (fun w => by kernel_rfl)) ?_
        refine DT.op' rfl (.free rfl) rfl (Does.storeN i49 rfl rfl rfl rfl hnN.blk (Nat.le_of_ble_eq_true rfl)) ?_
        rintro _ wS ⟨hbS, hmS, hsS⟩
        have hGS : Grow w1 wS := ((Mod.drew No _).trans hnN.grow).then hmS (fun x hx e => by have e' : x = bN := e; have haN := hnN.at_; simp only [World.drew] at haN; omega)
        refine ⟨hGS, ?_⟩
        refine DT.done ?_
        exact RK.back (hj bN _ ⟨hbS, hGS, by have haN := hnN.at_; simp only [World.drew] at haN; omega⟩) ⟨rfl, rfl, rfl, trivial⟩
    · refine DT.op rfl (.free rfl) rfl rfl (Does.alloc i49) ?_
      rintro _ wN ⟨bN, rfl, hnN⟩
      refine ⟨(Mod.drew No _).trans hnN.grow, ?_⟩
      refine DT.op rfl (.free rfl) rfl rfl (Does.call rfl e26 (emLenA_ok (h1d.grow hnN.grow))) ?_
      rintro _ _ ⟨rfl, rfl⟩
      refine ⟨(Mod.drew No _).trans hnN.grow, ?_⟩
      refine DT.op rfl (.free rfl) rfl rfl (Does.call rfl e27 (emLenS_ok (h1d.grow hnN.grow))) ?_
      rintro _ _ ⟨rfl, rfl⟩
      refine ⟨(Mod.drew No _).trans hnN.grow, ?_⟩
      refine DT.op rfl (.free rfl) rfl rfl (Does.call rfl e28 (doorRecs_ok (d1d.grow hnN.grow))) ?_
      rintro _ _ ⟨rfl, rfl⟩
      refine ⟨(Mod.drew No _).trans hnN.grow, ?_⟩
      refine DT.op rfl (.free rfl) rfl rfl (Does.call rfl e29 (emPosts_ok (h1d.grow hnN.grow))) ?_
      rintro _ _ ⟨rfl, rfl⟩
      refine ⟨(Mod.drew No _).trans hnN.grow, ?_⟩
      refine DT.qf rfl (.free rfl) rfl rfl (Yld.build (v := .agg cnt2.toArray) rfl (fun w => by kernel_rfl)) ?_
      refine DT.op' rfl (.free rfl) rfl (Does.storeN i49 rfl rfl rfl rfl hnN.blk (Nat.le_of_ble_eq_true rfl)) ?_
      rintro _ wS ⟨hbS, hmS, hsS⟩
      have hGS : Grow w1 wS := ((Mod.drew No _).trans hnN.grow).then hmS (fun x hx e => by have e' : x = bN := e; have haN := hnN.at_; simp only [World.drew] at haN; omega)
      refine ⟨hGS, ?_⟩
      refine DT.done ?_
      exact RK.back (hj bN _ ⟨hbS, hGS, by have haN := hnN.at_; simp only [World.drew] at haN; omega⟩) ⟨rfl, rfl, rfl, trivial⟩
theorem pruns_ok (w : World) (hK0 : KeysAt w) : Fx Tryz.prog 3 [] w (fun u w' => u = .bool true ∧ Grow w w') := by
  have hpos := hK0.pos
  refine enter Tryz.func3 rfl rfl rfl _ (Pick.sub (l := []) .nil) ?_
  refine RK.seq ?_
  refine RK.region ?_
  refine RL.p rfl rfl ?_
  refine RL.done ?_
  refine RK.seq ?_
  refine RK.region ?_
  refine RL.op (.free rfl) rfl rfl (Does.call rfl e7 (config25_ok _)) ?_
  rintro _ w1 ⟨rfl, hg1⟩
  refine RL.op (.free rfl) rfl rfl (Does.call rfl e6 (partNew9_ok ⟨#[]⟩ 0 0 9 9 9 0 2 (by decide) (by decide) 3 0 (by decide) _ (hK0.grow hg1))) ?_
  rintro _ w2 ⟨pt, dr, q, sl, al, ids, ix, mr, ds, rfl, ⟨hf1, hf2, hf3⟩, hb2, hd2, hp2, he2, hg2⟩
  refine RL.p rfl rfl ?_
  refine RL.done ?_
  iterate 2 refine RK.seq ?_
  refine RK.region ?_
  refine RL.p rfl rfl ?_
  refine RL.q (.free rfl) rfl rfl (Yld.eqPtr Tryz.underlying22 rfl rfl) ?_
  refine RL.done ?_
  refine RK.condF (hcF rfl (rfl)) ?_
  refine RK.skip ?_
  refine RK.seq ?_
  refine RK.region ?_
  refine RL.q (.free rfl) rfl rfl (Yld.build (v := .agg (mtC mQ).toArray) rfl (fun w => by kernel_rfl)) ?_
  refine RL.op (.free rfl) rfl rfl (Does.slice1 u30 i29 rfl rfl rfl rfl rfl) ?_
  rintro _ w3 ⟨b12, rfl, hn12⟩
  refine RL.p rfl rfl ?_
  refine RL.done ?_
  refine RK.seq ?_
  refine RK.region ?_
  iterate 2 refine RL.p rfl rfl ?_
  refine RL.q (.free rfl) rfl rfl (Yld.build (v := .agg (bdC bQ).toArray) rfl (fun w => by kernel_rfl)) ?_
  refine RL.q (.free rfl) rfl rfl (Yld.build (v := .agg (ruC (ruQ (.slice (some ⟨b12, 0, none⟩) 1 1) (.slice (some ⟨b12, 0, none⟩) 1 1) (.slice none 0 0))).toArray) rfl (fun w => by kernel_rfl)) ?_
  refine RL.q (.free rfl) rfl rfl (Yld.build (v := .agg (reqQ (some ⟨b12, 0, none⟩) 1 (some ⟨b12, 0, none⟩) 1 none 0).toArray) rfl (fun w => by kernel_rfl)) ?_
  refine RL.op (.free rfl) rfl rfl (Does.alloc i39) ?_
  rintro _ w4 ⟨b3, rfl, hn3⟩
  have ha3 := hn3.at_
  have ha12 := hn12.at_
  have hz12 := hn12.size
  have hz3 := hn3.size
  refine RL.op' (.free rfl) rfl (Does.storeN i39 rfl rfl rfl rfl hn3.blk (Nat.le_of_ble_eq_true rfl)) ?_
  rintro _ w5 ⟨hb5, hm5, hs5⟩
  have hB5 : Blk w5 b3 39 (reqQ (some ⟨b12, 0, none⟩) 1 (some ⟨b12, 0, none⟩) 1 none 0) := hb5
  have hg35 : Grow w3 w5 := hn3.grow.then hm5 (fun x hx e => by have e' : x = b3 := e; omega)
  have hg25 := hn12.grow.trans hg35
  have hG5 := (hg1.trans hg2).trans hg25
  have hb := hb2.mod hg25 (fun h => h)
  have hd := hd2.grow hg25
  have hp := hp2.grow' hg25
  have he := he2.grow hg25
  have hK := hK0.grow hG5
  have hz1 := hg1.size
  have hz2 := hg2.size
  have hz25 := hg25.size
  have h0 : 0 < pt ∧ 0 < ids ∧ 0 < q := ⟨by omega, by omega, by omega⟩
  have hptlt := hb.lt
  have hidlt := hp.blk.lt
  have hqlt := hd.ch.blk.lt
  have hptlt2 := hb2.lt
  have hidlt2 := hp2.blk.lt
  have hqlt2 := hd2.ch.blk.lt
  have hsl : SlM (fun b => b = pt ∨ b = ids ∨ b = q) w5 (.slice (some ⟨b12, 0, none⟩) 1 1) [mQ] := (Sl.new (M := (fun b => b = pt ∨ b = ids ∨ b = q)) hn12 3 1 rfl (by decide) (fun e => by rcases e with e | e | e <;> omega)).mod (Mod.any' hg35)
  have hr : (ruQ (.slice (some ⟨b12, 0, none⟩) 1 1) (.slice (some ⟨b12, 0, none⟩) 1 1) (.slice none 0 0)).Ok (fun b => b = pt ∨ b = ids ∨ b = q) w5 := ⟨hsl, hsl, Sl.own (Row.nil _ 9 1) (fun b e => by simp [Value.ownBlock] at e)⟩
  have hB5d := hB5.mod (Mod.drew No _) (fun h => h)
  have hno3 : ¬ (b3 = pt ∨ b3 = ids ∨ b3 = q) := fun e => by rcases e with e | e | e <;> omega
  refine RL.done ?_
  refine RK.seq ?_
  refine RK.cutS (fun s : Nat × Nat => [(1, pp pt), (4, pp s.1), (5, pp s.2)]) (fun s w' => Blk w' s.1 46 (respC 0 9 1 0) ∧ Blk w' s.2 46 (respC 6 0 0 0) ∧ (∃ base top c vr vp v' cs' ds', RuAt base top w' pt dr sl al ids c vr vp ∧ DoorAt w' dr q 3 0 9 2 v' cs' ds') ∧ Mod (fun b => b = pt ∨ b = ids ∨ b = q) w5 w') (fun s w6 hQ => ?_) (fun hj => ?_)
  · obtain ⟨b4, b5⟩ := s
    obtain ⟨hB4, hB5, ⟨base, top, c, vr, vp, v', cs', ds', hR6, hD6⟩, hM6⟩ := hQ
    have he6 := he.modT hM6 (fun b e => by rcases e with e | e | e; exact ⟨_, e ▸ hb.ty, rfl, rfl, rfl⟩; exact ⟨_, e ▸ hp.blk.ty, rfl, rfl, rfl⟩; exact ⟨_, e ▸ hd.ch.blk.ty, rfl, rfl, rfl⟩)
    refine RK.seq ?_
    refine RK.region ?_
    refine RL.p rfl rfl ?_
    refine RL.op (.free rfl) rfl rfl (Does.call rfl e9 (partCounts2_ok hR6 hD6 he6)) ?_
    rintro _ w7 ⟨rfl, hg7⟩
    refine RL.op (.free rfl) rfl rfl (Does.alloc i49) ?_
    rintro _ w8 ⟨b6, rfl, hn6⟩
    have ha6 := hn6.at_
    have hz7 := hg7.size
    refine RL.op' (.free rfl) rfl (Does.storeN i49 rfl rfl rfl rfl hn6.blk (Nat.le_of_ble_eq_true rfl)) ?_
    rintro _ w9 ⟨hb9, hm9, hs9⟩
    have hB9 : Blk w9 b6 49 cnt2 := hb9
    have hg69 : Grow w6 w9 := (hg7.trans hn6.grow).then hm9 (fun x hx e => by have e' : x = b6 := e; omega)
    have hB49 := hB4.mod hg69 (fun h => h)
    have hB59 := hB5.mod hg69 (fun h => h)
    refine RL.done ?_
    refine RK.seq ?_
    refine RK.region ?_
    refine RL.q (.free rfl) rfl rfl (Yld.fieldAddr fo46_0 rfl) ?_
    refine RL.q (.free rfl) rfl rfl (Yld.load p40 rfl (at1 (hB49.cell rfl))) ?_
    iterate 2 refine RL.p rfl rfl ?_
    refine RL.knownT (d := 29) rfl rfl (rfl) ?_
    refine RL.q (.yes rfl rfl rfl) rfl rfl (Yld.fieldAddr fo46_2 rfl) ?_
    refine RL.q (.yes rfl rfl rfl) rfl rfl (Yld.load p3 rfl (at1 (hB49.cell rfl))) ?_
    refine RL.q (.yes rfl rfl rfl) rfl rfl (Yld.pure rfl) ?_
    iterate 2 refine RL.p rfl rfl ?_
    refine RL.knownT (d := 34) rfl rfl (rfl) ?_
    refine RL.q (.yes rfl rfl rfl) rfl rfl (Yld.fieldAddr fo46_0 rfl) ?_
    refine RL.q (.yes rfl rfl rfl) rfl rfl (Yld.load p40 rfl (at1 (hB59.cell rfl))) ?_
    refine RL.q (.yes rfl rfl rfl) rfl rfl (Yld.pure rfl) ?_
    iterate 2 refine RL.p rfl rfl ?_
    refine RL.knownT (d := 39) rfl rfl (rfl) ?_
    refine RL.q (.yes rfl rfl rfl) rfl rfl (Yld.fieldAddr fo49_4 rfl) ?_
    refine RL.q (.yes rfl rfl rfl) rfl rfl (Yld.load p3 rfl (at1 (hB9.cell rfl))) ?_
    refine RL.q (.yes rfl rfl rfl) rfl rfl (Yld.pure rfl) ?_
    iterate 2 refine RL.p rfl rfl ?_
    refine RL.knownT (d := 44) rfl rfl (rfl) ?_
    refine RL.q (.yes rfl rfl rfl) rfl rfl (Yld.fieldAddr fo49_3 rfl) ?_
    refine RL.q (.yes rfl rfl rfl) rfl rfl (Yld.load p3 rfl (at1 (hB9.cell rfl))) ?_
    refine RL.q (.yes rfl rfl rfl) rfl rfl (Yld.pure rfl) ?_
    iterate 2 refine RL.p rfl rfl ?_
    refine RL.done ?_
    refine RK.ret_of Tryz.func3 (res1 rfl rfl) ?_ _
    exact ⟨_, rfl, rfl, (hG5.then hM6 (fun x hx e => by rcases e with e | e | e <;> omega)).trans hg69⟩
  · refine RK.drawT (fun b => b = pt ∨ b = ids ∨ b = q) (.op 0 false (.op 1 false (.op 3 false (.op 4 false (.fork3 2 (.fork3 5 (.fork 6 (.op 7 true (.op 8 true (.op 9 true .nil))) 7 (.op 6 true (.op 8 true (.op 9 true .nil)))) 6 (.fork 5 (.op 7 true (.op 8 true (.op 9 true .nil))) 7 (.op 5 true (.op 8 true (.op 9 true .nil)))) 7 (.fork 5 (.op 6 true (.op 8 true (.op 9 true .nil))) 6 (.op 5 true (.op 8 true (.op 9 true .nil))))) 6 (.fork 2 (.fork 5 (.op 7 true (.op 8 true (.op 9 true .nil))) 7 (.op 5 true (.op 8 true (.op 9 true .nil)))) 7 (.op 2 true (.op 5 true (.op 8 true (.op 9 true .nil))))) 7 (.fork 2 (.fork 5 (.op 6 true (.op 8 true (.op 9 true .nil))) 6 (.op 5 true (.op 8 true (.op 9 true .nil)))) 6 (.op 2 true (.op 5 true (.op 8 true (.op 9 true .nil)))))))))) [] mixed (by kernel_rfl) ?_
    refine DT.p rfl rfl rfl ?_
    refine DT.q rfl (.free rfl) rfl rfl rfl (Yld.loadN (cs := reqQ (some ⟨b12, 0, none⟩) 1 (some ⟨b12, 0, none⟩) 1 none 0) a39 rfl (atNM (blkV hB5d) (hno3))) (Mod.drew _ _) ?_
    have gc0 : Grow w5 w5.drew := Mod.drew _ _
    refine DT.p rfl rfl rfl ?_
    refine DT.q rfl (.free rfl) rfl rfl rfl (Yld.loadN (cs := reqQ (some ⟨b12, 0, none⟩) 1 (some ⟨b12, 0, none⟩) 1 none 0) a39 rfl (atNM (blkV hB5d) (hno3))) (Mod.drew _ _) ?_
    refine DT.fork3 ?_ ?_ ?_
    · refine DT.op rfl (.free rfl) rfl rfl (Does.call rfl e8 (partDo1_ok (hb.mod gc0 (fun h => h)) (hd.grow gc0) (hp.grow' gc0) (he.grow gc0) (hK.grow gc0) h0 (some ⟨b12, 0, none⟩) 1 (some ⟨b12, 0, none⟩) 1 none 0 (fun b => b = pt ∨ b = ids ∨ b = q) (.inr (.inl rfl)) (hr.mod (Mod.any' gc0)))) ?_
      rintro _ y21 ⟨rfl, ⟨base, top, c, vr, vp, a', k', a9, c9, ds1, hR21, hlb, hlt, hD21, hown⟩, hm21⟩
      refine ⟨(Mod.drew _ _).trans hm21, ?_⟩
      have hz21 := hm21.size
      have hzg21 := gc0.size
      try simp only [World.drew] at hzg21 hlb hz21
      have hbt := hR21.bt
      refine DT.fork3 ?_ ?_ ?_
      · have hKK22 : KeysAt _ := hK.mod ((Mod.drew _ _).trans hm21) (fun e => by rcases e with e | e | e <;> omega)
        have hrr22 := hr.mod ((Mod.drew _ _).trans hm21)
        refine DT.op rfl (.free rfl) rfl rfl (Does.call rfl e8 (partDo2_ok hR21 hD21 (fun b e => by have := hown b e; omega) hKK22 h0.2.2 (some ⟨b12, 0, none⟩) 1 (some ⟨b12, 0, none⟩) 1 none 0 _ hrr22)) ?_
        rintro _ y22 ⟨rfl, ⟨v', cs', ds', hD22⟩, hm22⟩
        have hz22 := hm22.size
        have hS22 : Mod (fun b => b = pt ∨ b = ids ∨ b = q) w5 y22 := ((Mod.drew _ _).trans hm21).then hm22 (fun x hx e => by rcases e with e | e; exact .inr (.inr e); have := hown x e; omega)
        refine ⟨hS22, ?_⟩
        have hR22 := hR21.mod hm22 (fun b _ e => by rcases e with e | e; left; omega; right; exact hown b e) (fun e => e.elim (hR21.1.ty.ne hD21.ch.blk.ty rfl) (fun e => (hD21.ch.row.ty e).ne hR21.1.ty rfl rfl)) (fun e => e.elim (hR21.2.2.1.blk.ty.ne hD21.ch.blk.ty rfl) (fun e => (hD21.ch.row.ty e).ne hR21.2.2.1.blk.ty rfl rfl)) (fun b e1 e => e.elim ((hR21.2.1.ty e1).ne hD21.ch.blk.ty rfl) (fun e => (hR21.2.1.ty e1).ne (hD21.ch.row.ty e) rfl rfl)) (fun b e1 e => e.elim ((hR21.2.2.1.row.ty e1).ne hD21.ch.blk.ty rfl) (fun e => (hR21.2.2.1.row.ty e1).ne (hD21.ch.row.ty e) rfl rfl))
        refine DT.fork ?_ ?_
        · refine DT.op rfl (.free rfl) rfl rfl (Does.alloc i46) ?_
          rintro _ y23 ⟨b4, rfl, hn23⟩
          refine ⟨(hS22).trans (Mod.any' hn23.grow), ?_⟩
          have ha23 := hn23.at_
          have hz23 := hn23.size
          have hge4 : w5.heap.size ≤ b4 := by have hh : Mod (fun b => b = pt ∨ b = ids ∨ b = q) w5 _ := hS22; have := hh.size; omega
          have hB4_23 := hn23.blk
          have hps4 : b4 < base ∨ top ≤ b4 := .inr (by omega)
          have hR23 := hR22.grow hn23.grow
          have hD23 := hD22.grow hn23.grow
          refine DT.op rfl (.free rfl) rfl rfl (Does.alloc i46) ?_
          rintro _ y24 ⟨b5, rfl, hn24⟩
          refine ⟨((hS22).trans (Mod.any' hn23.grow)).trans (Mod.any' hn24.grow), ?_⟩
          have ha24 := hn24.at_
          have hz24 := hn24.size
          have hge5 : w5.heap.size ≤ b5 := by have hh : Mod (fun b => b = pt ∨ b = ids ∨ b = q) w5 _ := (hS22).trans (Mod.any' hn23.grow); have := hh.size; omega
          have hlo24 := hB4_23.lt
          have hne45 : b4 ≠ b5 := by omega
          have hB4_24 := hB4_23.mod hn24.grow (fun h => h)
          have hB5_24 := hn24.blk
          have hps5 : b5 < base ∨ top ≤ b5 := .inr (by omega)
          have hR24 := hR23.grow hn24.grow
          have hD24 := hD23.grow hn24.grow
          refine DT.op' rfl (.free rfl) rfl (Does.storeN i46 rfl rfl rfl rfl hB4_24 (Nat.le_of_ble_eq_true rfl)) ?_
          rintro _ wS ⟨hbS, hmS, hsS⟩
          have hSS : Mod (fun b => b = pt ∨ b = ids ∨ b = q) w5 wS := (((hS22).trans (Mod.any' hn23.grow)).trans (Mod.any' hn24.grow)).then hmS (fun x hx e => by have e' : x = b4 := e; omega)
          refine ⟨hSS, ?_⟩
          have hB5S := hB5_24.mod hmS (fun e => hne45 e.symm)
          refine DT.op' rfl (.free rfl) rfl (Does.storeN i46 rfl rfl rfl rfl hB5S (Nat.le_of_ble_eq_true rfl)) ?_
          rintro _ wT ⟨hbT, hmT, hsT⟩
          have hTT : Mod (fun b => b = pt ∨ b = ids ∨ b = q) w5 wT := hSS.then hmT (fun x hx e => by have e' : x = b5 := e; omega)
          refine ⟨hTT, ?_⟩
          have hmST : Mod (fun b => b = b4 ∨ b = b5) _ wT := (hmS.mono fun b _ e => .inl e).trans (hmT.mono fun b _ e => .inr e)
          have hRT := hR24.mod hmST (fun b _ e => by rcases e with e | e; rw [e]; exact hps4; rw [e]; exact hps5) (fun e => e.elim (hR24.1.ty.ne hB4_24.ty rfl) (hR24.1.ty.ne hB5_24.ty rfl)) (fun e => e.elim (hR24.2.2.1.blk.ty.ne hB4_24.ty rfl) (hR24.2.2.1.blk.ty.ne hB5_24.ty rfl)) (fun b e1 e => e.elim ((hR24.2.1.ty e1).ne hB4_24.ty rfl) ((hR24.2.1.ty e1).ne hB5_24.ty rfl)) (fun b e1 e => e.elim ((hR24.2.2.1.row.ty e1).ne hB4_24.ty rfl) ((hR24.2.2.1.row.ty e1).ne hB5_24.ty rfl))
          have hDT : DoorAt wT dr q 3 0 9 2 v' cs' ds' := ⟨hD24.blk.mod hmST (fun e => e.elim (hD24.blk.ty.ne hB4_24.ty rfl) (hD24.blk.ty.ne hB5_24.ty rfl)), hD24.ch.blk.mod hmST (fun e => e.elim (hD24.ch.blk.ty.ne hB4_24.ty rfl) (hD24.ch.blk.ty.ne hB5_24.ty rfl)), hD24.ch.row.mod hmST (fun b e1 e => e.elim ((hD24.ch.row.ty e1).ne hB4_24.ty rfl) ((hD24.ch.row.ty e1).ne hB5_24.ty rfl)), hD24.ch.head⟩
          have hMT : Mod (fun b => b = pt ∨ b = ids ∨ b = q) w5 wT := (((hS22).trans (Mod.any' hn23.grow)).trans (Mod.any' hn24.grow)).then hmST (fun x hx e => by rcases e with e | e <;> omega)
          refine DT.done ?_
          exact RK.back (hj (b4, b5) _ ⟨hbS.mod hmT hne45, hbT, ⟨base, top, c, vr, vp, v', cs', ds', hRT, hDT⟩, hMT⟩) ⟨rfl, rfl, rfl, trivial⟩
        · refine DT.op rfl (.free rfl) rfl rfl (Does.alloc i46) ?_
          rintro _ y23 ⟨b5, rfl, hn23⟩
          refine ⟨(hS22).trans (Mod.any' hn23.grow), ?_⟩
          have ha23 := hn23.at_
          have hz23 := hn23.size
          have hge5 : w5.heap.size ≤ b5 := by have hh : Mod (fun b => b = pt ∨ b = ids ∨ b = q) w5 _ := hS22; have := hh.size; omega
          have hB5_23 := hn23.blk
          have hps5 : b5 < base ∨ top ≤ b5 := .inr (by omega)
          have hR23 := hR22.grow hn23.grow
          have hD23 := hD22.grow hn23.grow
          refine DT.op rfl (.free rfl) rfl rfl (Does.alloc i46) ?_
          rintro _ y24 ⟨b4, rfl, hn24⟩
          refine ⟨((hS22).trans (Mod.any' hn23.grow)).trans (Mod.any' hn24.grow), ?_⟩
          have ha24 := hn24.at_
          have hz24 := hn24.size
          have hge4 : w5.heap.size ≤ b4 := by have hh : Mod (fun b => b = pt ∨ b = ids ∨ b = q) w5 _ := (hS22).trans (Mod.any' hn23.grow); have := hh.size; omega
          have hlo24 := hB5_23.lt
          have hne45 : b4 ≠ b5 := by omega
          have hB5_24 := hB5_23.mod hn24.grow (fun h => h)
          have hB4_24 := hn24.blk
          have hps4 : b4 < base ∨ top ≤ b4 := .inr (by omega)
          have hR24 := hR23.grow hn24.grow
          have hD24 := hD23.grow hn24.grow
          refine DT.op' rfl (.free rfl) rfl (Does.storeN i46 rfl rfl rfl rfl hB4_24 (Nat.le_of_ble_eq_true rfl)) ?_
          rintro _ wS ⟨hbS, hmS, hsS⟩
          have hSS : Mod (fun b => b = pt ∨ b = ids ∨ b = q) w5 wS := (((hS22).trans (Mod.any' hn23.grow)).trans (Mod.any' hn24.grow)).then hmS (fun x hx e => by have e' : x = b4 := e; omega)
          refine ⟨hSS, ?_⟩
          have hB5S := hB5_24.mod hmS (fun e => hne45 e.symm)
          refine DT.op' rfl (.free rfl) rfl (Does.storeN i46 rfl rfl rfl rfl hB5S (Nat.le_of_ble_eq_true rfl)) ?_
          rintro _ wT ⟨hbT, hmT, hsT⟩
          have hTT : Mod (fun b => b = pt ∨ b = ids ∨ b = q) w5 wT := hSS.then hmT (fun x hx e => by have e' : x = b5 := e; omega)
          refine ⟨hTT, ?_⟩
          have hmST : Mod (fun b => b = b4 ∨ b = b5) _ wT := (hmS.mono fun b _ e => .inl e).trans (hmT.mono fun b _ e => .inr e)
          have hRT := hR24.mod hmST (fun b _ e => by rcases e with e | e; rw [e]; exact hps4; rw [e]; exact hps5) (fun e => e.elim (hR24.1.ty.ne hB4_24.ty rfl) (hR24.1.ty.ne hB5_24.ty rfl)) (fun e => e.elim (hR24.2.2.1.blk.ty.ne hB4_24.ty rfl) (hR24.2.2.1.blk.ty.ne hB5_24.ty rfl)) (fun b e1 e => e.elim ((hR24.2.1.ty e1).ne hB4_24.ty rfl) ((hR24.2.1.ty e1).ne hB5_24.ty rfl)) (fun b e1 e => e.elim ((hR24.2.2.1.row.ty e1).ne hB4_24.ty rfl) ((hR24.2.2.1.row.ty e1).ne hB5_24.ty rfl))
          have hDT : DoorAt wT dr q 3 0 9 2 v' cs' ds' := ⟨hD24.blk.mod hmST (fun e => e.elim (hD24.blk.ty.ne hB4_24.ty rfl) (hD24.blk.ty.ne hB5_24.ty rfl)), hD24.ch.blk.mod hmST (fun e => e.elim (hD24.ch.blk.ty.ne hB4_24.ty rfl) (hD24.ch.blk.ty.ne hB5_24.ty rfl)), hD24.ch.row.mod hmST (fun b e1 e => e.elim ((hD24.ch.row.ty e1).ne hB4_24.ty rfl) ((hD24.ch.row.ty e1).ne hB5_24.ty rfl)), hD24.ch.head⟩
          have hMT : Mod (fun b => b = pt ∨ b = ids ∨ b = q) w5 wT := (((hS22).trans (Mod.any' hn23.grow)).trans (Mod.any' hn24.grow)).then hmST (fun x hx e => by rcases e with e | e <;> omega)
          refine DT.done ?_
          exact RK.back (hj (b4, b5) _ ⟨hbS.mod hmT hne45, hbT, ⟨base, top, c, vr, vp, v', cs', ds', hRT, hDT⟩, hMT⟩) ⟨rfl, rfl, rfl, trivial⟩
      · refine DT.op rfl (.free rfl) rfl rfl (Does.alloc i46) ?_
        rintro _ y22 ⟨b4, rfl, hn22⟩
        refine ⟨((Mod.drew _ _).trans hm21).trans (Mod.any' hn22.grow), ?_⟩
        have ha22 := hn22.at_
        have hz22 := hn22.size
        have hge4 : w5.heap.size ≤ b4 := by have hh : Mod (fun b => b = pt ∨ b = ids ∨ b = q) w5 _ := (Mod.drew _ _).trans hm21; have := hh.size; omega
        have hB4_22 := hn22.blk
        have hps4 : b4 < base ∨ top ≤ b4 := .inr (by omega)
        have hR22 := hR21.grow hn22.grow
        have hD22 := hD21.grow hn22.grow
        refine DT.fork ?_ ?_
        · have hKK23 : KeysAt _ := hK.mod (((Mod.drew _ _).trans hm21).trans (Mod.any' hn22.grow)) (fun e => by rcases e with e | e | e <;> omega)
          have hrr23 := hr.mod (((Mod.drew _ _).trans hm21).trans (Mod.any' hn22.grow))
          refine DT.op rfl (.free rfl) rfl rfl (Does.call rfl e8 (partDo2_ok hR22 hD22 (fun b e => by have := hown b e; omega) hKK23 h0.2.2 (some ⟨b12, 0, none⟩) 1 (some ⟨b12, 0, none⟩) 1 none 0 _ hrr23)) ?_
          rintro _ y23 ⟨rfl, ⟨v', cs', ds', hD23⟩, hm23⟩
          have hz23 := hm23.size
          have hS23 : Mod (fun b => b = pt ∨ b = ids ∨ b = q) w5 y23 := (((Mod.drew _ _).trans hm21).trans (Mod.any' hn22.grow)).then hm23 (fun x hx e => by rcases e with e | e; exact .inr (.inr e); have := hown x e; omega)
          refine ⟨hS23, ?_⟩
          have hR23 := hR22.mod hm23 (fun b _ e => by rcases e with e | e; left; omega; right; exact hown b e) (fun e => e.elim (hR22.1.ty.ne hD22.ch.blk.ty rfl) (fun e => (hD22.ch.row.ty e).ne hR22.1.ty rfl rfl)) (fun e => e.elim (hR22.2.2.1.blk.ty.ne hD22.ch.blk.ty rfl) (fun e => (hD22.ch.row.ty e).ne hR22.2.2.1.blk.ty rfl rfl)) (fun b e1 e => e.elim ((hR22.2.1.ty e1).ne hD22.ch.blk.ty rfl) (fun e => (hR22.2.1.ty e1).ne (hD22.ch.row.ty e) rfl rfl)) (fun b e1 e => e.elim ((hR22.2.2.1.row.ty e1).ne hD22.ch.blk.ty rfl) (fun e => (hR22.2.2.1.row.ty e1).ne (hD22.ch.row.ty e) rfl rfl))
          have hB4_23 := hB4_22.mod hm23 (fun e => e.elim (hB4_22.ty.ne hD22.ch.blk.ty rfl) (fun e => (hD22.ch.row.ty e).ne hB4_22.ty rfl rfl))
          refine DT.op rfl (.free rfl) rfl rfl (Does.alloc i46) ?_
          rintro _ y24 ⟨b5, rfl, hn24⟩
          refine ⟨(hS23).trans (Mod.any' hn24.grow), ?_⟩
          have ha24 := hn24.at_
          have hz24 := hn24.size
          have hge5 : w5.heap.size ≤ b5 := by have hh : Mod (fun b => b = pt ∨ b = ids ∨ b = q) w5 _ := hS23; have := hh.size; omega
          have hlo24 := hB4_23.lt
          have hne45 : b4 ≠ b5 := by omega
          have hB4_24 := hB4_23.mod hn24.grow (fun h => h)
          have hB5_24 := hn24.blk
          have hps5 : b5 < base ∨ top ≤ b5 := .inr (by omega)
          have hR24 := hR23.grow hn24.grow
          have hD24 := hD23.grow hn24.grow
          refine DT.op' rfl (.free rfl) rfl (Does.storeN i46 rfl rfl rfl rfl hB4_24 (Nat.le_of_ble_eq_true rfl)) ?_
          rintro _ wS ⟨hbS, hmS, hsS⟩
          have hSS : Mod (fun b => b = pt ∨ b = ids ∨ b = q) w5 wS := ((hS23).trans (Mod.any' hn24.grow)).then hmS (fun x hx e => by have e' : x = b4 := e; omega)
          refine ⟨hSS, ?_⟩
          have hB5S := hB5_24.mod hmS (fun e => hne45 e.symm)
          refine DT.op' rfl (.free rfl) rfl (Does.storeN i46 rfl rfl rfl rfl hB5S (Nat.le_of_ble_eq_true rfl)) ?_
          rintro _ wT ⟨hbT, hmT, hsT⟩
          have hTT : Mod (fun b => b = pt ∨ b = ids ∨ b = q) w5 wT := hSS.then hmT (fun x hx e => by have e' : x = b5 := e; omega)
          refine ⟨hTT, ?_⟩
          have hmST : Mod (fun b => b = b4 ∨ b = b5) _ wT := (hmS.mono fun b _ e => .inl e).trans (hmT.mono fun b _ e => .inr e)
          have hRT := hR24.mod hmST (fun b _ e => by rcases e with e | e; rw [e]; exact hps4; rw [e]; exact hps5) (fun e => e.elim (hR24.1.ty.ne hB4_24.ty rfl) (hR24.1.ty.ne hB5_24.ty rfl)) (fun e => e.elim (hR24.2.2.1.blk.ty.ne hB4_24.ty rfl) (hR24.2.2.1.blk.ty.ne hB5_24.ty rfl)) (fun b e1 e => e.elim ((hR24.2.1.ty e1).ne hB4_24.ty rfl) ((hR24.2.1.ty e1).ne hB5_24.ty rfl)) (fun b e1 e => e.elim ((hR24.2.2.1.row.ty e1).ne hB4_24.ty rfl) ((hR24.2.2.1.row.ty e1).ne hB5_24.ty rfl))
          have hDT : DoorAt wT dr q 3 0 9 2 v' cs' ds' := ⟨hD24.blk.mod hmST (fun e => e.elim (hD24.blk.ty.ne hB4_24.ty rfl) (hD24.blk.ty.ne hB5_24.ty rfl)), hD24.ch.blk.mod hmST (fun e => e.elim (hD24.ch.blk.ty.ne hB4_24.ty rfl) (hD24.ch.blk.ty.ne hB5_24.ty rfl)), hD24.ch.row.mod hmST (fun b e1 e => e.elim ((hD24.ch.row.ty e1).ne hB4_24.ty rfl) ((hD24.ch.row.ty e1).ne hB5_24.ty rfl)), hD24.ch.head⟩
          have hMT : Mod (fun b => b = pt ∨ b = ids ∨ b = q) w5 wT := ((hS23).trans (Mod.any' hn24.grow)).then hmST (fun x hx e => by rcases e with e | e <;> omega)
          refine DT.done ?_
          exact RK.back (hj (b4, b5) _ ⟨hbS.mod hmT hne45, hbT, ⟨base, top, c, vr, vp, v', cs', ds', hRT, hDT⟩, hMT⟩) ⟨rfl, rfl, rfl, trivial⟩
        · refine DT.op rfl (.free rfl) rfl rfl (Does.alloc i46) ?_
          rintro _ y23 ⟨b5, rfl, hn23⟩
          refine ⟨(((Mod.drew _ _).trans hm21).trans (Mod.any' hn22.grow)).trans (Mod.any' hn23.grow), ?_⟩
          have ha23 := hn23.at_
          have hz23 := hn23.size
          have hge5 : w5.heap.size ≤ b5 := by have hh : Mod (fun b => b = pt ∨ b = ids ∨ b = q) w5 _ := ((Mod.drew _ _).trans hm21).trans (Mod.any' hn22.grow); have := hh.size; omega
          have hlo23 := hB4_22.lt
          have hne45 : b4 ≠ b5 := by omega
          have hB4_23 := hB4_22.mod hn23.grow (fun h => h)
          have hB5_23 := hn23.blk
          have hps5 : b5 < base ∨ top ≤ b5 := .inr (by omega)
          have hR23 := hR22.grow hn23.grow
          have hD23 := hD22.grow hn23.grow
          have hKK24 : KeysAt _ := hK.mod ((((Mod.drew _ _).trans hm21).trans (Mod.any' hn22.grow)).trans (Mod.any' hn23.grow)) (fun e => by rcases e with e | e | e <;> omega)
          have hrr24 := hr.mod ((((Mod.drew _ _).trans hm21).trans (Mod.any' hn22.grow)).trans (Mod.any' hn23.grow))
          refine DT.op rfl (.free rfl) rfl rfl (Does.call rfl e8 (partDo2_ok hR23 hD23 (fun b e => by have := hown b e; omega) hKK24 h0.2.2 (some ⟨b12, 0, none⟩) 1 (some ⟨b12, 0, none⟩) 1 none 0 _ hrr24)) ?_
          rintro _ y24 ⟨rfl, ⟨v', cs', ds', hD24⟩, hm24⟩
          have hz24 := hm24.size
          have hS24 : Mod (fun b => b = pt ∨ b = ids ∨ b = q) w5 y24 := ((((Mod.drew _ _).trans hm21).trans (Mod.any' hn22.grow)).trans (Mod.any' hn23.grow)).then hm24 (fun x hx e => by rcases e with e | e; exact .inr (.inr e); have := hown x e; omega)
          refine ⟨hS24, ?_⟩
          have hR24 := hR23.mod hm24 (fun b _ e => by rcases e with e | e; left; omega; right; exact hown b e) (fun e => e.elim (hR23.1.ty.ne hD23.ch.blk.ty rfl) (fun e => (hD23.ch.row.ty e).ne hR23.1.ty rfl rfl)) (fun e => e.elim (hR23.2.2.1.blk.ty.ne hD23.ch.blk.ty rfl) (fun e => (hD23.ch.row.ty e).ne hR23.2.2.1.blk.ty rfl rfl)) (fun b e1 e => e.elim ((hR23.2.1.ty e1).ne hD23.ch.blk.ty rfl) (fun e => (hR23.2.1.ty e1).ne (hD23.ch.row.ty e) rfl rfl)) (fun b e1 e => e.elim ((hR23.2.2.1.row.ty e1).ne hD23.ch.blk.ty rfl) (fun e => (hR23.2.2.1.row.ty e1).ne (hD23.ch.row.ty e) rfl rfl))
          have hB4_24 := hB4_23.mod hm24 (fun e => e.elim (hB4_23.ty.ne hD23.ch.blk.ty rfl) (fun e => (hD23.ch.row.ty e).ne hB4_23.ty rfl rfl))
          have hB5_24 := hB5_23.mod hm24 (fun e => e.elim (hB5_23.ty.ne hD23.ch.blk.ty rfl) (fun e => (hD23.ch.row.ty e).ne hB5_23.ty rfl rfl))
          refine DT.op' rfl (.free rfl) rfl (Does.storeN i46 rfl rfl rfl rfl hB4_24 (Nat.le_of_ble_eq_true rfl)) ?_
          rintro _ wS ⟨hbS, hmS, hsS⟩
          have hSS : Mod (fun b => b = pt ∨ b = ids ∨ b = q) w5 wS := (hS24).then hmS (fun x hx e => by have e' : x = b4 := e; omega)
          refine ⟨hSS, ?_⟩
          have hB5S := hB5_24.mod hmS (fun e => hne45 e.symm)
          refine DT.op' rfl (.free rfl) rfl (Does.storeN i46 rfl rfl rfl rfl hB5S (Nat.le_of_ble_eq_true rfl)) ?_
          rintro _ wT ⟨hbT, hmT, hsT⟩
          have hTT : Mod (fun b => b = pt ∨ b = ids ∨ b = q) w5 wT := hSS.then hmT (fun x hx e => by have e' : x = b5 := e; omega)
          refine ⟨hTT, ?_⟩
          have hmST : Mod (fun b => b = b4 ∨ b = b5) _ wT := (hmS.mono fun b _ e => .inl e).trans (hmT.mono fun b _ e => .inr e)
          have hRT := hR24.mod hmST (fun b _ e => by rcases e with e | e; rw [e]; exact hps4; rw [e]; exact hps5) (fun e => e.elim (hR24.1.ty.ne hB4_24.ty rfl) (hR24.1.ty.ne hB5_24.ty rfl)) (fun e => e.elim (hR24.2.2.1.blk.ty.ne hB4_24.ty rfl) (hR24.2.2.1.blk.ty.ne hB5_24.ty rfl)) (fun b e1 e => e.elim ((hR24.2.1.ty e1).ne hB4_24.ty rfl) ((hR24.2.1.ty e1).ne hB5_24.ty rfl)) (fun b e1 e => e.elim ((hR24.2.2.1.row.ty e1).ne hB4_24.ty rfl) ((hR24.2.2.1.row.ty e1).ne hB5_24.ty rfl))
          have hDT : DoorAt wT dr q 3 0 9 2 v' cs' ds' := ⟨hD24.blk.mod hmST (fun e => e.elim (hD24.blk.ty.ne hB4_24.ty rfl) (hD24.blk.ty.ne hB5_24.ty rfl)), hD24.ch.blk.mod hmST (fun e => e.elim (hD24.ch.blk.ty.ne hB4_24.ty rfl) (hD24.ch.blk.ty.ne hB5_24.ty rfl)), hD24.ch.row.mod hmST (fun b e1 e => e.elim ((hD24.ch.row.ty e1).ne hB4_24.ty rfl) ((hD24.ch.row.ty e1).ne hB5_24.ty rfl)), hD24.ch.head⟩
          have hMT : Mod (fun b => b = pt ∨ b = ids ∨ b = q) w5 wT := (hS24).then hmST (fun x hx e => by rcases e with e | e <;> omega)
          refine DT.done ?_
          exact RK.back (hj (b4, b5) _ ⟨hbS.mod hmT hne45, hbT, ⟨base, top, c, vr, vp, v', cs', ds', hRT, hDT⟩, hMT⟩) ⟨rfl, rfl, rfl, trivial⟩
      · refine DT.op rfl (.free rfl) rfl rfl (Does.alloc i46) ?_
        rintro _ y22 ⟨b5, rfl, hn22⟩
        refine ⟨((Mod.drew _ _).trans hm21).trans (Mod.any' hn22.grow), ?_⟩
        have ha22 := hn22.at_
        have hz22 := hn22.size
        have hge5 : w5.heap.size ≤ b5 := by have hh : Mod (fun b => b = pt ∨ b = ids ∨ b = q) w5 _ := (Mod.drew _ _).trans hm21; have := hh.size; omega
        have hB5_22 := hn22.blk
        have hps5 : b5 < base ∨ top ≤ b5 := .inr (by omega)
        have hR22 := hR21.grow hn22.grow
        have hD22 := hD21.grow hn22.grow
        refine DT.fork ?_ ?_
        · have hKK23 : KeysAt _ := hK.mod (((Mod.drew _ _).trans hm21).trans (Mod.any' hn22.grow)) (fun e => by rcases e with e | e | e <;> omega)
          have hrr23 := hr.mod (((Mod.drew _ _).trans hm21).trans (Mod.any' hn22.grow))
          refine DT.op rfl (.free rfl) rfl rfl (Does.call rfl e8 (partDo2_ok hR22 hD22 (fun b e => by have := hown b e; omega) hKK23 h0.2.2 (some ⟨b12, 0, none⟩) 1 (some ⟨b12, 0, none⟩) 1 none 0 _ hrr23)) ?_
          rintro _ y23 ⟨rfl, ⟨v', cs', ds', hD23⟩, hm23⟩
          have hz23 := hm23.size
          have hS23 : Mod (fun b => b = pt ∨ b = ids ∨ b = q) w5 y23 := (((Mod.drew _ _).trans hm21).trans (Mod.any' hn22.grow)).then hm23 (fun x hx e => by rcases e with e | e; exact .inr (.inr e); have := hown x e; omega)
          refine ⟨hS23, ?_⟩
          have hR23 := hR22.mod hm23 (fun b _ e => by rcases e with e | e; left; omega; right; exact hown b e) (fun e => e.elim (hR22.1.ty.ne hD22.ch.blk.ty rfl) (fun e => (hD22.ch.row.ty e).ne hR22.1.ty rfl rfl)) (fun e => e.elim (hR22.2.2.1.blk.ty.ne hD22.ch.blk.ty rfl) (fun e => (hD22.ch.row.ty e).ne hR22.2.2.1.blk.ty rfl rfl)) (fun b e1 e => e.elim ((hR22.2.1.ty e1).ne hD22.ch.blk.ty rfl) (fun e => (hR22.2.1.ty e1).ne (hD22.ch.row.ty e) rfl rfl)) (fun b e1 e => e.elim ((hR22.2.2.1.row.ty e1).ne hD22.ch.blk.ty rfl) (fun e => (hR22.2.2.1.row.ty e1).ne (hD22.ch.row.ty e) rfl rfl))
          have hB5_23 := hB5_22.mod hm23 (fun e => e.elim (hB5_22.ty.ne hD22.ch.blk.ty rfl) (fun e => (hD22.ch.row.ty e).ne hB5_22.ty rfl rfl))
          refine DT.op rfl (.free rfl) rfl rfl (Does.alloc i46) ?_
          rintro _ y24 ⟨b4, rfl, hn24⟩
          refine ⟨(hS23).trans (Mod.any' hn24.grow), ?_⟩
          have ha24 := hn24.at_
          have hz24 := hn24.size
          have hge4 : w5.heap.size ≤ b4 := by have hh : Mod (fun b => b = pt ∨ b = ids ∨ b = q) w5 _ := hS23; have := hh.size; omega
          have hlo24 := hB5_23.lt
          have hne45 : b4 ≠ b5 := by omega
          have hB5_24 := hB5_23.mod hn24.grow (fun h => h)
          have hB4_24 := hn24.blk
          have hps4 : b4 < base ∨ top ≤ b4 := .inr (by omega)
          have hR24 := hR23.grow hn24.grow
          have hD24 := hD23.grow hn24.grow
          refine DT.op' rfl (.free rfl) rfl (Does.storeN i46 rfl rfl rfl rfl hB4_24 (Nat.le_of_ble_eq_true rfl)) ?_
          rintro _ wS ⟨hbS, hmS, hsS⟩
          have hSS : Mod (fun b => b = pt ∨ b = ids ∨ b = q) w5 wS := ((hS23).trans (Mod.any' hn24.grow)).then hmS (fun x hx e => by have e' : x = b4 := e; omega)
          refine ⟨hSS, ?_⟩
          have hB5S := hB5_24.mod hmS (fun e => hne45 e.symm)
          refine DT.op' rfl (.free rfl) rfl (Does.storeN i46 rfl rfl rfl rfl hB5S (Nat.le_of_ble_eq_true rfl)) ?_
          rintro _ wT ⟨hbT, hmT, hsT⟩
          have hTT : Mod (fun b => b = pt ∨ b = ids ∨ b = q) w5 wT := hSS.then hmT (fun x hx e => by have e' : x = b5 := e; omega)
          refine ⟨hTT, ?_⟩
          have hmST : Mod (fun b => b = b4 ∨ b = b5) _ wT := (hmS.mono fun b _ e => .inl e).trans (hmT.mono fun b _ e => .inr e)
          have hRT := hR24.mod hmST (fun b _ e => by rcases e with e | e; rw [e]; exact hps4; rw [e]; exact hps5) (fun e => e.elim (hR24.1.ty.ne hB4_24.ty rfl) (hR24.1.ty.ne hB5_24.ty rfl)) (fun e => e.elim (hR24.2.2.1.blk.ty.ne hB4_24.ty rfl) (hR24.2.2.1.blk.ty.ne hB5_24.ty rfl)) (fun b e1 e => e.elim ((hR24.2.1.ty e1).ne hB4_24.ty rfl) ((hR24.2.1.ty e1).ne hB5_24.ty rfl)) (fun b e1 e => e.elim ((hR24.2.2.1.row.ty e1).ne hB4_24.ty rfl) ((hR24.2.2.1.row.ty e1).ne hB5_24.ty rfl))
          have hDT : DoorAt wT dr q 3 0 9 2 v' cs' ds' := ⟨hD24.blk.mod hmST (fun e => e.elim (hD24.blk.ty.ne hB4_24.ty rfl) (hD24.blk.ty.ne hB5_24.ty rfl)), hD24.ch.blk.mod hmST (fun e => e.elim (hD24.ch.blk.ty.ne hB4_24.ty rfl) (hD24.ch.blk.ty.ne hB5_24.ty rfl)), hD24.ch.row.mod hmST (fun b e1 e => e.elim ((hD24.ch.row.ty e1).ne hB4_24.ty rfl) ((hD24.ch.row.ty e1).ne hB5_24.ty rfl)), hD24.ch.head⟩
          have hMT : Mod (fun b => b = pt ∨ b = ids ∨ b = q) w5 wT := ((hS23).trans (Mod.any' hn24.grow)).then hmST (fun x hx e => by rcases e with e | e <;> omega)
          refine DT.done ?_
          exact RK.back (hj (b4, b5) _ ⟨hbS.mod hmT hne45, hbT, ⟨base, top, c, vr, vp, v', cs', ds', hRT, hDT⟩, hMT⟩) ⟨rfl, rfl, rfl, trivial⟩
        · refine DT.op rfl (.free rfl) rfl rfl (Does.alloc i46) ?_
          rintro _ y23 ⟨b4, rfl, hn23⟩
          refine ⟨(((Mod.drew _ _).trans hm21).trans (Mod.any' hn22.grow)).trans (Mod.any' hn23.grow), ?_⟩
          have ha23 := hn23.at_
          have hz23 := hn23.size
          have hge4 : w5.heap.size ≤ b4 := by have hh : Mod (fun b => b = pt ∨ b = ids ∨ b = q) w5 _ := ((Mod.drew _ _).trans hm21).trans (Mod.any' hn22.grow); have := hh.size; omega
          have hlo23 := hB5_22.lt
          have hne45 : b4 ≠ b5 := by omega
          have hB5_23 := hB5_22.mod hn23.grow (fun h => h)
          have hB4_23 := hn23.blk
          have hps4 : b4 < base ∨ top ≤ b4 := .inr (by omega)
          have hR23 := hR22.grow hn23.grow
          have hD23 := hD22.grow hn23.grow
          have hKK24 : KeysAt _ := hK.mod ((((Mod.drew _ _).trans hm21).trans (Mod.any' hn22.grow)).trans (Mod.any' hn23.grow)) (fun e => by rcases e with e | e | e <;> omega)
          have hrr24 := hr.mod ((((Mod.drew _ _).trans hm21).trans (Mod.any' hn22.grow)).trans (Mod.any' hn23.grow))
          refine DT.op rfl (.free rfl) rfl rfl (Does.call rfl e8 (partDo2_ok hR23 hD23 (fun b e => by have := hown b e; omega) hKK24 h0.2.2 (some ⟨b12, 0, none⟩) 1 (some ⟨b12, 0, none⟩) 1 none 0 _ hrr24)) ?_
          rintro _ y24 ⟨rfl, ⟨v', cs', ds', hD24⟩, hm24⟩
          have hz24 := hm24.size
          have hS24 : Mod (fun b => b = pt ∨ b = ids ∨ b = q) w5 y24 := ((((Mod.drew _ _).trans hm21).trans (Mod.any' hn22.grow)).trans (Mod.any' hn23.grow)).then hm24 (fun x hx e => by rcases e with e | e; exact .inr (.inr e); have := hown x e; omega)
          refine ⟨hS24, ?_⟩
          have hR24 := hR23.mod hm24 (fun b _ e => by rcases e with e | e; left; omega; right; exact hown b e) (fun e => e.elim (hR23.1.ty.ne hD23.ch.blk.ty rfl) (fun e => (hD23.ch.row.ty e).ne hR23.1.ty rfl rfl)) (fun e => e.elim (hR23.2.2.1.blk.ty.ne hD23.ch.blk.ty rfl) (fun e => (hD23.ch.row.ty e).ne hR23.2.2.1.blk.ty rfl rfl)) (fun b e1 e => e.elim ((hR23.2.1.ty e1).ne hD23.ch.blk.ty rfl) (fun e => (hR23.2.1.ty e1).ne (hD23.ch.row.ty e) rfl rfl)) (fun b e1 e => e.elim ((hR23.2.2.1.row.ty e1).ne hD23.ch.blk.ty rfl) (fun e => (hR23.2.2.1.row.ty e1).ne (hD23.ch.row.ty e) rfl rfl))
          have hB4_24 := hB4_23.mod hm24 (fun e => e.elim (hB4_23.ty.ne hD23.ch.blk.ty rfl) (fun e => (hD23.ch.row.ty e).ne hB4_23.ty rfl rfl))
          have hB5_24 := hB5_23.mod hm24 (fun e => e.elim (hB5_23.ty.ne hD23.ch.blk.ty rfl) (fun e => (hD23.ch.row.ty e).ne hB5_23.ty rfl rfl))
          refine DT.op' rfl (.free rfl) rfl (Does.storeN i46 rfl rfl rfl rfl hB4_24 (Nat.le_of_ble_eq_true rfl)) ?_
          rintro _ wS ⟨hbS, hmS, hsS⟩
          have hSS : Mod (fun b => b = pt ∨ b = ids ∨ b = q) w5 wS := (hS24).then hmS (fun x hx e => by have e' : x = b4 := e; omega)
          refine ⟨hSS, ?_⟩
          have hB5S := hB5_24.mod hmS (fun e => hne45 e.symm)
          refine DT.op' rfl (.free rfl) rfl (Does.storeN i46 rfl rfl rfl rfl hB5S (Nat.le_of_ble_eq_true rfl)) ?_
          rintro _ wT ⟨hbT, hmT, hsT⟩
          have hTT : Mod (fun b => b = pt ∨ b = ids ∨ b = q) w5 wT := hSS.then hmT (fun x hx e => by have e' : x = b5 := e; omega)
          refine ⟨hTT, ?_⟩
          have hmST : Mod (fun b => b = b4 ∨ b = b5) _ wT := (hmS.mono fun b _ e => .inl e).trans (hmT.mono fun b _ e => .inr e)
          have hRT := hR24.mod hmST (fun b _ e => by rcases e with e | e; rw [e]; exact hps4; rw [e]; exact hps5) (fun e => e.elim (hR24.1.ty.ne hB4_24.ty rfl) (hR24.1.ty.ne hB5_24.ty rfl)) (fun e => e.elim (hR24.2.2.1.blk.ty.ne hB4_24.ty rfl) (hR24.2.2.1.blk.ty.ne hB5_24.ty rfl)) (fun b e1 e => e.elim ((hR24.2.1.ty e1).ne hB4_24.ty rfl) ((hR24.2.1.ty e1).ne hB5_24.ty rfl)) (fun b e1 e => e.elim ((hR24.2.2.1.row.ty e1).ne hB4_24.ty rfl) ((hR24.2.2.1.row.ty e1).ne hB5_24.ty rfl))
          have hDT : DoorAt wT dr q 3 0 9 2 v' cs' ds' := ⟨hD24.blk.mod hmST (fun e => e.elim (hD24.blk.ty.ne hB4_24.ty rfl) (hD24.blk.ty.ne hB5_24.ty rfl)), hD24.ch.blk.mod hmST (fun e => e.elim (hD24.ch.blk.ty.ne hB4_24.ty rfl) (hD24.ch.blk.ty.ne hB5_24.ty rfl)), hD24.ch.row.mod hmST (fun b e1 e => e.elim ((hD24.ch.row.ty e1).ne hB4_24.ty rfl) ((hD24.ch.row.ty e1).ne hB5_24.ty rfl)), hD24.ch.head⟩
          have hMT : Mod (fun b => b = pt ∨ b = ids ∨ b = q) w5 wT := (hS24).then hmST (fun x hx e => by rcases e with e | e <;> omega)
          refine DT.done ?_
          exact RK.back (hj (b4, b5) _ ⟨hbS.mod hmT hne45, hbT, ⟨base, top, c, vr, vp, v', cs', ds', hRT, hDT⟩, hMT⟩) ⟨rfl, rfl, rfl, trivial⟩
    · refine DT.op rfl (.free rfl) rfl rfl (Does.alloc i46) ?_
      rintro _ y21 ⟨b4, rfl, hn21⟩
      refine ⟨(Mod.drew _ _).trans (Mod.any' hn21.grow), ?_⟩
      have ha21 := hn21.at_
      have hz21 := hn21.size
      have hge4 : w5.heap.size ≤ b4 := by have hh : Mod (fun b => b = pt ∨ b = ids ∨ b = q) w5 _ := Mod.drew _ _; have := hh.size; omega
      have hB4_21 := hn21.blk
      have gc21 := gc0.trans hn21.grow
      refine DT.fork ?_ ?_
      · refine DT.op rfl (.free rfl) rfl rfl (Does.call rfl e8 (partDo1_ok (hb.mod gc21 (fun h => h)) (hd.grow gc21) (hp.grow' gc21) (he.grow gc21) (hK.grow gc21) h0 (some ⟨b12, 0, none⟩) 1 (some ⟨b12, 0, none⟩) 1 none 0 (fun b => b = pt ∨ b = ids ∨ b = q) (.inr (.inl rfl)) (hr.mod (Mod.any' gc21)))) ?_
        rintro _ y22 ⟨rfl, ⟨base, top, c, vr, vp, a', k', a9, c9, ds1, hR22, hlb, hlt, hD22, hown⟩, hm22⟩
        refine ⟨((Mod.drew _ _).trans (Mod.any' hn21.grow)).trans hm22, ?_⟩
        have hz22 := hm22.size
        have hzg22 := gc21.size
        try simp only [World.drew] at hzg22 hlb hz22
        have hbt := hR22.bt
        have hlq4 := hB4_21.lt
        try simp only [World.drew] at hlq4
        have hps4 : b4 < base ∨ top ≤ b4 := .inl (by omega)
        have hB4_22 := hB4_21.mod hm22 (fun e => by rcases e with e | e | e; exact hB4_21.ty.ne (hb.mod gc21 (fun h => h)).ty rfl e; exact hB4_21.ty.ne (hp.grow' gc21).blk.ty rfl e; exact hB4_21.ty.ne (hd.grow gc21).ch.blk.ty rfl e)
        refine DT.fork ?_ ?_
        · have hKK23 : KeysAt _ := hK.mod (((Mod.drew _ _).trans (Mod.any' hn21.grow)).trans hm22) (fun e => by rcases e with e | e | e <;> omega)
          have hrr23 := hr.mod (((Mod.drew _ _).trans (Mod.any' hn21.grow)).trans hm22)
          refine DT.op rfl (.free rfl) rfl rfl (Does.call rfl e8 (partDo2_ok hR22 hD22 (fun b e => by have := hown b e; omega) hKK23 h0.2.2 (some ⟨b12, 0, none⟩) 1 (some ⟨b12, 0, none⟩) 1 none 0 _ hrr23)) ?_
          rintro _ y23 ⟨rfl, ⟨v', cs', ds', hD23⟩, hm23⟩
          have hz23 := hm23.size
          have hS23 : Mod (fun b => b = pt ∨ b = ids ∨ b = q) w5 y23 := (((Mod.drew _ _).trans (Mod.any' hn21.grow)).trans hm22).then hm23 (fun x hx e => by rcases e with e | e; exact .inr (.inr e); have := hown x e; omega)
          refine ⟨hS23, ?_⟩
          have hR23 := hR22.mod hm23 (fun b _ e => by rcases e with e | e; left; omega; right; exact hown b e) (fun e => e.elim (hR22.1.ty.ne hD22.ch.blk.ty rfl) (fun e => (hD22.ch.row.ty e).ne hR22.1.ty rfl rfl)) (fun e => e.elim (hR22.2.2.1.blk.ty.ne hD22.ch.blk.ty rfl) (fun e => (hD22.ch.row.ty e).ne hR22.2.2.1.blk.ty rfl rfl)) (fun b e1 e => e.elim ((hR22.2.1.ty e1).ne hD22.ch.blk.ty rfl) (fun e => (hR22.2.1.ty e1).ne (hD22.ch.row.ty e) rfl rfl)) (fun b e1 e => e.elim ((hR22.2.2.1.row.ty e1).ne hD22.ch.blk.ty rfl) (fun e => (hR22.2.2.1.row.ty e1).ne (hD22.ch.row.ty e) rfl rfl))
          have hB4_23 := hB4_22.mod hm23 (fun e => e.elim (hB4_22.ty.ne hD22.ch.blk.ty rfl) (fun e => (hD22.ch.row.ty e).ne hB4_22.ty rfl rfl))
          refine DT.op rfl (.free rfl) rfl rfl (Does.alloc i46) ?_
          rintro _ y24 ⟨b5, rfl, hn24⟩
          refine ⟨(hS23).trans (Mod.any' hn24.grow), ?_⟩
          have ha24 := hn24.at_
          have hz24 := hn24.size
          have hge5 : w5.heap.size ≤ b5 := by have hh : Mod (fun b => b = pt ∨ b = ids ∨ b = q) w5 _ := hS23; have := hh.size; omega
          have hlo24 := hB4_23.lt
          have hne45 : b4 ≠ b5 := by omega
          have hB4_24 := hB4_23.mod hn24.grow (fun h => h)
          have hB5_24 := hn24.blk
          have hps5 : b5 < base ∨ top ≤ b5 := .inr (by omega)
          have hR24 := hR23.grow hn24.grow
          have hD24 := hD23.grow hn24.grow
          refine DT.op' rfl (.free rfl) rfl (Does.storeN i46 rfl rfl rfl rfl hB4_24 (Nat.le_of_ble_eq_true rfl)) ?_
          rintro _ wS ⟨hbS, hmS, hsS⟩
          have hSS : Mod (fun b => b = pt ∨ b = ids ∨ b = q) w5 wS := ((hS23).trans (Mod.any' hn24.grow)).then hmS (fun x hx e => by have e' : x = b4 := e; omega)
          refine ⟨hSS, ?_⟩
          have hB5S := hB5_24.mod hmS (fun e => hne45 e.symm)
          refine DT.op' rfl (.free rfl) rfl (Does.storeN i46 rfl rfl rfl rfl hB5S (Nat.le_of_ble_eq_true rfl)) ?_
          rintro _ wT ⟨hbT, hmT, hsT⟩
          have hTT : Mod (fun b => b = pt ∨ b = ids ∨ b = q) w5 wT := hSS.then hmT (fun x hx e => by have e' : x = b5 := e; omega)
          refine ⟨hTT, ?_⟩
          have hmST : Mod (fun b => b = b4 ∨ b = b5) _ wT := (hmS.mono fun b _ e => .inl e).trans (hmT.mono fun b _ e => .inr e)
          have hRT := hR24.mod hmST (fun b _ e => by rcases e with e | e; rw [e]; exact hps4; rw [e]; exact hps5) (fun e => e.elim (hR24.1.ty.ne hB4_24.ty rfl) (hR24.1.ty.ne hB5_24.ty rfl)) (fun e => e.elim (hR24.2.2.1.blk.ty.ne hB4_24.ty rfl) (hR24.2.2.1.blk.ty.ne hB5_24.ty rfl)) (fun b e1 e => e.elim ((hR24.2.1.ty e1).ne hB4_24.ty rfl) ((hR24.2.1.ty e1).ne hB5_24.ty rfl)) (fun b e1 e => e.elim ((hR24.2.2.1.row.ty e1).ne hB4_24.ty rfl) ((hR24.2.2.1.row.ty e1).ne hB5_24.ty rfl))
          have hDT : DoorAt wT dr q 3 0 9 2 v' cs' ds' := ⟨hD24.blk.mod hmST (fun e => e.elim (hD24.blk.ty.ne hB4_24.ty rfl) (hD24.blk.ty.ne hB5_24.ty rfl)), hD24.ch.blk.mod hmST (fun e => e.elim (hD24.ch.blk.ty.ne hB4_24.ty rfl) (hD24.ch.blk.ty.ne hB5_24.ty rfl)), hD24.ch.row.mod hmST (fun b e1 e => e.elim ((hD24.ch.row.ty e1).ne hB4_24.ty rfl) ((hD24.ch.row.ty e1).ne hB5_24.ty rfl)), hD24.ch.head⟩
          have hMT : Mod (fun b => b = pt ∨ b = ids ∨ b = q) w5 wT := ((hS23).trans (Mod.any' hn24.grow)).then hmST (fun x hx e => by rcases e with e | e <;> omega)
          refine DT.done ?_
          exact RK.back (hj (b4, b5) _ ⟨hbS.mod hmT hne45, hbT, ⟨base, top, c, vr, vp, v', cs', ds', hRT, hDT⟩, hMT⟩) ⟨rfl, rfl, rfl, trivial⟩
        · refine DT.op rfl (.free rfl) rfl rfl (Does.alloc i46) ?_
          rintro _ y23 ⟨b5, rfl, hn23⟩
          refine ⟨(((Mod.drew _ _).trans (Mod.any' hn21.grow)).trans hm22).trans (Mod.any' hn23.grow), ?_⟩
          have ha23 := hn23.at_
          have hz23 := hn23.size
          have hge5 : w5.heap.size ≤ b5 := by have hh : Mod (fun b => b = pt ∨ b = ids ∨ b = q) w5 _ := ((Mod.drew _ _).trans (Mod.any' hn21.grow)).trans hm22; have := hh.size; omega
          have hlo23 := hB4_22.lt
          have hne45 : b4 ≠ b5 := by omega
          have hB4_23 := hB4_22.mod hn23.grow (fun h => h)
          have hB5_23 := hn23.blk
          have hps5 : b5 < base ∨ top ≤ b5 := .inr (by omega)
          have hR23 := hR22.grow hn23.grow
          have hD23 := hD22.grow hn23.grow
          have hKK24 : KeysAt _ := hK.mod ((((Mod.drew _ _).trans (Mod.any' hn21.grow)).trans hm22).trans (Mod.any' hn23.grow)) (fun e => by rcases e with e | e | e <;> omega)
          have hrr24 := hr.mod ((((Mod.drew _ _).trans (Mod.any' hn21.grow)).trans hm22).trans (Mod.any' hn23.grow))
          refine DT.op rfl (.free rfl) rfl rfl (Does.call rfl e8 (partDo2_ok hR23 hD23 (fun b e => by have := hown b e; omega) hKK24 h0.2.2 (some ⟨b12, 0, none⟩) 1 (some ⟨b12, 0, none⟩) 1 none 0 _ hrr24)) ?_
          rintro _ y24 ⟨rfl, ⟨v', cs', ds', hD24⟩, hm24⟩
          have hz24 := hm24.size
          have hS24 : Mod (fun b => b = pt ∨ b = ids ∨ b = q) w5 y24 := ((((Mod.drew _ _).trans (Mod.any' hn21.grow)).trans hm22).trans (Mod.any' hn23.grow)).then hm24 (fun x hx e => by rcases e with e | e; exact .inr (.inr e); have := hown x e; omega)
          refine ⟨hS24, ?_⟩
          have hR24 := hR23.mod hm24 (fun b _ e => by rcases e with e | e; left; omega; right; exact hown b e) (fun e => e.elim (hR23.1.ty.ne hD23.ch.blk.ty rfl) (fun e => (hD23.ch.row.ty e).ne hR23.1.ty rfl rfl)) (fun e => e.elim (hR23.2.2.1.blk.ty.ne hD23.ch.blk.ty rfl) (fun e => (hD23.ch.row.ty e).ne hR23.2.2.1.blk.ty rfl rfl)) (fun b e1 e => e.elim ((hR23.2.1.ty e1).ne hD23.ch.blk.ty rfl) (fun e => (hR23.2.1.ty e1).ne (hD23.ch.row.ty e) rfl rfl)) (fun b e1 e => e.elim ((hR23.2.2.1.row.ty e1).ne hD23.ch.blk.ty rfl) (fun e => (hR23.2.2.1.row.ty e1).ne (hD23.ch.row.ty e) rfl rfl))
          have hB4_24 := hB4_23.mod hm24 (fun e => e.elim (hB4_23.ty.ne hD23.ch.blk.ty rfl) (fun e => (hD23.ch.row.ty e).ne hB4_23.ty rfl rfl))
          have hB5_24 := hB5_23.mod hm24 (fun e => e.elim (hB5_23.ty.ne hD23.ch.blk.ty rfl) (fun e => (hD23.ch.row.ty e).ne hB5_23.ty rfl rfl))
          refine DT.op' rfl (.free rfl) rfl (Does.storeN i46 rfl rfl rfl rfl hB4_24 (Nat.le_of_ble_eq_true rfl)) ?_
          rintro _ wS ⟨hbS, hmS, hsS⟩
          have hSS : Mod (fun b => b = pt ∨ b = ids ∨ b = q) w5 wS := (hS24).then hmS (fun x hx e => by have e' : x = b4 := e; omega)
          refine ⟨hSS, ?_⟩
          have hB5S := hB5_24.mod hmS (fun e => hne45 e.symm)
          refine DT.op' rfl (.free rfl) rfl (Does.storeN i46 rfl rfl rfl rfl hB5S (Nat.le_of_ble_eq_true rfl)) ?_
          rintro _ wT ⟨hbT, hmT, hsT⟩
          have hTT : Mod (fun b => b = pt ∨ b = ids ∨ b = q) w5 wT := hSS.then hmT (fun x hx e => by have e' : x = b5 := e; omega)
          refine ⟨hTT, ?_⟩
          have hmST : Mod (fun b => b = b4 ∨ b = b5) _ wT := (hmS.mono fun b _ e => .inl e).trans (hmT.mono fun b _ e => .inr e)
          have hRT := hR24.mod hmST (fun b _ e => by rcases e with e | e; rw [e]; exact hps4; rw [e]; exact hps5) (fun e => e.elim (hR24.1.ty.ne hB4_24.ty rfl) (hR24.1.ty.ne hB5_24.ty rfl)) (fun e => e.elim (hR24.2.2.1.blk.ty.ne hB4_24.ty rfl) (hR24.2.2.1.blk.ty.ne hB5_24.ty rfl)) (fun b e1 e => e.elim ((hR24.2.1.ty e1).ne hB4_24.ty rfl) ((hR24.2.1.ty e1).ne hB5_24.ty rfl)) (fun b e1 e => e.elim ((hR24.2.2.1.row.ty e1).ne hB4_24.ty rfl) ((hR24.2.2.1.row.ty e1).ne hB5_24.ty rfl))
          have hDT : DoorAt wT dr q 3 0 9 2 v' cs' ds' := ⟨hD24.blk.mod hmST (fun e => e.elim (hD24.blk.ty.ne hB4_24.ty rfl) (hD24.blk.ty.ne hB5_24.ty rfl)), hD24.ch.blk.mod hmST (fun e => e.elim (hD24.ch.blk.ty.ne hB4_24.ty rfl) (hD24.ch.blk.ty.ne hB5_24.ty rfl)), hD24.ch.row.mod hmST (fun b e1 e => e.elim ((hD24.ch.row.ty e1).ne hB4_24.ty rfl) ((hD24.ch.row.ty e1).ne hB5_24.ty rfl)), hD24.ch.head⟩
          have hMT : Mod (fun b => b = pt ∨ b = ids ∨ b = q) w5 wT := (hS24).then hmST (fun x hx e => by rcases e with e | e <;> omega)
          refine DT.done ?_
          exact RK.back (hj (b4, b5) _ ⟨hbS.mod hmT hne45, hbT, ⟨base, top, c, vr, vp, v', cs', ds', hRT, hDT⟩, hMT⟩) ⟨rfl, rfl, rfl, trivial⟩
      · refine DT.op rfl (.free rfl) rfl rfl (Does.alloc i46) ?_
        rintro _ y22 ⟨b5, rfl, hn22⟩
        refine ⟨((Mod.drew _ _).trans (Mod.any' hn21.grow)).trans (Mod.any' hn22.grow), ?_⟩
        have ha22 := hn22.at_
        have hz22 := hn22.size
        have hge5 : w5.heap.size ≤ b5 := by have hh : Mod (fun b => b = pt ∨ b = ids ∨ b = q) w5 _ := (Mod.drew _ _).trans (Mod.any' hn21.grow); have := hh.size; omega
        have hlo22 := hB4_21.lt
        have hne45 : b4 ≠ b5 := by omega
        have hB4_22 := hB4_21.mod hn22.grow (fun h => h)
        have hB5_22 := hn22.blk
        have gc22 := gc21.trans hn22.grow
        refine DT.op rfl (.free rfl) rfl rfl (Does.call rfl e8 (partDo1_ok (hb.mod gc22 (fun h => h)) (hd.grow gc22) (hp.grow' gc22) (he.grow gc22) (hK.grow gc22) h0 (some ⟨b12, 0, none⟩) 1 (some ⟨b12, 0, none⟩) 1 none 0 (fun b => b = pt ∨ b = ids ∨ b = q) (.inr (.inl rfl)) (hr.mod (Mod.any' gc22)))) ?_
        rintro _ y23 ⟨rfl, ⟨base, top, c, vr, vp, a', k', a9, c9, ds1, hR23, hlb, hlt, hD23, hown⟩, hm23⟩
        refine ⟨(((Mod.drew _ _).trans (Mod.any' hn21.grow)).trans (Mod.any' hn22.grow)).trans hm23, ?_⟩
        have hz23 := hm23.size
        have hzg23 := gc22.size
        try simp only [World.drew] at hzg23 hlb hz23
        have hbt := hR23.bt
        have hlq4 := hB4_22.lt
        try simp only [World.drew] at hlq4
        have hps4 : b4 < base ∨ top ≤ b4 := .inl (by omega)
        have hB4_23 := hB4_22.mod hm23 (fun e => by rcases e with e | e | e; exact hB4_22.ty.ne (hb.mod gc22 (fun h => h)).ty rfl e; exact hB4_22.ty.ne (hp.grow' gc22).blk.ty rfl e; exact hB4_22.ty.ne (hd.grow gc22).ch.blk.ty rfl e)
        have hlq5 := hB5_22.lt
        try simp only [World.drew] at hlq5
        have hps5 : b5 < base ∨ top ≤ b5 := .inl (by omega)
        have hB5_23 := hB5_22.mod hm23 (fun e => by rcases e with e | e | e; exact hB5_22.ty.ne (hb.mod gc22 (fun h => h)).ty rfl e; exact hB5_22.ty.ne (hp.grow' gc22).blk.ty rfl e; exact hB5_22.ty.ne (hd.grow gc22).ch.blk.ty rfl e)
        have hKK24 : KeysAt _ := hK.mod ((((Mod.drew _ _).trans (Mod.any' hn21.grow)).trans (Mod.any' hn22.grow)).trans hm23) (fun e => by rcases e with e | e | e <;> omega)
        have hrr24 := hr.mod ((((Mod.drew _ _).trans (Mod.any' hn21.grow)).trans (Mod.any' hn22.grow)).trans hm23)
        refine DT.op rfl (.free rfl) rfl rfl (Does.call rfl e8 (partDo2_ok hR23 hD23 (fun b e => by have := hown b e; omega) hKK24 h0.2.2 (some ⟨b12, 0, none⟩) 1 (some ⟨b12, 0, none⟩) 1 none 0 _ hrr24)) ?_
        rintro _ y24 ⟨rfl, ⟨v', cs', ds', hD24⟩, hm24⟩
        have hz24 := hm24.size
        have hS24 : Mod (fun b => b = pt ∨ b = ids ∨ b = q) w5 y24 := ((((Mod.drew _ _).trans (Mod.any' hn21.grow)).trans (Mod.any' hn22.grow)).trans hm23).then hm24 (fun x hx e => by rcases e with e | e; exact .inr (.inr e); have := hown x e; omega)
        refine ⟨hS24, ?_⟩
        have hR24 := hR23.mod hm24 (fun b _ e => by rcases e with e | e; left; omega; right; exact hown b e) (fun e => e.elim (hR23.1.ty.ne hD23.ch.blk.ty rfl) (fun e => (hD23.ch.row.ty e).ne hR23.1.ty rfl rfl)) (fun e => e.elim (hR23.2.2.1.blk.ty.ne hD23.ch.blk.ty rfl) (fun e => (hD23.ch.row.ty e).ne hR23.2.2.1.blk.ty rfl rfl)) (fun b e1 e => e.elim ((hR23.2.1.ty e1).ne hD23.ch.blk.ty rfl) (fun e => (hR23.2.1.ty e1).ne (hD23.ch.row.ty e) rfl rfl)) (fun b e1 e => e.elim ((hR23.2.2.1.row.ty e1).ne hD23.ch.blk.ty rfl) (fun e => (hR23.2.2.1.row.ty e1).ne (hD23.ch.row.ty e) rfl rfl))
        have hB4_24 := hB4_23.mod hm24 (fun e => e.elim (hB4_23.ty.ne hD23.ch.blk.ty rfl) (fun e => (hD23.ch.row.ty e).ne hB4_23.ty rfl rfl))
        have hB5_24 := hB5_23.mod hm24 (fun e => e.elim (hB5_23.ty.ne hD23.ch.blk.ty rfl) (fun e => (hD23.ch.row.ty e).ne hB5_23.ty rfl rfl))
        refine DT.op' rfl (.free rfl) rfl (Does.storeN i46 rfl rfl rfl rfl hB4_24 (Nat.le_of_ble_eq_true rfl)) ?_
        rintro _ wS ⟨hbS, hmS, hsS⟩
        have hSS : Mod (fun b => b = pt ∨ b = ids ∨ b = q) w5 wS := (hS24).then hmS (fun x hx e => by have e' : x = b4 := e; omega)
        refine ⟨hSS, ?_⟩
        have hB5S := hB5_24.mod hmS (fun e => hne45 e.symm)
        refine DT.op' rfl (.free rfl) rfl (Does.storeN i46 rfl rfl rfl rfl hB5S (Nat.le_of_ble_eq_true rfl)) ?_
        rintro _ wT ⟨hbT, hmT, hsT⟩
        have hTT : Mod (fun b => b = pt ∨ b = ids ∨ b = q) w5 wT := hSS.then hmT (fun x hx e => by have e' : x = b5 := e; omega)
        refine ⟨hTT, ?_⟩
        have hmST : Mod (fun b => b = b4 ∨ b = b5) _ wT := (hmS.mono fun b _ e => .inl e).trans (hmT.mono fun b _ e => .inr e)
        have hRT := hR24.mod hmST (fun b _ e => by rcases e with e | e; rw [e]; exact hps4; rw [e]; exact hps5) (fun e => e.elim (hR24.1.ty.ne hB4_24.ty rfl) (hR24.1.ty.ne hB5_24.ty rfl)) (fun e => e.elim (hR24.2.2.1.blk.ty.ne hB4_24.ty rfl) (hR24.2.2.1.blk.ty.ne hB5_24.ty rfl)) (fun b e1 e => e.elim ((hR24.2.1.ty e1).ne hB4_24.ty rfl) ((hR24.2.1.ty e1).ne hB5_24.ty rfl)) (fun b e1 e => e.elim ((hR24.2.2.1.row.ty e1).ne hB4_24.ty rfl) ((hR24.2.2.1.row.ty e1).ne hB5_24.ty rfl))
        have hDT : DoorAt wT dr q 3 0 9 2 v' cs' ds' := ⟨hD24.blk.mod hmST (fun e => e.elim (hD24.blk.ty.ne hB4_24.ty rfl) (hD24.blk.ty.ne hB5_24.ty rfl)), hD24.ch.blk.mod hmST (fun e => e.elim (hD24.ch.blk.ty.ne hB4_24.ty rfl) (hD24.ch.blk.ty.ne hB5_24.ty rfl)), hD24.ch.row.mod hmST (fun b e1 e => e.elim ((hD24.ch.row.ty e1).ne hB4_24.ty rfl) ((hD24.ch.row.ty e1).ne hB5_24.ty rfl)), hD24.ch.head⟩
        have hMT : Mod (fun b => b = pt ∨ b = ids ∨ b = q) w5 wT := (hS24).then hmST (fun x hx e => by rcases e with e | e <;> omega)
        refine DT.done ?_
        exact RK.back (hj (b4, b5) _ ⟨hbS.mod hmT hne45, hbT, ⟨base, top, c, vr, vp, v', cs', ds', hRT, hDT⟩, hMT⟩) ⟨rfl, rfl, rfl, trivial⟩
    · refine DT.op rfl (.free rfl) rfl rfl (Does.alloc i46) ?_
      rintro _ y21 ⟨b5, rfl, hn21⟩
      refine ⟨(Mod.drew _ _).trans (Mod.any' hn21.grow), ?_⟩
      have ha21 := hn21.at_
      have hz21 := hn21.size
      have hge5 : w5.heap.size ≤ b5 := by have hh : Mod (fun b => b = pt ∨ b = ids ∨ b = q) w5 _ := Mod.drew _ _; have := hh.size; omega
      have hB5_21 := hn21.blk
      have gc21 := gc0.trans hn21.grow
      refine DT.fork ?_ ?_
      · refine DT.op rfl (.free rfl) rfl rfl (Does.call rfl e8 (partDo1_ok (hb.mod gc21 (fun h => h)) (hd.grow gc21) (hp.grow' gc21) (he.grow gc21) (hK.grow gc21) h0 (some ⟨b12, 0, none⟩) 1 (some ⟨b12, 0, none⟩) 1 none 0 (fun b => b = pt ∨ b = ids ∨ b = q) (.inr (.inl rfl)) (hr.mod (Mod.any' gc21)))) ?_
        rintro _ y22 ⟨rfl, ⟨base, top, c, vr, vp, a', k', a9, c9, ds1, hR22, hlb, hlt, hD22, hown⟩, hm22⟩
        refine ⟨((Mod.drew _ _).trans (Mod.any' hn21.grow)).trans hm22, ?_⟩
        have hz22 := hm22.size
        have hzg22 := gc21.size
        try simp only [World.drew] at hzg22 hlb hz22
        have hbt := hR22.bt
        have hlq5 := hB5_21.lt
        try simp only [World.drew] at hlq5
        have hps5 : b5 < base ∨ top ≤ b5 := .inl (by omega)
        have hB5_22 := hB5_21.mod hm22 (fun e => by rcases e with e | e | e; exact hB5_21.ty.ne (hb.mod gc21 (fun h => h)).ty rfl e; exact hB5_21.ty.ne (hp.grow' gc21).blk.ty rfl e; exact hB5_21.ty.ne (hd.grow gc21).ch.blk.ty rfl e)
        refine DT.fork ?_ ?_
        · have hKK23 : KeysAt _ := hK.mod (((Mod.drew _ _).trans (Mod.any' hn21.grow)).trans hm22) (fun e => by rcases e with e | e | e <;> omega)
          have hrr23 := hr.mod (((Mod.drew _ _).trans (Mod.any' hn21.grow)).trans hm22)
          refine DT.op rfl (.free rfl) rfl rfl (Does.call rfl e8 (partDo2_ok hR22 hD22 (fun b e => by have := hown b e; omega) hKK23 h0.2.2 (some ⟨b12, 0, none⟩) 1 (some ⟨b12, 0, none⟩) 1 none 0 _ hrr23)) ?_
          rintro _ y23 ⟨rfl, ⟨v', cs', ds', hD23⟩, hm23⟩
          have hz23 := hm23.size
          have hS23 : Mod (fun b => b = pt ∨ b = ids ∨ b = q) w5 y23 := (((Mod.drew _ _).trans (Mod.any' hn21.grow)).trans hm22).then hm23 (fun x hx e => by rcases e with e | e; exact .inr (.inr e); have := hown x e; omega)
          refine ⟨hS23, ?_⟩
          have hR23 := hR22.mod hm23 (fun b _ e => by rcases e with e | e; left; omega; right; exact hown b e) (fun e => e.elim (hR22.1.ty.ne hD22.ch.blk.ty rfl) (fun e => (hD22.ch.row.ty e).ne hR22.1.ty rfl rfl)) (fun e => e.elim (hR22.2.2.1.blk.ty.ne hD22.ch.blk.ty rfl) (fun e => (hD22.ch.row.ty e).ne hR22.2.2.1.blk.ty rfl rfl)) (fun b e1 e => e.elim ((hR22.2.1.ty e1).ne hD22.ch.blk.ty rfl) (fun e => (hR22.2.1.ty e1).ne (hD22.ch.row.ty e) rfl rfl)) (fun b e1 e => e.elim ((hR22.2.2.1.row.ty e1).ne hD22.ch.blk.ty rfl) (fun e => (hR22.2.2.1.row.ty e1).ne (hD22.ch.row.ty e) rfl rfl))
          have hB5_23 := hB5_22.mod hm23 (fun e => e.elim (hB5_22.ty.ne hD22.ch.blk.ty rfl) (fun e => (hD22.ch.row.ty e).ne hB5_22.ty rfl rfl))
          refine DT.op rfl (.free rfl) rfl rfl (Does.alloc i46) ?_
          rintro _ y24 ⟨b4, rfl, hn24⟩
          refine ⟨(hS23).trans (Mod.any' hn24.grow), ?_⟩
          have ha24 := hn24.at_
          have hz24 := hn24.size
          have hge4 : w5.heap.size ≤ b4 := by have hh : Mod (fun b => b = pt ∨ b = ids ∨ b = q) w5 _ := hS23; have := hh.size; omega
          have hlo24 := hB5_23.lt
          have hne45 : b4 ≠ b5 := by omega
          have hB5_24 := hB5_23.mod hn24.grow (fun h => h)
          have hB4_24 := hn24.blk
          have hps4 : b4 < base ∨ top ≤ b4 := .inr (by omega)
          have hR24 := hR23.grow hn24.grow
          have hD24 := hD23.grow hn24.grow
          refine DT.op' rfl (.free rfl) rfl (Does.storeN i46 rfl rfl rfl rfl hB4_24 (Nat.le_of_ble_eq_true rfl)) ?_
          rintro _ wS ⟨hbS, hmS, hsS⟩
          have hSS : Mod (fun b => b = pt ∨ b = ids ∨ b = q) w5 wS := ((hS23).trans (Mod.any' hn24.grow)).then hmS (fun x hx e => by have e' : x = b4 := e; omega)
          refine ⟨hSS, ?_⟩
          have hB5S := hB5_24.mod hmS (fun e => hne45 e.symm)
          refine DT.op' rfl (.free rfl) rfl (Does.storeN i46 rfl rfl rfl rfl hB5S (Nat.le_of_ble_eq_true rfl)) ?_
          rintro _ wT ⟨hbT, hmT, hsT⟩
          have hTT : Mod (fun b => b = pt ∨ b = ids ∨ b = q) w5 wT := hSS.then hmT (fun x hx e => by have e' : x = b5 := e; omega)
          refine ⟨hTT, ?_⟩
          have hmST : Mod (fun b => b = b4 ∨ b = b5) _ wT := (hmS.mono fun b _ e => .inl e).trans (hmT.mono fun b _ e => .inr e)
          have hRT := hR24.mod hmST (fun b _ e => by rcases e with e | e; rw [e]; exact hps4; rw [e]; exact hps5) (fun e => e.elim (hR24.1.ty.ne hB4_24.ty rfl) (hR24.1.ty.ne hB5_24.ty rfl)) (fun e => e.elim (hR24.2.2.1.blk.ty.ne hB4_24.ty rfl) (hR24.2.2.1.blk.ty.ne hB5_24.ty rfl)) (fun b e1 e => e.elim ((hR24.2.1.ty e1).ne hB4_24.ty rfl) ((hR24.2.1.ty e1).ne hB5_24.ty rfl)) (fun b e1 e => e.elim ((hR24.2.2.1.row.ty e1).ne hB4_24.ty rfl) ((hR24.2.2.1.row.ty e1).ne hB5_24.ty rfl))
          have hDT : DoorAt wT dr q 3 0 9 2 v' cs' ds' := ⟨hD24.blk.mod hmST (fun e => e.elim (hD24.blk.ty.ne hB4_24.ty rfl) (hD24.blk.ty.ne hB5_24.ty rfl)), hD24.ch.blk.mod hmST (fun e => e.elim (hD24.ch.blk.ty.ne hB4_24.ty rfl) (hD24.ch.blk.ty.ne hB5_24.ty rfl)), hD24.ch.row.mod hmST (fun b e1 e => e.elim ((hD24.ch.row.ty e1).ne hB4_24.ty rfl) ((hD24.ch.row.ty e1).ne hB5_24.ty rfl)), hD24.ch.head⟩
          have hMT : Mod (fun b => b = pt ∨ b = ids ∨ b = q) w5 wT := ((hS23).trans (Mod.any' hn24.grow)).then hmST (fun x hx e => by rcases e with e | e <;> omega)
          refine DT.done ?_
          exact RK.back (hj (b4, b5) _ ⟨hbS.mod hmT hne45, hbT, ⟨base, top, c, vr, vp, v', cs', ds', hRT, hDT⟩, hMT⟩) ⟨rfl, rfl, rfl, trivial⟩
        · refine DT.op rfl (.free rfl) rfl rfl (Does.alloc i46) ?_
          rintro _ y23 ⟨b4, rfl, hn23⟩
          refine ⟨(((Mod.drew _ _).trans (Mod.any' hn21.grow)).trans hm22).trans (Mod.any' hn23.grow), ?_⟩
          have ha23 := hn23.at_
          have hz23 := hn23.size
          have hge4 : w5.heap.size ≤ b4 := by have hh : Mod (fun b => b = pt ∨ b = ids ∨ b = q) w5 _ := ((Mod.drew _ _).trans (Mod.any' hn21.grow)).trans hm22; have := hh.size; omega
          have hlo23 := hB5_22.lt
          have hne45 : b4 ≠ b5 := by omega
          have hB5_23 := hB5_22.mod hn23.grow (fun h => h)
          have hB4_23 := hn23.blk
          have hps4 : b4 < base ∨ top ≤ b4 := .inr (by omega)
          have hR23 := hR22.grow hn23.grow
          have hD23 := hD22.grow hn23.grow
          have hKK24 : KeysAt _ := hK.mod ((((Mod.drew _ _).trans (Mod.any' hn21.grow)).trans hm22).trans (Mod.any' hn23.grow)) (fun e => by rcases e with e | e | e <;> omega)
          have hrr24 := hr.mod ((((Mod.drew _ _).trans (Mod.any' hn21.grow)).trans hm22).trans (Mod.any' hn23.grow))
          refine DT.op rfl (.free rfl) rfl rfl (Does.call rfl e8 (partDo2_ok hR23 hD23 (fun b e => by have := hown b e; omega) hKK24 h0.2.2 (some ⟨b12, 0, none⟩) 1 (some ⟨b12, 0, none⟩) 1 none 0 _ hrr24)) ?_
          rintro _ y24 ⟨rfl, ⟨v', cs', ds', hD24⟩, hm24⟩
          have hz24 := hm24.size
          have hS24 : Mod (fun b => b = pt ∨ b = ids ∨ b = q) w5 y24 := ((((Mod.drew _ _).trans (Mod.any' hn21.grow)).trans hm22).trans (Mod.any' hn23.grow)).then hm24 (fun x hx e => by rcases e with e | e; exact .inr (.inr e); have := hown x e; omega)
          refine ⟨hS24, ?_⟩
          have hR24 := hR23.mod hm24 (fun b _ e => by rcases e with e | e; left; omega; right; exact hown b e) (fun e => e.elim (hR23.1.ty.ne hD23.ch.blk.ty rfl) (fun e => (hD23.ch.row.ty e).ne hR23.1.ty rfl rfl)) (fun e => e.elim (hR23.2.2.1.blk.ty.ne hD23.ch.blk.ty rfl) (fun e => (hD23.ch.row.ty e).ne hR23.2.2.1.blk.ty rfl rfl)) (fun b e1 e => e.elim ((hR23.2.1.ty e1).ne hD23.ch.blk.ty rfl) (fun e => (hR23.2.1.ty e1).ne (hD23.ch.row.ty e) rfl rfl)) (fun b e1 e => e.elim ((hR23.2.2.1.row.ty e1).ne hD23.ch.blk.ty rfl) (fun e => (hR23.2.2.1.row.ty e1).ne (hD23.ch.row.ty e) rfl rfl))
          have hB4_24 := hB4_23.mod hm24 (fun e => e.elim (hB4_23.ty.ne hD23.ch.blk.ty rfl) (fun e => (hD23.ch.row.ty e).ne hB4_23.ty rfl rfl))
          have hB5_24 := hB5_23.mod hm24 (fun e => e.elim (hB5_23.ty.ne hD23.ch.blk.ty rfl) (fun e => (hD23.ch.row.ty e).ne hB5_23.ty rfl rfl))
          refine DT.op' rfl (.free rfl) rfl (Does.storeN i46 rfl rfl rfl rfl hB4_24 (Nat.le_of_ble_eq_true rfl)) ?_
          rintro _ wS ⟨hbS, hmS, hsS⟩
          have hSS : Mod (fun b => b = pt ∨ b = ids ∨ b = q) w5 wS := (hS24).then hmS (fun x hx e => by have e' : x = b4 := e; omega)
          refine ⟨hSS, ?_⟩
          have hB5S := hB5_24.mod hmS (fun e => hne45 e.symm)
          refine DT.op' rfl (.free rfl) rfl (Does.storeN i46 rfl rfl rfl rfl hB5S (Nat.le_of_ble_eq_true rfl)) ?_
          rintro _ wT ⟨hbT, hmT, hsT⟩
          have hTT : Mod (fun b => b = pt ∨ b = ids ∨ b = q) w5 wT := hSS.then hmT (fun x hx e => by have e' : x = b5 := e; omega)
          refine ⟨hTT, ?_⟩
          have hmST : Mod (fun b => b = b4 ∨ b = b5) _ wT := (hmS.mono fun b _ e => .inl e).trans (hmT.mono fun b _ e => .inr e)
          have hRT := hR24.mod hmST (fun b _ e => by rcases e with e | e; rw [e]; exact hps4; rw [e]; exact hps5) (fun e => e.elim (hR24.1.ty.ne hB4_24.ty rfl) (hR24.1.ty.ne hB5_24.ty rfl)) (fun e => e.elim (hR24.2.2.1.blk.ty.ne hB4_24.ty rfl) (hR24.2.2.1.blk.ty.ne hB5_24.ty rfl)) (fun b e1 e => e.elim ((hR24.2.1.ty e1).ne hB4_24.ty rfl) ((hR24.2.1.ty e1).ne hB5_24.ty rfl)) (fun b e1 e => e.elim ((hR24.2.2.1.row.ty e1).ne hB4_24.ty rfl) ((hR24.2.2.1.row.ty e1).ne hB5_24.ty rfl))
          have hDT : DoorAt wT dr q 3 0 9 2 v' cs' ds' := ⟨hD24.blk.mod hmST (fun e => e.elim (hD24.blk.ty.ne hB4_24.ty rfl) (hD24.blk.ty.ne hB5_24.ty rfl)), hD24.ch.blk.mod hmST (fun e => e.elim (hD24.ch.blk.ty.ne hB4_24.ty rfl) (hD24.ch.blk.ty.ne hB5_24.ty rfl)), hD24.ch.row.mod hmST (fun b e1 e => e.elim ((hD24.ch.row.ty e1).ne hB4_24.ty rfl) ((hD24.ch.row.ty e1).ne hB5_24.ty rfl)), hD24.ch.head⟩
          have hMT : Mod (fun b => b = pt ∨ b = ids ∨ b = q) w5 wT := (hS24).then hmST (fun x hx e => by rcases e with e | e <;> omega)
          refine DT.done ?_
          exact RK.back (hj (b4, b5) _ ⟨hbS.mod hmT hne45, hbT, ⟨base, top, c, vr, vp, v', cs', ds', hRT, hDT⟩, hMT⟩) ⟨rfl, rfl, rfl, trivial⟩
      · refine DT.op rfl (.free rfl) rfl rfl (Does.alloc i46) ?_
        rintro _ y22 ⟨b4, rfl, hn22⟩
        refine ⟨((Mod.drew _ _).trans (Mod.any' hn21.grow)).trans (Mod.any' hn22.grow), ?_⟩
        have ha22 := hn22.at_
        have hz22 := hn22.size
        have hge4 : w5.heap.size ≤ b4 := by have hh : Mod (fun b => b = pt ∨ b = ids ∨ b = q) w5 _ := (Mod.drew _ _).trans (Mod.any' hn21.grow); have := hh.size; omega
        have hlo22 := hB5_21.lt
        have hne45 : b4 ≠ b5 := by omega
        have hB5_22 := hB5_21.mod hn22.grow (fun h => h)
        have hB4_22 := hn22.blk
        have gc22 := gc21.trans hn22.grow
        refine DT.op rfl (.free rfl) rfl rfl (Does.call rfl e8 (partDo1_ok (hb.mod gc22 (fun h => h)) (hd.grow gc22) (hp.grow' gc22) (he.grow gc22) (hK.grow gc22) h0 (some ⟨b12, 0, none⟩) 1 (some ⟨b12, 0, none⟩) 1 none 0 (fun b => b = pt ∨ b = ids ∨ b = q) (.inr (.inl rfl)) (hr.mod (Mod.any' gc22)))) ?_
        rintro _ y23 ⟨rfl, ⟨base, top, c, vr, vp, a', k', a9, c9, ds1, hR23, hlb, hlt, hD23, hown⟩, hm23⟩
        refine ⟨(((Mod.drew _ _).trans (Mod.any' hn21.grow)).trans (Mod.any' hn22.grow)).trans hm23, ?_⟩
        have hz23 := hm23.size
        have hzg23 := gc22.size
        try simp only [World.drew] at hzg23 hlb hz23
        have hbt := hR23.bt
        have hlq4 := hB4_22.lt
        try simp only [World.drew] at hlq4
        have hps4 : b4 < base ∨ top ≤ b4 := .inl (by omega)
        have hB4_23 := hB4_22.mod hm23 (fun e => by rcases e with e | e | e; exact hB4_22.ty.ne (hb.mod gc22 (fun h => h)).ty rfl e; exact hB4_22.ty.ne (hp.grow' gc22).blk.ty rfl e; exact hB4_22.ty.ne (hd.grow gc22).ch.blk.ty rfl e)
        have hlq5 := hB5_22.lt
        try simp only [World.drew] at hlq5
        have hps5 : b5 < base ∨ top ≤ b5 := .inl (by omega)
        have hB5_23 := hB5_22.mod hm23 (fun e => by rcases e with e | e | e; exact hB5_22.ty.ne (hb.mod gc22 (fun h => h)).ty rfl e; exact hB5_22.ty.ne (hp.grow' gc22).blk.ty rfl e; exact hB5_22.ty.ne (hd.grow gc22).ch.blk.ty rfl e)
        have hKK24 : KeysAt _ := hK.mod ((((Mod.drew _ _).trans (Mod.any' hn21.grow)).trans (Mod.any' hn22.grow)).trans hm23) (fun e => by rcases e with e | e | e <;> omega)
        have hrr24 := hr.mod ((((Mod.drew _ _).trans (Mod.any' hn21.grow)).trans (Mod.any' hn22.grow)).trans hm23)
        refine DT.op rfl (.free rfl) rfl rfl (Does.call rfl e8 (partDo2_ok hR23 hD23 (fun b e => by have := hown b e; omega) hKK24 h0.2.2 (some ⟨b12, 0, none⟩) 1 (some ⟨b12, 0, none⟩) 1 none 0 _ hrr24)) ?_
        rintro _ y24 ⟨rfl, ⟨v', cs', ds', hD24⟩, hm24⟩
        have hz24 := hm24.size
        have hS24 : Mod (fun b => b = pt ∨ b = ids ∨ b = q) w5 y24 := ((((Mod.drew _ _).trans (Mod.any' hn21.grow)).trans (Mod.any' hn22.grow)).trans hm23).then hm24 (fun x hx e => by rcases e with e | e; exact .inr (.inr e); have := hown x e; omega)
        refine ⟨hS24, ?_⟩
        have hR24 := hR23.mod hm24 (fun b _ e => by rcases e with e | e; left; omega; right; exact hown b e) (fun e => e.elim (hR23.1.ty.ne hD23.ch.blk.ty rfl) (fun e => (hD23.ch.row.ty e).ne hR23.1.ty rfl rfl)) (fun e => e.elim (hR23.2.2.1.blk.ty.ne hD23.ch.blk.ty rfl) (fun e => (hD23.ch.row.ty e).ne hR23.2.2.1.blk.ty rfl rfl)) (fun b e1 e => e.elim ((hR23.2.1.ty e1).ne hD23.ch.blk.ty rfl) (fun e => (hR23.2.1.ty e1).ne (hD23.ch.row.ty e) rfl rfl)) (fun b e1 e => e.elim ((hR23.2.2.1.row.ty e1).ne hD23.ch.blk.ty rfl) (fun e => (hR23.2.2.1.row.ty e1).ne (hD23.ch.row.ty e) rfl rfl))
        have hB4_24 := hB4_23.mod hm24 (fun e => e.elim (hB4_23.ty.ne hD23.ch.blk.ty rfl) (fun e => (hD23.ch.row.ty e).ne hB4_23.ty rfl rfl))
        have hB5_24 := hB5_23.mod hm24 (fun e => e.elim (hB5_23.ty.ne hD23.ch.blk.ty rfl) (fun e => (hD23.ch.row.ty e).ne hB5_23.ty rfl rfl))
        refine DT.op' rfl (.free rfl) rfl (Does.storeN i46 rfl rfl rfl rfl hB4_24 (Nat.le_of_ble_eq_true rfl)) ?_
        rintro _ wS ⟨hbS, hmS, hsS⟩
        have hSS : Mod (fun b => b = pt ∨ b = ids ∨ b = q) w5 wS := (hS24).then hmS (fun x hx e => by have e' : x = b4 := e; omega)
        refine ⟨hSS, ?_⟩
        have hB5S := hB5_24.mod hmS (fun e => hne45 e.symm)
        refine DT.op' rfl (.free rfl) rfl (Does.storeN i46 rfl rfl rfl rfl hB5S (Nat.le_of_ble_eq_true rfl)) ?_
        rintro _ wT ⟨hbT, hmT, hsT⟩
        have hTT : Mod (fun b => b = pt ∨ b = ids ∨ b = q) w5 wT := hSS.then hmT (fun x hx e => by have e' : x = b5 := e; omega)
        refine ⟨hTT, ?_⟩
        have hmST : Mod (fun b => b = b4 ∨ b = b5) _ wT := (hmS.mono fun b _ e => .inl e).trans (hmT.mono fun b _ e => .inr e)
        have hRT := hR24.mod hmST (fun b _ e => by rcases e with e | e; rw [e]; exact hps4; rw [e]; exact hps5) (fun e => e.elim (hR24.1.ty.ne hB4_24.ty rfl) (hR24.1.ty.ne hB5_24.ty rfl)) (fun e => e.elim (hR24.2.2.1.blk.ty.ne hB4_24.ty rfl) (hR24.2.2.1.blk.ty.ne hB5_24.ty rfl)) (fun b e1 e => e.elim ((hR24.2.1.ty e1).ne hB4_24.ty rfl) ((hR24.2.1.ty e1).ne hB5_24.ty rfl)) (fun b e1 e => e.elim ((hR24.2.2.1.row.ty e1).ne hB4_24.ty rfl) ((hR24.2.2.1.row.ty e1).ne hB5_24.ty rfl))
        have hDT : DoorAt wT dr q 3 0 9 2 v' cs' ds' := ⟨hD24.blk.mod hmST (fun e => e.elim (hD24.blk.ty.ne hB4_24.ty rfl) (hD24.blk.ty.ne hB5_24.ty rfl)), hD24.ch.blk.mod hmST (fun e => e.elim (hD24.ch.blk.ty.ne hB4_24.ty rfl) (hD24.ch.blk.ty.ne hB5_24.ty rfl)), hD24.ch.row.mod hmST (fun b e1 e => e.elim ((hD24.ch.row.ty e1).ne hB4_24.ty rfl) ((hD24.ch.row.ty e1).ne hB5_24.ty rfl)), hD24.ch.head⟩
        have hMT : Mod (fun b => b = pt ∨ b = ids ∨ b = q) w5 wT := (hS24).then hmST (fun x hx e => by rcases e with e | e <;> omega)
        refine DT.done ?_
        exact RK.back (hj (b4, b5) _ ⟨hbS.mod hmT hne45, hbT, ⟨base, top, c, vr, vp, v', cs', ds', hRT, hDT⟩, hMT⟩) ⟨rfl, rfl, rfl, trivial⟩
end Go.Proofs.YtnnmgfnhblbolaaGreatDoor
namespace Go.Proofs.YtnnmgfnhblbolaaGreatDoor.partRuns
open Go.ChangeShapes Go.WideShapes Go.ChangeAt Go.RowKit Go.X
set_option linter.unusedVariables false
theorem own : ownKnob Tryz.prog.godebug = none := by kernel_rfl
theorem door_met (os : Os) (args : Array Value) : laidMetH Tryz.prog [("sordine/sha.keys", Rows.laid_sordine_sha_keys)] ((World.doorLaid Tryz.prog 400 os).forCall (fun _ _ => 0) ⟨#[], args, []⟩).memory :=
  laidMetH_of_parts3 (fuel := 8) (laidMet_of_run' 8 (by kernel_rfl) (by kernel_rfl)) (by kernel_rfl) (by kernel_rfl)
set_option maxRecDepth 100000 in
theorem lifted (os : Os) (started : os.Started) (H : Type) (enc : TypeId × Value → H) :
    ReturnsInHanded {} Tryz.checked os 3 .any (fun w args => (Rows.partRunsSpec.pre enc Tryz.prog Tryz.f3 [] false w args ∧ laidMetH Tryz.prog [("sordine/sha.keys", Rows.laid_sordine_sha_keys)] w) ∧ sizedMet enc Tryz.prog Tryz.f3 (OpenSpec.ofChange Rows.partRunsSpec) false w args) (Rows.partRunsSpec.post enc Tryz.prog Tryz.f3 false true false false) := by
  refine returnsInHanded_of_change_and (C := Tryz.checked) (X := fun w _ => laidMetH Tryz.prog [("sordine/sha.keys", Rows.laid_sordine_sha_keys)] w) (fun _ _ _ hh h => h.of_heap hh) own started (by kernel_rfl) Tryz.func3
    (ChangeSpec.witness_shaped (enc := enc) (C := Tryz.checked) (os := os) (X := fun w _ => laidMetH Tryz.prog [("sordine/sha.keys", Rows.laid_sordine_sha_keys)] w) false (World.doorLaid Tryz.prog 400 os) #[] 8 rfl (World.shaped_of_RefB (by kernel_rfl) (by kernel_rfl)) (by kernel_rfl) (by kernel_rfl) (by kernel_rfl) (door_met os _)) ?_
  intro W base args ds gs before hval0 hW hcnd _ hL _
  have hW' := hW
  obtain ⟨p, q, hA0, hV, rfl, hfz, hnd⟩ := hW
  have hA : DataW.TrodAll enc Tryz.prog W 0 (fun _ => true) true Tryz.f3.params.toList args.toList ds p := hA0
  rw [Tryz.params3] at hA
  obtain ⟨rfl, rfl, rfl⟩ := trodAll_none hA
  obtain ⟨rfl, rfl⟩ := trodVars_none hV
  simp only [List.append_nil] at hW'
  refine Calls.mono (pruns_ok W (keysLaid hL)) ?_
  rintro e W' ⟨v, rfl, rfl, hg⟩
  exact ⟨_, rfl, post_grow hW' (fun _ _ _ => trodAll_cons_mk (shut_bool Tryz.underlying4 _) trodAll_mk0) (fun sp _ => rfl) (fun _ => rfl) hg (ok_one (by kernel_rfl) rfl (okWide_bool_mk Tryz.underlying4 _))⟩
end Go.Proofs.YtnnmgfnhblbolaaGreatDoor.partRuns
namespace Go.Proofs.YtnnmgfnhblbolaaGreatDoor.partRuns
open Go.ChangeShapes Go.WideShapes Go.ChangeAt Go.RowKit Go.X
set_option linter.unusedVariables false
theorem band2 {a b : Bool} (ha : a = true) (hb : b = true) : (a && b) = true := by rw [ha, hb]; rfl
theorem k1 : (Rows.partRunsRow.inPlace == Tryz.pinned.checked.prog.inPlace 3) = true := by kernel_rfl
theorem k2 : (Rows.partRunsRow.unfollowed == Tryz.pinned.checked.prog.unfollowed 3) = true := by kernel_rfl
theorem k3 : (Rows.partRunsRow.recurses == Tryz.pinned.checked.prog.recurses 3) = true := by kernel_rfl
theorem k4 : (Rows.partRunsRow.named == Tryz.pinned.checked.prog.varsNamed 3) = true := by kernel_rfl
set_option maxHeartbeats 40000000 in
theorem facts : joinedFacts Tryz.pinned.checked.prog 3 Tryz.f3 Rows.partRunsSpec Rows.partRunsRow = true := by
  unfold joinedFacts
  repeat' (with_reducible refine band2 ?_ ?_)
  all_goals first | with_reducible exact k1 | with_reducible exact k2 | with_reducible exact k3 | with_reducible exact k4 | (as_aux_lemma => kernel_rfl)
set_option maxHeartbeats 4000000 in
theorem over : Rows.PartRunsSaid :=
  OpenClaim.holds_of_wide 3 Tryz.f3 rfl rfl rfl rfl rfl rfl rfl ⟨rfl, rfl, rfl, rfl, rfl⟩ rfl rfl rfl rfl rfl (by as_aux_lemma => kernel_rfl) Tryz.func3 facts
    (of_decide_eq_true (by as_aux_lemma => kernel_rfl)) (by as_aux_lemma => unfold Func.isWrapper; first | (rw [if_pos (by decide +kernel)]; kernel_rfl) | (rw [if_neg (by decide +kernel)]; exact ⟨rfl, rfl⟩))
    (fun os started H enc _ => lifted os started H enc)
end Go.Proofs.YtnnmgfnhblbolaaGreatDoor.partRuns
