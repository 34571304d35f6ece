/- What the claim stands on, part 8. Of own lemmas only those that it reaches. -/
import Derived.Test.YtnnmgfnhblbolaaGreatDoorKc7
set_option linter.unusedVariables false
set_option linter.unusedSimpArgs false
set_option maxHeartbeats 6400000
set_option maxRecDepth 100000
namespace Go.Proofs.YtnnmgfnhblbolaaGreatDoor
open Go Go.X
theorem slRow {w : World} {v : Value} {cs : List Value} {n : Nat} {t sz : Nat} (h : Row w t sz v n cs) : Sl No w v sz n cs := Sl.own h (fun _ _ h => h)
theorem ruleReadQ_ok (N : Nat) (bs t : List UInt8) (hbs : bs = rbQ ++ t) (ad : Option Addr) (c : Nat) (w : World) (hv : Sl (N ≤ ·) w (.slice ad bs.length c) 1 bs.length (bytesV bs)) (hN : N ≤ w.heap.size) (hc : bs.length ≤ c) : Fx Tryz.prog 156 [.slice ad bs.length c] w (fun u w' => ∃ a1 c1 a2 c2, u = .tuple #[.agg (ruC (ruQ (.slice a1 1 c1) (.slice a2 1 c2) (.slice none 0 0))).toArray, .int .i64 14, .bool true] ∧ Row w' 29 3 (.slice a1 1 c1) 1 (mtC mQ) ∧ Row w' 29 3 (.slice a2 1 c2) 1 (mtC mQ) ∧ Grow w w') := by
  have hd : ∀ i, bs.drop i = (rbQ ++ t).drop i := fun i => by rw [hbs]
  refine enter Tryz.func156 rfl rfl rfl _ (Pick.sub (l := [0]) (.cons rfl .nil)) ?_
  refine RK.seq ?_
  refine RK.region ?_
  refine RL.op (.free rfl) rfl rfl (Does.alloc i36) ?_
  rintro _ w1 ⟨b2, rfl, hn2⟩
  have ha2 := hn2.at_
  have hz2 := hn2.size
  iterate 2 refine RL.p rfl rfl ?_
  refine RL.done ?_
  refine RK.seq ?_
  refine RK.region ?_
  refine RL.p rfl rfl ?_
  refine RL.op (.free rfl) rfl rfl (Does.call rfl e77 (pnew_ok N _ ad c bs (hv.mod (Mod.any' hn2.grow)) (by omega) hc)) ?_
  rintro _ w2 ⟨p, rfl, hp, h2, hg2⟩
  have hz12 := hg2.size
  have hplt := h2.blk.lt
  refine RL.p rfl rfl ?_
  refine RL.done ?_
  refine RK.seq ?_
  refine RK.region ?_
  refine RL.p rfl rfl ?_
  refine RL.op (.free rfl) rfl rfl (Does.call rfl e151 (ofM_ok h2 (1 :: 1 :: 1 :: 97 :: 1 :: 49 :: 1 :: 0 :: t) (hd 0))) ?_
  rintro _ w3 ⟨a1, c1, rfl, hr3, hf3, h3, hm3⟩
  refine RL.p rfl rfl ?_
  refine RL.op (.free rfl) rfl rfl (Does.call rfl e151 (ofM_ok h3 (1 :: 0 :: t) (hd 6))) ?_
  rintro _ w4 ⟨a2, c2, rfl, hr4, hf4, h4, hm4⟩
  refine RL.p rfl rfl ?_
  refine RL.op (.free rfl) rfl rfl (Does.call rfl e153 (ofB_ok h4 (0 :: t) (hd 12))) ?_
  rintro _ w5 ⟨rfl, h5, hm5⟩
  have hm25 : Mod (· = p) w2 w5 := (hm3.trans hm4).trans hm5
  have hr35 := (hr3.mod hm4 (fun b e1 e2 => (hr3.ty e1).ne h3.blk.ty rfl e2)).mod hm5 (fun b e1 e2 => ((hr3.mod hm4 (fun b e1 e2 => (hr3.ty e1).ne h3.blk.ty rfl e2)).ty e1).ne h4.blk.ty rfl e2)
  have hr45 := hr4.mod hm5 (fun b e1 e2 => (hr4.ty e1).ne h4.blk.ty rfl e2)
  refine RL.q (.free rfl) rfl rfl (Yld.build (v := .agg (ruC (ruQ (.slice a1 1 c1) (.slice a2 1 c2) (.slice none 0 0))).toArray) rfl (fun w => by kernel_rfl)) ?_
  refine RL.op (.free rfl) rfl rfl (Does.alloc i36) ?_
  rintro _ w6 ⟨b6, rfl, hn6⟩
  have ha6 := hn6.at_
  have hz6 := hn6.size
  have hz25 := hm25.size
  refine RL.op' (.free rfl) rfl (Does.storeN i36 rfl rfl rfl rfl hn6.blk (Nat.le_refl 6)) ?_
  rintro _ w7 ⟨hb7, hm7, hs7⟩
  have hB7 : Blk w7 b6 36 (ruC (ruQ (.slice a1 1 c1) (.slice a2 1 c2) (.slice none 0 0))) := hb7
  have hg57 : Grow w5 w7 := hn6.grow.then hm7 (fun x hx e => by have e' : x = b6 := e; omega)
  have hr37 := hr35.mod hg57 (fun _ _ h => h)
  have hr47 := hr45.mod hg57 (fun _ _ h => h)
  refine RL.done ?_
  iterate 2 refine RK.seq ?_
  refine RK.region ?_
  refine RL.p rfl rfl ?_
  refine RL.op (.free rfl) rfl rfl (Does.call rfl e150 (numT_ok (h5.grow hg57) 0 (by decide) t (hd 13) 4 (by decide))) ?_
  rintro _ w8 ⟨rfl, h8, hm8⟩
  refine RL.p rfl rfl ?_
  refine RL.done ?_
  refine RK.block ?_
  refine RK.loop (fun _ : Unit => [(2, pp b2), (5, pp p), (6, pp b6), (19, .int .u64 0), (20, .int .u64 0)]) (fun _ w' => w8 = w') (fun _ => 0) () ⟨rfl, rfl, rfl, rfl, rfl, trivial⟩ rfl (fun _ w' hI ih => ?_)
  subst hI
  have h7 := h5.grow hg57
  have hB8 := hB7.mod hm8 (fun e => by have e' : b6 = p := e; omega)
  have hr38 := hr37.mod hm8 (fun b e1 e2 => (hr37.ty e1).ne h7.blk.ty rfl e2)
  have hr48 := hr47.mod hm8 (fun b e1 e2 => (hr47.ty e1).ne h7.blk.ty rfl e2)
  refine RK.seq ?_
  refine RK.region ?_
  refine RL.p rfl rfl ?_
  refine RL.done ?_
  refine RK.seq ?_
  refine RK.condF (hcF rfl (rfl)) ?_
  refine RK.exit rfl ?_
  refine RK.seq ?_
  refine RK.region ?_
  refine RL.p rfl rfl ?_
  refine RL.q (.free rfl) rfl rfl (Yld.loadN (cs := ruC (ruQ (.slice a1 1 c1) (.slice a2 1 c2) (.slice none 0 0))) a36 rfl (atN (blkV hB8))) ?_
  refine RL.op (.free rfl) rfl rfl (Does.call rfl e178 (isRule_ok No (ruQ (.slice a1 1 c1) (.slice a2 1 c2) (.slice none 0 0)) _ ⟨slRow hr38, slRow hr48, slRow (Row.nil _ 9 1)⟩)) ?_
  rintro _ w9 ⟨rfl, hg9⟩
  rw [ruQ_is]
  refine RL.op (.free rfl) rfl rfl (Does.call rfl e79 (refuseT_ok (h8.grow hg9))) ?_
  rintro _ w10 ⟨h10, hm10⟩
  refine RL.done ?_
  refine RK.seq ?_
  refine RK.region ?_
  refine RL.p rfl rfl ?_
  refine RL.op (.free rfl) rfl rfl (Does.call rfl e161 (endT_ok h10)) ?_
  rintro _ _ ⟨rfl, rfl⟩
  have h9 := h8.grow hg9
  have hB9 := hB8.mod hg9 (fun h => h)
  have hB10 := hB9.mod hm10 (fun e => by have e' : b6 = p := e; omega)
  have hr39 := hr38.mod hg9 (fun _ _ h => h)
  have hr49 := hr48.mod hg9 (fun _ _ h => h)
  have hr310 := hr39.mod hm10 (fun b e1 e2 => (hr39.ty e1).ne h9.blk.ty rfl e2)
  have hr410 := hr49.mod hm10 (fun b e1 e2 => (hr49.ty e1).ne h9.blk.ty rfl e2)
  have hM210 : Mod (· = p) w2 w10 := (((hm25.trans (Mod.any' hg57)).trans hm8).trans (Mod.any' hg9)).trans hm10
  have hB2 := (hn2.blk.mod hg2 (fun h => h)).mod hM210 (fun e => by have e' : b2 = p := e; omega)
  iterate 5 refine RL.p rfl rfl ?_
  refine RL.done ?_
  iterate 2 refine RK.seq ?_
  refine RK.region ?_
  iterate 2 refine RL.p rfl rfl ?_
  refine RL.done ?_
  refine RK.condF (hcF rfl (rfl)) ?_
  refine RK.skip ?_
  refine RK.seq ?_
  refine RK.region ?_
  refine RL.q (.free rfl) rfl rfl (Yld.loadN (cs := ruC (ruQ (.slice a1 1 c1) (.slice a2 1 c2) (.slice none 0 0))) a36 rfl (atN (blkV hB10))) ?_
  refine RL.p rfl rfl ?_
  refine RL.op' (.free rfl) rfl (Does.storeN i36 rfl rfl rfl rfl hB2 (Nat.le_refl 6)) ?_
  rintro _ w11 ⟨hb11, hm11, hs11⟩
  iterate 2 refine RL.p rfl rfl ?_
  refine RL.done ?_
  refine RK.ret_of Tryz.func156 (resCTT (cs := ruC (ruQ (.slice a1 1 c1) (.slice a2 1 c2) (.slice none 0 0))) rfl rfl a36 hb11 rfl rfl) ?_ _
  exact ⟨_, rfl, a1, c1, a2, c2, rfl, hr310.mod hm11 (fun b e1 e2 => (hr310.ty e1).ne hB2.ty rfl e2), hr410.mod hm11 (fun b e1 e2 => (hr410.ty e1).ne hB2.ty rfl e2), ((hn2.grow.trans hg2).then hM210 (fun x hx e => by have e' : x = p := e; omega)).then hm11 (fun x hx e => by have e' : x = b2 := e; omega)⟩
section
variable {N : Nat} {w : World} {p : Nat} {ad : Option Addr} {c : Nat} {bs : List UInt8} {i : Nat}
theorem ofR_ok (h : Rd N w p ad c bs i false) (t : List UInt8) (hd : bs.drop i = rbQ ++ t) : Fx Tryz.prog 155 [pp p, .func (.func 156) #[] #[]] w (fun u w' => ∃ a1 c1 a2 c2, u = .agg (ruC (ruQ (.slice a1 1 c1) (.slice a2 1 c2) (.slice none 0 0))).toArray ∧ Row w' 29 3 (.slice a1 1 c1) 1 (mtC mQ) ∧ Row w' 29 3 (.slice a2 1 c2) 1 (mtC mQ) ∧ Rd N w' p ad c bs (i + 14) false ∧ Mod (· = p) w w') := by
  have hplt := h.blk.lt
  have hpN := h.pN
  have hl : bs.length - i = (bs.drop i).length := by rw [List.length_drop]
  have hl2 : i + 14 ≤ bs.length := by have := congrArg List.length hd; rw [List.length_drop] at this; simp [rbQ] at this; have := h.le; omega
  refine enter Tryz.func155 rfl rfl rfl _ (Pick.sub (l := [0, 1]) (.cons rfl (.cons rfl .nil))) ?_
  refine RK.seq ?_
  refine RK.region ?_
  refine RL.op (.free rfl) rfl rfl (Does.alloc i36) ?_
  rintro _ w0 ⟨b4, rfl, hn4⟩
  have ha4 := hn4.at_
  have hz4 := hn4.size
  refine RL.done ?_
  refine RK.seq ?_
  refine RK.region ?_
  iterate 2 refine RL.p rfl rfl ?_
  refine RL.op (.free rfl) rfl rfl (Does.call rfl e147 (rest_ok (h.grow hn4.grow))) ?_
  rintro _ w1 ⟨ad', c', rfl, hsl, hca, hg1⟩
  have hz1 := hg1.size
  rw [hl] at hsl hca
  rw [hl]
  refine RL.op (.free rfl) rfl rfl (Does.callv rfl rfl e156 (ruleReadQ_ok N (bs.drop i) t hd ad' c' _ hsl (by omega) hca)) ?_
  rintro _ w2 ⟨a1, c1, a2, c2, rfl, hr1, hr2, hg2⟩
  have hz2 := hg2.size
  iterate 4 refine RL.p rfl rfl ?_
  refine RL.op (.free rfl) rfl rfl (Does.alloc i36) ?_
  rintro _ w3 ⟨b5, rfl, hn5⟩
  have ha5 := hn5.at_
  refine RL.op' (.free rfl) rfl (Does.storeN i36 rfl rfl rfl rfl hn5.blk (Nat.le_refl 6)) ?_
  rintro _ w4 ⟨hb4, hm4, hs4⟩
  have hB5 : Blk w4 b5 36 (ruC (ruQ (.slice a1 1 c1) (.slice a2 1 c2) (.slice none 0 0))) := hb4
  have hg24 : Grow w2 w4 := hn5.grow.then hm4 (fun x hx e => by have e' : x = b5 := e; omega)
  have hg14 : Grow w0 w4 := (hg1.trans hg2).trans hg24
  have hg04 := hn4.grow.trans hg14
  have h4 := h.grow hg04
  iterate 2 refine RL.p rfl rfl ?_
  refine RL.done ?_
  iterate 2 refine RK.seq ?_
  refine RK.region ?_
  iterate 3 refine RL.p rfl rfl ?_
  refine RL.op (.free rfl) rfl rfl (Does.call rfl e148 (tookT_ok h4 14 hl2)) ?_
  rintro _ w5 ⟨rfl, h5, hm5⟩
  have hB4 := (hn4.blk.mod hg14 (fun h => h)).mod hm5 (fun e => by have e' : b4 = p := e; omega)
  have hr14 := hr1.mod hg24 (fun _ _ h => h)
  have hr24 := hr2.mod hg24 (fun _ _ h => h)
  have hr15 := hr14.mod hm5 (fun b e1 e2 => (hr14.ty e1).ne h4.blk.ty rfl e2)
  have hr25 := hr24.mod hm5 (fun b e1 e2 => (hr24.ty e1).ne h4.blk.ty rfl e2)
  refine RL.p rfl rfl ?_
  refine RL.done ?_
  refine RK.condF (hcF rfl (rfl)) ?_
  refine RK.skip ?_
  refine RK.seq ?_
  refine RK.region ?_
  refine RL.q (.free rfl) rfl rfl (Yld.loadN (cs := ruC (ruQ (.slice a1 1 c1) (.slice a2 1 c2) (.slice none 0 0))) a36 rfl (atN (blkV (hB5.mod hm5 (fun e => hB5.ty.ne h4.blk.ty rfl e))))) ?_
  refine RL.op' (.free rfl) rfl (Does.storeN i36 rfl rfl rfl rfl hB4 (Nat.le_refl 6)) ?_
  rintro _ w6 ⟨hb6, hm6, hs6⟩
  refine RL.done ?_
  refine RK.ret_of Tryz.func155 (resC (cs := ruC (ruQ (.slice a1 1 c1) (.slice a2 1 c2) (.slice none 0 0))) rfl rfl a36 hb6) ?_ _
  exact ⟨_, rfl, a1, c1, a2, c2, rfl, hr15.mod hm6 (fun b e1 e2 => (hr15.ty e1).ne hB4.ty rfl e2), hr25.mod hm6 (fun b e1 e2 => (hr25.ty e1).ne hB4.ty rfl e2), h5.mod hm6 (fun e => by have e' : p = b4 := e; omega) (fun b e => by have e' : b = b4 := e; omega), ((Mod.any' hg04).trans hm5).then hm6 (fun x hx e => by have e' : x = b4 := e; omega)⟩
theorem reqReadQ_ok (h : Rd N w p ad c bs i false) (hd : bs.drop i = 9 :: rbQ) : Fx Tryz.prog 80 [pp p] w (fun u w' => ∃ a1 c1 a2 c2, u = .agg (reqQ a1 c1 a2 c2 none 0).toArray ∧ Rd N w' p ad c bs (i + 15) false ∧ Mod (· = p) w w') := by
  have hpN := h.pN
  have hplt := h.blk.lt
  have hd1 : bs.drop (i + 1) = rbQ ++ [] := by rw [← List.drop_drop, hd, List.append_nil]; rfl
  refine enter Tryz.func80 rfl rfl rfl _ (Pick.sub (l := [0]) (.cons rfl .nil)) ?_
  refine RK.seq ?_
  refine RK.region ?_
  refine RL.op (.free rfl) rfl rfl (Does.alloc i39) ?_
  rintro _ w2 ⟨b2, rfl, hn2⟩
  have h2 := h.grow hn2.grow
  refine RL.done ?_
  refine RK.seq ?_
  refine RK.region ?_
  refine RL.p rfl rfl ?_
  refine RL.op (.free rfl) rfl rfl (Does.call rfl e149 (byteT_ok h2 9 (by decide) rbQ hd)) ?_
  rintro _ w3 ⟨rfl, h3, hm3⟩
  have hz3 := hm3.size
  refine RL.q (.free rfl) rfl rfl (Yld.convI Tryz.underlying5 Tryz.underlying3 rfl) ?_
  refine RL.q (.free rfl) rfl rfl (Yld.build (v := .agg (reqC ⟨#[]⟩ 9).toArray) rfl (fun w => by kernel_rfl)) ?_
  refine RL.op (.free rfl) rfl rfl (Does.alloc i39) ?_
  rintro _ w4 ⟨b4, rfl, hn4⟩
  have ha2 := hn2.at_
  have hz2 := hn2.size
  have ha4 := hn4.at_
  have hz4 := hn4.size
  have h4' := h3.grow hn4.grow
  refine RL.op' (.free rfl) rfl (Does.storeN i39 rfl rfl rfl rfl hn4.blk (Nat.le_refl 19)) ?_
  rintro _ w5 ⟨hb5, hm5, hs5⟩
  have hB5 : Blk w5 b4 39 (reqC ⟨#[]⟩ 9) := hb5
  have h5 := h4'.mod hm5 (fun e => by have e' : p = b4 := e; omega) (fun b e => by have e' : b = b4 := e; omega)
  refine RL.done ?_
  refine RK.seq ?_
  refine RK.region ?_
  refine RL.q (.free rfl) rfl rfl (Yld.fieldAddr fo39_1 rfl) ?_
  refine RL.q (.free rfl) rfl rfl (Yld.load p3 rfl (at1 (hB5.cell rfl))) ?_
  refine RL.op (.free rfl) rfl rfl (Does.call rfl e98 (reqFields9_ok _)) ?_
  rintro _ _ ⟨rfl, rfl⟩
  iterate 5 refine RL.p rfl rfl ?_
  refine RL.done ?_
  refine RK.seq ?_
  refine RK.region ?_
  iterate 2 refine RL.p rfl rfl ?_
  refine RL.op (.free rfl) rfl rfl (Does.call rfl e79 (refuseT_ok h5)) ?_
  rintro _ w6 ⟨h6, hm6⟩
  refine RL.done ?_
  iterate 2 refine RK.seq ?_
  refine RK.region ?_
  iterate 3 refine RL.p rfl rfl ?_
  refine RL.done ?_
  refine RK.condF (hcF rfl (by first | rfl | decide)) ?_
  refine RK.skip ?_
  iterate 2 refine RK.seq ?_
  refine RK.region ?_
  iterate 3 refine RL.p rfl rfl ?_
  refine RL.done ?_
  refine RK.condF (hcF rfl (by first | rfl | decide)) ?_
  refine RK.skip ?_
  iterate 2 refine RK.seq ?_
  refine RK.region ?_
  iterate 3 refine RL.p rfl rfl ?_
  refine RL.done ?_
  refine RK.condF (hcF rfl (by first | rfl | decide)) ?_
  refine RK.skip ?_
  iterate 2 refine RK.seq ?_
  refine RK.region ?_
  iterate 3 refine RL.p rfl rfl ?_
  refine RL.done ?_
  refine RK.condF (hcF rfl (by first | rfl | decide)) ?_
  refine RK.skip ?_
  iterate 2 refine RK.seq ?_
  refine RK.region ?_
  iterate 3 refine RL.p rfl rfl ?_
  refine RL.done ?_
  refine RK.condF (hcF rfl (by first | rfl | decide)) ?_
  refine RK.skip ?_
  iterate 2 refine RK.seq ?_
  refine RK.region ?_
  iterate 3 refine RL.p rfl rfl ?_
  refine RL.done ?_
  refine RK.condF (hcF rfl (by first | rfl | decide)) ?_
  refine RK.skip ?_
  iterate 2 refine RK.seq ?_
  refine RK.region ?_
  iterate 3 refine RL.p rfl rfl ?_
  refine RL.done ?_
  refine RK.condT (hcT rfl (by first | rfl | decide)) ?_
  refine RK.region ?_
  refine RL.p rfl rfl ?_
  refine RL.op (.free rfl) rfl rfl (Does.call rfl e155 (ofR_ok h6 [] hd1)) ?_
  rintro _ w7 ⟨a1, c1, a2, c2, rfl, hr1, hr2, h7, hm7⟩
  have hm57 : Mod (· = p) w5 w7 := hm6.trans hm7
  have hB7 := hB5.mod hm57 (fun e => by have e' : b4 = p := e; omega)
  refine RL.q (.free rfl) rfl rfl (Yld.fieldAddr fo39_9 rfl) ?_
  refine RL.op' (.free rfl) rfl (Does.storeN (o := 11) i36 rfl rfl rfl rfl hB7 (Nat.le_of_ble_eq_true rfl)) ?_
  rintro _ w8 ⟨hb8, hm8, hs8⟩
  have hB8 : Blk w8 b4 39 (reqQ a1 c1 a2 c2 none 0) := hb8
  have h8 := h7.mod hm8 (fun e => by have e' : p = b4 := e; omega) (fun b e => by have e' : b = b4 := e; omega)
  have hr18 := hr1.mod hm8 (fun b e1 e2 => (hr1.ty e1).ne hB7.ty rfl e2)
  have hr28 := hr2.mod hm8 (fun b e1 e2 => (hr2.ty e1).ne hB7.ty rfl e2)
  refine RL.done ?_
  iterate 2 refine RK.seq ?_
  refine RK.region ?_
  iterate 3 refine RL.p rfl rfl ?_
  refine RL.done ?_
  refine RK.condF (hcF rfl (by first | rfl | decide)) ?_
  refine RK.skip ?_
  iterate 2 refine RK.seq ?_
  refine RK.region ?_
  iterate 3 refine RL.p rfl rfl ?_
  refine RL.done ?_
  refine RK.condF (hcF rfl (by first | rfl | decide)) ?_
  refine RK.skip ?_
  refine RK.seq ?_
  refine RK.region ?_
  refine RL.p rfl rfl ?_
  refine RL.q (.free rfl) rfl rfl (Yld.loadN (cs := reqQ a1 c1 a2 c2 none 0) a39 rfl (atN (blkV hB8))) ?_
  refine RL.op (.free rfl) rfl rfl (Does.call rfl e97 (reqMayQ_ok a1 c1 a2 c2 none 0 _ ⟨slRow hr18, slRow hr28, slRow (Row.nil _ 9 1)⟩)) ?_
  rintro _ w9 ⟨rfl, hg9⟩
  refine RL.op (.free rfl) rfl rfl (Does.call rfl e79 (refuseT_ok (h8.grow hg9))) ?_
  rintro _ w10 ⟨h10, hm10⟩
  have hB10 := (hB8.mod hg9 (fun h => h)).mod hm10 (fun e => by have e' : b4 = p := e; omega)
  have hM : Mod (fun b => b = p ∨ b = b4) w3 w10 := (((((Mod.any' hn4.grow).trans (hm5.mono fun b _ e => .inr e)).trans (hm57.mono fun b _ e => .inl e)).trans (hm8.mono fun b _ e => .inr e)).trans (Mod.any' hg9)).trans (hm10.mono fun b _ e => .inl e)
  have hB2 := (hn2.blk.mod hm3 (fun e => by have e' : b2 = p := e; omega)).mod hM (fun e => by rcases e with e | e <;> omega)
  refine RL.done ?_
  refine RK.seq ?_
  refine RK.region ?_
  refine RL.q (.free rfl) rfl rfl (Yld.loadN (cs := reqQ a1 c1 a2 c2 none 0) a39 rfl (atN (blkV hB10))) ?_
  refine RL.op' (.free rfl) rfl (Does.storeN i39 rfl rfl rfl rfl hB2 (Nat.le_refl 19)) ?_
  rintro _ w11 ⟨hb11, hm11, hs11⟩
  have hM0 : Mod (· = p) w w10 := ((Mod.any' hn2.grow).trans hm3).then hM (fun x hx e => by rcases e with e | e; exact e; omega)
  refine RL.done ?_
  refine RK.ret_of Tryz.func80 (resC (cs := reqQ a1 c1 a2 c2 none 0) rfl rfl a39 hb11) ?_ _
  exact ⟨_, rfl, a1, c1, a2, c2, rfl, h10.mod hm11 (fun e => by have e' : p = b2 := e; omega) (fun b e => by have e' : b = b2 := e; omega), hM0.then hm11 (fun x hx e => by have e' : x = b2 := e; omega)⟩
theorem wholeQ_ok {y : Nat} (h : Rd N w p ad c bs bs.length false) (x : Option Addr) (a1 : Option Addr) (c1 : Nat) (a2 : Option Addr) (c2 : Nat) : Fx Tryz.prog 81 [.agg (reqQ a1 c1 a2 c2 none 0).toArray, pp p, .slice x bs.length y] w (fun u w' => u = .tuple #[.agg (reqQ a1 c1 a2 c2 none 0).toArray, .bool true] ∧ Grow w w') := by
  refine enter Tryz.func81 rfl rfl rfl _ (Pick.sub (l := [0, 1, 2]) (.cons rfl (.cons rfl (.cons rfl .nil)))) ?_
  refine RK.seq ?_
  refine RK.region ?_
  refine RL.op (.free rfl) rfl rfl (Does.box rfl) ?_
  rintro _ w1 ⟨b3, rfl, hn3⟩
  refine RL.op (.free rfl) rfl rfl (Does.alloc i39) ?_
  rintro _ w2 ⟨b6, rfl, hn6⟩
  have hg2 := hn3.grow.trans hn6.grow
  refine RL.p rfl rfl ?_
  refine RL.done ?_
  iterate 2 refine RK.seq ?_
  refine RK.region ?_
  refine RL.p rfl rfl ?_
  refine RL.op (.free rfl) rfl rfl (Does.call rfl e161 (endT_ok (h.grow hg2))) ?_
  rintro _ _ ⟨rfl, rfl⟩
  iterate 5 refine RL.p rfl rfl ?_
  refine RL.done ?_
  refine RK.seq ?_
  refine RK.region ?_
  iterate 3 refine RL.p rfl rfl ?_
  refine RL.knownF (d := 17) rfl rfl (rfl) ?_
  iterate 2 refine RL.q (.yes rfl rfl rfl) rfl rfl (Yld.pure rfl) ?_
  refine RL.q (.yes rfl rfl rfl) rfl rfl (Yld.lenSl u43 rfl) ?_
  refine RL.q (.yes rfl rfl rfl) rfl rfl (Yld.pure rfl) ?_
  refine RL.p rfl rfl ?_
  refine RL.done ?_
  refine RK.condF (hcF rfl (by first | rfl | decide | simp)) ?_
  refine RK.skip ?_
  refine RK.seq ?_
  refine RK.region ?_
  refine RL.q (.free rfl) rfl rfl (Yld.loadN (cs := reqQ a1 c1 a2 c2 none 0) a39 rfl (atN (blkV (hn3.blk.mod hn6.grow (fun h => h))))) ?_
  refine RL.op' (.free rfl) rfl (Does.storeN i39 rfl rfl rfl rfl hn6.blk (Nat.le_refl 19)) ?_
  rintro _ w4 ⟨hb4, hm4, hs4⟩
  refine RL.p rfl rfl ?_
  refine RL.done ?_
  refine RK.ret_of Tryz.func81 (resCT (cs := reqQ a1 c1 a2 c2 none 0) rfl rfl a39 hb4 rfl) ?_ _
  exact ⟨_, rfl, rfl, hg2.then hm4 (fun b hb e => by have e' : b = b6 := e; have := hn6.at_; have := hn3.grow.size; omega)⟩
end
theorem readBodyQ_ok (w : World) (ad : Option Addr) (c : Nat) (hv : Sl No w (.slice ad 15 c) 1 15 (bytesV bodyQ)) (hcap : 15 ≤ c) : Fx Tryz.prog 182 [.slice ad 15 c] w (fun u w' => ∃ a1 c1 a2 c2, u = .tuple #[.agg (reqQ a1 c1 a2 c2 none 0).toArray, .bool true] ∧ Grow w w') := by
  have hs := hv.off (M' := (w.heap.size ≤ ·)) (by omega) (fun b hb e => by omega)
  refine enter Tryz.func182 rfl rfl rfl _ (Pick.sub (l := [0]) (.cons rfl .nil)) ?_
  refine RK.seq ?_
  refine RK.region ?_
  refine RL.op (.free rfl) rfl rfl (Does.alloc i39) ?_
  rintro _ w2 ⟨b2, rfl, hn2⟩
  have ha2 := hn2.at_
  have hz2 := hn2.size
  refine RL.p rfl rfl ?_
  refine RL.done ?_
  refine RK.seq ?_
  refine RK.region ?_
  refine RL.p rfl rfl ?_
  refine RL.op (.free rfl) rfl rfl (Does.call rfl e77 (pnew_ok w.heap.size w2 ad c bodyQ (hs.mod (Mod.any' hn2.grow)) (by omega) hcap)) ?_
  rintro _ w3 ⟨p, rfl, hp, h3, hg3⟩
  have hz3 := hg3.size
  have hplt := h3.blk.lt
  have hg03 := hn2.grow.trans hg3
  refine RL.p rfl rfl ?_
  refine RL.done ?_
  refine RK.seq ?_
  refine RK.region ?_
  refine RL.p rfl rfl ?_
  refine RL.op (.free rfl) rfl rfl (Does.call rfl e80 (reqReadQ_ok h3 rfl)) ?_
  rintro _ w6 ⟨a1, c1, a2, c2, rfl, h6, hm6⟩
  have hg06 := hg03.then hm6 (fun b hb e => by have e' : b = p := e; omega)
  iterate 2 refine RL.p rfl rfl ?_
  refine RL.op (.free rfl) rfl rfl (Does.call rfl e81 (wholeQ_ok (bs := bodyQ) h6 _ _ _ _ _)) ?_
  rintro _ w10 ⟨rfl, hg10⟩
  have hq : Mod (b2 < ·) w2 w10 := ((Mod.any' hg3).trans (hm6.mono fun b _ e => by have e' : b = p := e; omega)).trans (Mod.any' hg10)
  iterate 2 refine RL.p rfl rfl ?_
  refine RL.op' (.free rfl) rfl (Does.storeN i39 rfl rfl rfl rfl (hn2.blk.mod hq (fun e => Nat.lt_irrefl _ e)) (Nat.le_refl 19)) ?_
  rintro _ w11 ⟨hb11, hm11, hs11⟩
  refine RL.p rfl rfl ?_
  refine RL.done ?_
  refine RK.ret_of Tryz.func182 (resCT (cs := reqQ a1 c1 a2 c2 none 0) rfl rfl a39 hb11 rfl) ?_ _
  exact ⟨_, rfl, a1, c1, a2, c2, rfl, (hg06.trans hg10).then hm11 (fun b hb e => by have e' : b = b2 := e; omega)⟩
end Go.Proofs.YtnnmgfnhblbolaaGreatDoor
set_option linter.unusedVariables false
set_option linter.unusedSimpArgs false
set_option maxHeartbeats 6400000
set_option maxRecDepth 100000
namespace Go.Proofs.YtnnmgfnhblbolaaGreatDoor
open Go Go.X
@[reducible] def recQ (i : Nat) (v : Value) (code : Int) : List Value := [.int .i64 (i : Int), .int .u64 0, v, .int .i64 code]
theorem recIsQ0_ok (i : Nat) (hi : i ≤ 1000) (ad : Option Addr) (c : Nat) (w : World) (hv : Sl No w (.slice ad 15 c) 1 15 (bytesV bodyQ)) (hcap : 15 ≤ c) : Fx Tryz.prog 109 [.agg (recQ i (.slice ad 15 c) 0).toArray] w (fun u w' => u = .bool true ∧ Grow w w') := by
  refine enter Tryz.func109 rfl rfl rfl _ (Pick.sub (l := [0]) (.cons rfl .nil)) ?_
  refine RK.seq ?_
  refine RK.region ?_
  refine RL.op (.free rfl) rfl rfl (Does.box rfl) ?_
  rintro _ w1 ⟨b1, rfl, hn1⟩
  have hB : Blk w1 b1 188 (recQ i (.slice ad 15 c) 0) := hn1.blk
  refine RL.p rfl rfl ?_
  refine RL.done ?_
  iterate 2 refine RK.seq ?_
  refine RK.region ?_
  refine RL.q (.free rfl) rfl rfl (Yld.fieldAddr fo188_0 rfl) ?_
  refine RL.q (.free rfl) rfl rfl (Yld.load p3 rfl (at1 (hB.cell rfl))) ?_
  iterate 2 refine RL.p rfl rfl ?_
  refine RL.knownF (d := 8) rfl rfl (decide_eq_false (by omega)) ?_
  refine RL.q (.yes rfl rfl rfl) rfl rfl (Yld.fieldAddr fo188_0 rfl) ?_
  refine RL.q (.yes rfl rfl rfl) rfl rfl (Yld.load p3 rfl (at1 (hB.cell rfl))) ?_
  refine RL.q (.yes rfl rfl rfl) rfl rfl (Yld.pure rfl) ?_
  iterate 2 refine RL.p rfl rfl ?_
  refine RL.knownF (d := 13) rfl rfl (decide_eq_false (by omega)) ?_
  refine RL.q (.yes rfl rfl rfl) rfl rfl (Yld.fieldAddr fo188_1 rfl) ?_
  refine RL.q (.yes rfl rfl rfl) rfl rfl (Yld.load p24 rfl (at1 (hB.cell rfl))) ?_
  refine RL.q (.yes rfl rfl rfl) rfl rfl (Yld.pure rfl) ?_
  refine RL.p rfl rfl ?_
  refine RL.done ?_
  refine RK.condF (hcF rfl (rfl)) ?_
  refine RK.skip ?_
  refine RK.seq ?_
  refine RK.region ?_
  refine RL.q (.free rfl) rfl rfl (Yld.fieldAddr fo188_2 rfl) ?_
  refine RL.q (.free rfl) rfl rfl (Yld.load p43 rfl (at1 (hB.cell rfl))) ?_
  refine RL.op (.free rfl) rfl rfl (Does.call rfl e182 (readBodyQ_ok _ ad c (hv.mod hn1.grow) hcap)) ?_
  rintro _ w2 ⟨a1, c1, a2, c2, rfl, hg2⟩
  iterate 3 refine RL.p rfl rfl ?_
  refine RL.op (.free rfl) rfl rfl (Does.alloc i39) ?_
  rintro _ w3 ⟨b3, rfl, hn3⟩
  have ha3 := hn3.at_
  refine RL.op' (.free rfl) rfl (Does.storeN i39 rfl rfl rfl rfl hn3.blk (Nat.le_refl 19)) ?_
  rintro _ w4 ⟨hb4, hm4, hs4⟩
  have hg14 : Grow w1 w4 := (hg2.trans hn3.grow).then hm4 (fun x hx e => by have e' : x = b3 := e; have := hg2.size; omega)
  refine RL.p rfl rfl ?_
  refine RL.done ?_
  refine RK.seq ?_
  refine RK.region ?_
  iterate 2 refine RL.p rfl rfl ?_
  refine RL.knownT (d := 25) rfl rfl (rfl) ?_
  refine RL.q (.yes rfl rfl rfl) rfl rfl (Yld.fieldAddr fo188_3 rfl) ?_
  refine RL.q (.yes rfl rfl rfl) rfl rfl (Yld.load p40 rfl (at1 ((hB.mod hg14 (fun h => h)).cell rfl))) ?_
  iterate 2 refine RL.q (.yes rfl rfl rfl) rfl rfl (Yld.pure rfl) ?_
  refine RL.knownT (d := 29) rfl rfl (rfl) ?_
  iterate 8 refine RL.no (.no rfl rfl rfl rfl) rfl rfl ?_
  refine RL.q (.yes rfl rfl rfl) rfl rfl (Yld.pure rfl) ?_
  iterate 2 refine RL.p rfl rfl ?_
  refine RL.done ?_
  refine RK.ret_of Tryz.func109 (res1 rfl rfl) ?_ _
  exact ⟨_, rfl, rfl, hn1.grow.trans hg14⟩
theorem recIsQ6_ok (i : Nat) (hi : i ≤ 1000) (ad : Option Addr) (c : Nat) (w : World) (hv : Sl No w (.slice ad 15 c) 1 15 (bytesV bodyQ)) (hcap : 15 ≤ c) : Fx Tryz.prog 109 [.agg (recQ i (.slice ad 15 c) 6).toArray] w (fun u w' => u = .bool true ∧ Grow w w') := by
  refine enter Tryz.func109 rfl rfl rfl _ (Pick.sub (l := [0]) (.cons rfl .nil)) ?_
  refine RK.seq ?_
  refine RK.region ?_
  refine RL.op (.free rfl) rfl rfl (Does.box rfl) ?_
  rintro _ w1 ⟨b1, rfl, hn1⟩
  have hB : Blk w1 b1 188 (recQ i (.slice ad 15 c) 6) := hn1.blk
  refine RL.p rfl rfl ?_
  refine RL.done ?_
  iterate 2 refine RK.seq ?_
  refine RK.region ?_
  refine RL.q (.free rfl) rfl rfl (Yld.fieldAddr fo188_0 rfl) ?_
  refine RL.q (.free rfl) rfl rfl (Yld.load p3 rfl (at1 (hB.cell rfl))) ?_
  iterate 2 refine RL.p rfl rfl ?_
  refine RL.knownF (d := 8) rfl rfl (decide_eq_false (by omega)) ?_
  refine RL.q (.yes rfl rfl rfl) rfl rfl (Yld.fieldAddr fo188_0 rfl) ?_
  refine RL.q (.yes rfl rfl rfl) rfl rfl (Yld.load p3 rfl (at1 (hB.cell rfl))) ?_
  refine RL.q (.yes rfl rfl rfl) rfl rfl (Yld.pure rfl) ?_
  iterate 2 refine RL.p rfl rfl ?_
  refine RL.knownF (d := 13) rfl rfl (decide_eq_false (by omega)) ?_
  refine RL.q (.yes rfl rfl rfl) rfl rfl (Yld.fieldAddr fo188_1 rfl) ?_
  refine RL.q (.yes rfl rfl rfl) rfl rfl (Yld.load p24 rfl (at1 (hB.cell rfl))) ?_
  refine RL.q (.yes rfl rfl rfl) rfl rfl (Yld.pure rfl) ?_
  refine RL.p rfl rfl ?_
  refine RL.done ?_
  refine RK.condF (hcF rfl (rfl)) ?_
  refine RK.skip ?_
  refine RK.seq ?_
  refine RK.region ?_
  refine RL.q (.free rfl) rfl rfl (Yld.fieldAddr fo188_2 rfl) ?_
  refine RL.q (.free rfl) rfl rfl (Yld.load p43 rfl (at1 (hB.cell rfl))) ?_
  refine RL.op (.free rfl) rfl rfl (Does.call rfl e182 (readBodyQ_ok _ ad c (hv.mod hn1.grow) hcap)) ?_
  rintro _ w2 ⟨a1, c1, a2, c2, rfl, hg2⟩
  iterate 3 refine RL.p rfl rfl ?_
  refine RL.op (.free rfl) rfl rfl (Does.alloc i39) ?_
  rintro _ w3 ⟨b3, rfl, hn3⟩
  have ha3 := hn3.at_
  refine RL.op' (.free rfl) rfl (Does.storeN i39 rfl rfl rfl rfl hn3.blk (Nat.le_refl 19)) ?_
  rintro _ w4 ⟨hb4, hm4, hs4⟩
  have hg14 : Grow w1 w4 := (hg2.trans hn3.grow).then hm4 (fun x hx e => by have e' : x = b3 := e; have := hg2.size; omega)
  refine RL.p rfl rfl ?_
  refine RL.done ?_
  refine RK.seq ?_
  refine RK.region ?_
  iterate 2 refine RL.p rfl rfl ?_
  refine RL.knownT (d := 25) rfl rfl (rfl) ?_
  refine RL.q (.yes rfl rfl rfl) rfl rfl (Yld.fieldAddr fo188_3 rfl) ?_
  refine RL.q (.yes rfl rfl rfl) rfl rfl (Yld.load p40 rfl (at1 ((hB.mod hg14 (fun h => h)).cell rfl))) ?_
  iterate 2 refine RL.q (.yes rfl rfl rfl) rfl rfl (Yld.pure rfl) ?_
  refine RL.knownF (d := 29) rfl rfl (rfl) ?_
  refine RL.q (.yes rfl rfl rfl) rfl rfl (Yld.fieldAddr fo188_3 rfl) ?_
  refine RL.q (.yes rfl rfl rfl) rfl rfl (Yld.load p40 rfl (at1 ((hB.mod hg14 (fun h => h)).cell rfl))) ?_
  iterate 2 refine RL.q (.yes rfl rfl rfl) rfl rfl (Yld.pure rfl) ?_
  refine RL.knownT (d := 33) rfl rfl (rfl) ?_
  refine RL.q (.yes rfl rfl rfl) rfl rfl (Yld.fieldAddr fo188_3 rfl) ?_
  refine RL.q (.yes rfl rfl rfl) rfl rfl (Yld.load p40 rfl (at1 ((hB.mod hg14 (fun h => h)).cell rfl))) ?_
  iterate 3 refine RL.q (.yes rfl rfl rfl) rfl rfl (Yld.pure rfl) ?_
  iterate 2 refine RL.p rfl rfl ?_
  refine RL.done ?_
  refine RK.ret_of Tryz.func109 (res1 rfl rfl) ?_ _
  exact ⟨_, rfl, rfl, hn1.grow.trans hg14⟩
theorem recBytesQ0_ok (i : Nat) (hi : i ≤ 1000) (ad : Option Addr) (c : Nat) (w : World) (hv : Sl No w (.slice ad 15 c) 1 15 (bytesV bodyQ)) (hcap : 15 ≤ c) : Fx Tryz.prog 107 [.agg (recQ i (.slice ad 15 c) 0).toArray] w (fun u w' => ∃ n, n ≤ 100 ∧ By w' n u ∧ Grow w w') := by
  have hp1 := putB_len i (by omega)
  have hp2 := putB_len 0 (by omega)
  have hp3 : (putT ⟨bodyQ.toArray⟩).length ≤ 35 := by
    unfold putT; rw [List.length_append]; have := putB_len 15 (by decide); have e : (⟨bodyQ.toArray⟩ : ByteArray).size = 15 := rfl; rw [e]; simp [bodyQ, rbQ]; omega
  have hp4 : sumB [(Value.int .u8 0, (putB i).length), (Value.int .u8 0, (putB 0).length), (Value.int .u8 0, (putT ⟨bodyQ.toArray⟩).length), (Value.int .u8 0, 1)] ≤ 100 := by simp [sumB]; omega
  refine enter Tryz.func107 rfl rfl rfl _ (Pick.sub (l := [0]) (.cons rfl .nil)) ?_
  refine RK.seq ?_
  refine RK.region ?_
  refine RL.op (.free rfl) rfl rfl (Does.box rfl) ?_
  rintro _ w1 ⟨b1, rfl, hn1⟩
  have hB : Blk w1 b1 188 (recQ i (.slice ad 15 c) 0) := hn1.blk
  refine RL.p rfl rfl ?_
  refine RL.done ?_
  iterate 2 refine RK.seq ?_
  refine RK.region ?_
  refine RL.q (.free rfl) rfl rfl (Yld.loadN (cs := recQ i (.slice ad 15 c) 0) a188 rfl (atN (blkV hB))) ?_
  refine RL.op (.free rfl) rfl rfl (Does.call rfl e109 (recIsQ0_ok i hi ad c _ (hv.mod hn1.grow) hcap)) ?_
  rintro _ w2 ⟨rfl, hg2⟩
  have hB2 := hB.mod hg2 (fun h => h)
  have hv2 := (hv.mod hn1.grow).mod hg2
  have hBd := hB2.mod (Mod.drew No _) (fun h => h)
  refine RL.p rfl rfl ?_
  refine RL.done ?_
  refine RK.condF (hcF rfl (rfl)) ?_
  refine RK.skip ?_
  refine RK.seq ?_
  refine RK.drawT No (.op 0 false (.op 1 false (.op 2 false (.op 4 false (.op 5 false (.op 7 false (.op 8 false (.op 9 false (.op 11 false (.op 12 false (.op 13 false (.fork 3 (.fork 6 (.fork 10 (.op 14 true (.op 15 true (.op 16 true (.op 17 false .nil)))) 14 (.op 10 true (.op 15 true (.op 16 true (.op 17 false .nil))))) 14 (.op 6 true (.op 10 true (.op 15 true (.op 16 true (.op 17 false .nil)))))) 14 (.op 3 true (.op 6 true (.op 10 true (.op 15 true (.op 16 true (.op 17 false .nil)))))))))))))))))) [] mixed (by kernel_rfl) ?_
  refine DT.qf rfl (.free rfl) rfl rfl (Yld.fieldAddr fo188_0 rfl) ?_
  refine DT.q rfl (.free rfl) rfl rfl rfl (Yld.load p3 rfl (atM (hBd.cell rfl) id)) (Mod.drew _ _) ?_
  refine DT.qf rfl (.free rfl) rfl rfl (Yld.convI Tryz.underlying3 Tryz.underlying24 rfl) ?_
  refine DT.re (d := 8) rfl rfl (congrArg (Value.int .u64) (wrap_u64 (x := i) (by omega))) ?_
  refine DT.qf rfl (.free rfl) rfl rfl (Yld.fieldAddr fo188_1 rfl) ?_
  refine DT.q rfl (.free rfl) rfl rfl rfl (Yld.load p24 rfl (atM (hBd.cell rfl) id)) (Mod.drew _ _) ?_
  refine DT.qf rfl (.free rfl) rfl rfl (Yld.fieldAddr fo188_2 rfl) ?_
  refine DT.q rfl (.free rfl) rfl rfl rfl (Yld.load p43 rfl (atM (hBd.cell rfl) id)) (Mod.drew _ _) ?_
  refine DT.q rfl (.free rfl) rfl rfl rfl (Yld.bytesSl (l := bodyQ) u43 Tryz.underlying5 Tryz.underlying9 rfl (fun w9 h9 => hv2.mod h9)) (Mod.drew _ _) ?_
  refine DT.qf rfl (.free rfl) rfl rfl (Yld.fieldAddr fo188_3 rfl) ?_
  refine DT.q rfl (.free rfl) rfl rfl rfl (Yld.load p40 rfl (atM (hBd.cell rfl) id)) (Mod.drew _ _) ?_
  refine DT.qf rfl (.free rfl) rfl rfl (Yld.convI Tryz.underlying40 Tryz.underlying5 rfl) ?_
  refine DT.fork ?_ ?_
  · refine DT.op rfl (.free rfl) rfl rfl (Does.call rfl e86 (vput_ok i (by omega) _)) ?_
    rintro u21 w21 ⟨hr21, hf21, hg21⟩
    have hy21 := By.rowB hr21
    obtain ⟨a21, c21, rfl⟩ := hy21.shape
    refine ⟨(Mod.drew No _).trans hg21, ?_⟩
    refine DT.fork ?_ ?_
    · refine DT.op rfl (.free rfl) rfl rfl (Does.call rfl e86 (vput_ok 0 (by omega) _)) ?_
      rintro u22 w22 ⟨hr22, hf22, hg22⟩
      have hy22 := By.rowB hr22
      obtain ⟨a22, c22, rfl⟩ := hy22.shape
      refine ⟨((Mod.drew No _).trans hg21).trans hg22, ?_⟩
      refine DT.fork ?_ ?_
      · refine DT.op rfl (.free rfl) rfl rfl (Does.call rfl e89 (putT_ok ⟨bodyQ.toArray⟩ (by decide) _)) ?_
        rintro u23 w23 ⟨hr23, hf23, hg23⟩
        have hy23 := By.rowB hr23
        obtain ⟨a23, c23, rfl⟩ := hy23.shape
        refine ⟨(((Mod.drew No _).trans hg21).trans hg22).trans hg23, ?_⟩
        refine DT.op rfl (.free rfl) rfl rfl (Does.bslice (el := 5) ([.int .u8 0]) rfl (fun w => by kernel_rfl)) ?_
        rintro _ w24 ⟨b24, rfl, hn24⟩
        have hy24 : By w24 1 (.slice (some ⟨b24, 0, none⟩) 1 1) := By.rowB (l := [0]) (Row.new hn24 1 1 rfl (by decide))
        refine ⟨((((Mod.drew No _).trans hg21).trans hg22).trans hg23).trans hn24.grow, ?_⟩
        refine DT.op rfl (.free rfl) rfl rfl (Does.bslice (el := 43) ([.slice a21 (putB i).length c21, .slice a22 (putB 0).length c22, .slice a23 (putT ⟨bodyQ.toArray⟩).length c23, .slice (some ⟨b24, 0, none⟩) 1 1]) rfl (fun w => by kernel_rfl)) ?_
        rintro _ wT ⟨bT, rfl, hnT⟩
        refine ⟨(((((Mod.drew No _).trans hg21).trans hg22).trans hg23).trans hn24.grow).trans hnT.grow, ?_⟩
        have hpr : ∀ p ∈ [((.slice a21 (putB i).length c21 : Value), (putB i).length), ((.slice a22 (putB 0).length c22 : Value), (putB 0).length), ((.slice a23 (putT ⟨bodyQ.toArray⟩).length c23 : Value), (putT ⟨bodyQ.toArray⟩).length), ((.slice (some ⟨b24, 0, none⟩) 1 1 : Value), 1)], By wT p.2 p.1 := by
            intro p hp
            simp only [List.mem_cons, List.not_mem_nil, or_false] at hp
            rcases hp with rfl | rfl | rfl | rfl
            · exact hy21.grow ((((hg22).trans hg23).trans hn24.grow).trans hnT.grow)
            · exact hy22.grow (((hg23).trans hn24.grow).trans hnT.grow)
            · exact hy23.grow ((hn24.grow).trans hnT.grow)
            · exact hy24.grow (hnT.grow)
        refine DT.op rfl (.free rfl) rfl rfl (Does.call rfl e100 (concatW _ _ No _ (Sl.new hnT 1 4 rfl (by decide) (fun h => h)) hpr (Nat.le_trans hp4 (by decide)))) ?_
        rintro uZ wZ ⟨hyZ, hfZ, hgZ⟩
        refine ⟨((((((Mod.drew No _).trans hg21).trans hg22).trans hg23).trans hn24.grow).trans hnT.grow).trans hgZ, ?_⟩
        refine DT.p rfl rfl rfl ?_
        refine DT.done ?_
        refine RK.ret_of Tryz.func107 (res1 rfl rfl) ?_ _
        exact ⟨_, rfl, _, hp4, hyZ, (hn1.grow.trans hg2).trans (((((((Mod.drew No _).trans hg21).trans hg22).trans hg23).trans hn24.grow).trans hnT.grow).trans hgZ)⟩
      · refine DT.op rfl (.free rfl) rfl rfl (Does.bslice (el := 5) ([.int .u8 0]) rfl (fun w => by kernel_rfl)) ?_
        rintro _ w23 ⟨b23, rfl, hn23⟩
        have hy23 : By w23 1 (.slice (some ⟨b23, 0, none⟩) 1 1) := By.rowB (l := [0]) (Row.new hn23 1 1 rfl (by decide))
        refine ⟨(((Mod.drew No _).trans hg21).trans hg22).trans hn23.grow, ?_⟩
        refine DT.op rfl (.free rfl) rfl rfl (Does.call rfl e89 (putT_ok ⟨bodyQ.toArray⟩ (by decide) _)) ?_
        rintro u24 w24 ⟨hr24, hf24, hg24⟩
        have hy24 := By.rowB hr24
        obtain ⟨a24, c24, rfl⟩ := hy24.shape
        refine ⟨((((Mod.drew No _).trans hg21).trans hg22).trans hn23.grow).trans hg24, ?_⟩
        refine DT.op rfl (.free rfl) rfl rfl (Does.bslice (el := 43) ([.slice a21 (putB i).length c21, .slice a22 (putB 0).length c22, .slice a24 (putT ⟨bodyQ.toArray⟩).length c24, .slice (some ⟨b23, 0, none⟩) 1 1]) rfl (fun w => by kernel_rfl)) ?_
        rintro _ wT ⟨bT, rfl, hnT⟩
        refine ⟨(((((Mod.drew No _).trans hg21).trans hg22).trans hn23.grow).trans hg24).trans hnT.grow, ?_⟩
        have hpr : ∀ p ∈ [((.slice a21 (putB i).length c21 : Value), (putB i).length), ((.slice a22 (putB 0).length c22 : Value), (putB 0).length), ((.slice a24 (putT ⟨bodyQ.toArray⟩).length c24 : Value), (putT ⟨bodyQ.toArray⟩).length), ((.slice (some ⟨b23, 0, none⟩) 1 1 : Value), 1)], By wT p.2 p.1 := by
            intro p hp
            simp only [List.mem_cons, List.not_mem_nil, or_false] at hp
            rcases hp with rfl | rfl | rfl | rfl
            · exact hy21.grow ((((hg22).trans hn23.grow).trans hg24).trans hnT.grow)
            · exact hy22.grow (((hn23.grow).trans hg24).trans hnT.grow)
            · exact hy24.grow (hnT.grow)
            · exact hy23.grow ((hg24).trans hnT.grow)
        refine DT.op rfl (.free rfl) rfl rfl (Does.call rfl e100 (concatW _ _ No _ (Sl.new hnT 1 4 rfl (by decide) (fun h => h)) hpr (Nat.le_trans hp4 (by decide)))) ?_
        rintro uZ wZ ⟨hyZ, hfZ, hgZ⟩
        refine ⟨((((((Mod.drew No _).trans hg21).trans hg22).trans hn23.grow).trans hg24).trans hnT.grow).trans hgZ, ?_⟩
        refine DT.p rfl rfl rfl ?_
        refine DT.done ?_
        refine RK.ret_of Tryz.func107 (res1 rfl rfl) ?_ _
        exact ⟨_, rfl, _, hp4, hyZ, (hn1.grow.trans hg2).trans (((((((Mod.drew No _).trans hg21).trans hg22).trans hn23.grow).trans hg24).trans hnT.grow).trans hgZ)⟩
    · refine DT.op rfl (.free rfl) rfl rfl (Does.bslice (el := 5) ([.int .u8 0]) rfl (fun w => by kernel_rfl)) ?_
      rintro _ w22 ⟨b22, rfl, hn22⟩
      have hy22 : By w22 1 (.slice (some ⟨b22, 0, none⟩) 1 1) := By.rowB (l := [0]) (Row.new hn22 1 1 rfl (by decide))
      refine ⟨((Mod.drew No _).trans hg21).trans hn22.grow, ?_⟩
      refine DT.op rfl (.free rfl) rfl rfl (Does.call rfl e86 (vput_ok 0 (by omega) _)) ?_
      rintro u23 w23 ⟨hr23, hf23, hg23⟩
      have hy23 := By.rowB hr23
      obtain ⟨a23, c23, rfl⟩ := hy23.shape
      refine ⟨(((Mod.drew No _).trans hg21).trans hn22.grow).trans hg23, ?_⟩
      refine DT.op rfl (.free rfl) rfl rfl (Does.call rfl e89 (putT_ok ⟨bodyQ.toArray⟩ (by decide) _)) ?_
      rintro u24 w24 ⟨hr24, hf24, hg24⟩
      have hy24 := By.rowB hr24
      obtain ⟨a24, c24, rfl⟩ := hy24.shape
      refine ⟨((((Mod.drew No _).trans hg21).trans hn22.grow).trans hg23).trans hg24, ?_⟩
      refine DT.op rfl (.free rfl) rfl rfl (Does.bslice (el := 43) ([.slice a21 (putB i).length c21, .slice a23 (putB 0).length c23, .slice a24 (putT ⟨bodyQ.toArray⟩).length c24, .slice (some ⟨b22, 0, none⟩) 1 1]) rfl (fun w => by kernel_rfl)) ?_
      rintro _ wT ⟨bT, rfl, hnT⟩
      refine ⟨(((((Mod.drew No _).trans hg21).trans hn22.grow).trans hg23).trans hg24).trans hnT.grow, ?_⟩
      have hpr : ∀ p ∈ [((.slice a21 (putB i).length c21 : Value), (putB i).length), ((.slice a23 (putB 0).length c23 : Value), (putB 0).length), ((.slice a24 (putT ⟨bodyQ.toArray⟩).length c24 : Value), (putT ⟨bodyQ.toArray⟩).length), ((.slice (some ⟨b22, 0, none⟩) 1 1 : Value), 1)], By wT p.2 p.1 := by
          intro p hp
          simp only [List.mem_cons, List.not_mem_nil, or_false] at hp
          rcases hp with rfl | rfl | rfl | rfl
          · exact hy21.grow ((((hn22.grow).trans hg23).trans hg24).trans hnT.grow)
          · exact hy23.grow ((hg24).trans hnT.grow)
          · exact hy24.grow (hnT.grow)
          · exact hy22.grow (((hg23).trans hg24).trans hnT.grow)
      refine DT.op rfl (.free rfl) rfl rfl (Does.call rfl e100 (concatW _ _ No _ (Sl.new hnT 1 4 rfl (by decide) (fun h => h)) hpr (Nat.le_trans hp4 (by decide)))) ?_
      rintro uZ wZ ⟨hyZ, hfZ, hgZ⟩
      refine ⟨((((((Mod.drew No _).trans hg21).trans hn22.grow).trans hg23).trans hg24).trans hnT.grow).trans hgZ, ?_⟩
      refine DT.p rfl rfl rfl ?_
      refine DT.done ?_
      refine RK.ret_of Tryz.func107 (res1 rfl rfl) ?_ _
      exact ⟨_, rfl, _, hp4, hyZ, (hn1.grow.trans hg2).trans (((((((Mod.drew No _).trans hg21).trans hn22.grow).trans hg23).trans hg24).trans hnT.grow).trans hgZ)⟩
  · refine DT.op rfl (.free rfl) rfl rfl (Does.bslice (el := 5) ([.int .u8 0]) rfl (fun w => by kernel_rfl)) ?_
    rintro _ w21 ⟨b21, rfl, hn21⟩
    have hy21 : By w21 1 (.slice (some ⟨b21, 0, none⟩) 1 1) := By.rowB (l := [0]) (Row.new hn21 1 1 rfl (by decide))
    refine ⟨(Mod.drew No _).trans hn21.grow, ?_⟩
    refine DT.op rfl (.free rfl) rfl rfl (Does.call rfl e86 (vput_ok i (by omega) _)) ?_
    rintro u22 w22 ⟨hr22, hf22, hg22⟩
    have hy22 := By.rowB hr22
    obtain ⟨a22, c22, rfl⟩ := hy22.shape
    refine ⟨((Mod.drew No _).trans hn21.grow).trans hg22, ?_⟩
    refine DT.op rfl (.free rfl) rfl rfl (Does.call rfl e86 (vput_ok 0 (by omega) _)) ?_
    rintro u23 w23 ⟨hr23, hf23, hg23⟩
    have hy23 := By.rowB hr23
    obtain ⟨a23, c23, rfl⟩ := hy23.shape
    refine ⟨(((Mod.drew No _).trans hn21.grow).trans hg22).trans hg23, ?_⟩
    refine DT.op rfl (.free rfl) rfl rfl (Does.call rfl e89 (putT_ok ⟨bodyQ.toArray⟩ (by decide) _)) ?_
    rintro u24 w24 ⟨hr24, hf24, hg24⟩
    have hy24 := By.rowB hr24
    obtain ⟨a24, c24, rfl⟩ := hy24.shape
    refine ⟨((((Mod.drew No _).trans hn21.grow).trans hg22).trans hg23).trans hg24, ?_⟩
    refine DT.op rfl (.free rfl) rfl rfl (Does.bslice (el := 43) ([.slice a22 (putB i).length c22, .slice a23 (putB 0).length c23, .slice a24 (putT ⟨bodyQ.toArray⟩).length c24, .slice (some ⟨b21, 0, none⟩) 1 1]) rfl (fun w => by kernel_rfl)) ?_
    rintro _ wT ⟨bT, rfl, hnT⟩
    refine ⟨(((((Mod.drew No _).trans hn21.grow).trans hg22).trans hg23).trans hg24).trans hnT.grow, ?_⟩
    have hpr : ∀ p ∈ [((.slice a22 (putB i).length c22 : Value), (putB i).length), ((.slice a23 (putB 0).length c23 : Value), (putB 0).length), ((.slice a24 (putT ⟨bodyQ.toArray⟩).length c24 : Value), (putT ⟨bodyQ.toArray⟩).length), ((.slice (some ⟨b21, 0, none⟩) 1 1 : Value), 1)], By wT p.2 p.1 := by
        intro p hp
        simp only [List.mem_cons, List.not_mem_nil, or_false] at hp
        rcases hp with rfl | rfl | rfl | rfl
        · exact hy22.grow (((hg23).trans hg24).trans hnT.grow)
        · exact hy23.grow ((hg24).trans hnT.grow)
        · exact hy24.grow (hnT.grow)
        · exact hy21.grow ((((hg22).trans hg23).trans hg24).trans hnT.grow)
    refine DT.op rfl (.free rfl) rfl rfl (Does.call rfl e100 (concatW _ _ No _ (Sl.new hnT 1 4 rfl (by decide) (fun h => h)) hpr (Nat.le_trans hp4 (by decide)))) ?_
    rintro uZ wZ ⟨hyZ, hfZ, hgZ⟩
    refine ⟨((((((Mod.drew No _).trans hn21.grow).trans hg22).trans hg23).trans hg24).trans hnT.grow).trans hgZ, ?_⟩
    refine DT.p rfl rfl rfl ?_
    refine DT.done ?_
    refine RK.ret_of Tryz.func107 (res1 rfl rfl) ?_ _
    exact ⟨_, rfl, _, hp4, hyZ, (hn1.grow.trans hg2).trans (((((((Mod.drew No _).trans hn21.grow).trans hg22).trans hg23).trans hg24).trans hnT.grow).trans hgZ)⟩
theorem recBytesQ6_ok (i : Nat) (hi : i ≤ 1000) (ad : Option Addr) (c : Nat) (w : World) (hv : Sl No w (.slice ad 15 c) 1 15 (bytesV bodyQ)) (hcap : 15 ≤ c) : Fx Tryz.prog 107 [.agg (recQ i (.slice ad 15 c) 6).toArray] w (fun u w' => ∃ n, n ≤ 100 ∧ By w' n u ∧ Grow w w') := by
  have hp1 := putB_len i (by omega)
  have hp2 := putB_len 0 (by omega)
  have hp3 : (putT ⟨bodyQ.toArray⟩).length ≤ 35 := by
    unfold putT; rw [List.length_append]; have := putB_len 15 (by decide); have e : (⟨bodyQ.toArray⟩ : ByteArray).size = 15 := rfl; rw [e]; simp [bodyQ, rbQ]; omega
  have hp4 : sumB [(Value.int .u8 0, (putB i).length), (Value.int .u8 0, (putB 0).length), (Value.int .u8 0, (putT ⟨bodyQ.toArray⟩).length), (Value.int .u8 0, 1)] ≤ 100 := by simp [sumB]; omega
  refine enter Tryz.func107 rfl rfl rfl _ (Pick.sub (l := [0]) (.cons rfl .nil)) ?_
  refine RK.seq ?_
  refine RK.region ?_
  refine RL.op (.free rfl) rfl rfl (Does.box rfl) ?_
  rintro _ w1 ⟨b1, rfl, hn1⟩
  have hB : Blk w1 b1 188 (recQ i (.slice ad 15 c) 6) := hn1.blk
  refine RL.p rfl rfl ?_
  refine RL.done ?_
  iterate 2 refine RK.seq ?_
  refine RK.region ?_
  refine RL.q (.free rfl) rfl rfl (Yld.loadN (cs := recQ i (.slice ad 15 c) 6) a188 rfl (atN (blkV hB))) ?_
  refine RL.op (.free rfl) rfl rfl (Does.call rfl e109 (recIsQ6_ok i hi ad c _ (hv.mod hn1.grow) hcap)) ?_
  rintro _ w2 ⟨rfl, hg2⟩
  have hB2 := hB.mod hg2 (fun h => h)
  have hv2 := (hv.mod hn1.grow).mod hg2
  have hBd := hB2.mod (Mod.drew No _) (fun h => h)
  refine RL.p rfl rfl ?_
  refine RL.done ?_
  refine RK.condF (hcF rfl (rfl)) ?_
  refine RK.skip ?_
  refine RK.seq ?_
  refine RK.drawT No (.op 0 false (.op 1 false (.op 2 false (.op 4 false (.op 5 false (.op 7 false (.op 8 false (.op 9 false (.op 11 false (.op 12 false (.op 13 false (.fork 3 (.fork 6 (.fork 10 (.op 14 true (.op 15 true (.op 16 true (.op 17 false .nil)))) 14 (.op 10 true (.op 15 true (.op 16 true (.op 17 false .nil))))) 14 (.op 6 true (.op 10 true (.op 15 true (.op 16 true (.op 17 false .nil)))))) 14 (.op 3 true (.op 6 true (.op 10 true (.op 15 true (.op 16 true (.op 17 false .nil)))))))))))))))))) [] mixed (by kernel_rfl) ?_
  refine DT.qf rfl (.free rfl) rfl rfl (Yld.fieldAddr fo188_0 rfl) ?_
  refine DT.q rfl (.free rfl) rfl rfl rfl (Yld.load p3 rfl (atM (hBd.cell rfl) id)) (Mod.drew _ _) ?_
  refine DT.qf rfl (.free rfl) rfl rfl (Yld.convI Tryz.underlying3 Tryz.underlying24 rfl) ?_
  refine DT.re (d := 8) rfl rfl (congrArg (Value.int .u64) (wrap_u64 (x := i) (by omega))) ?_
  refine DT.qf rfl (.free rfl) rfl rfl (Yld.fieldAddr fo188_1 rfl) ?_
  refine DT.q rfl (.free rfl) rfl rfl rfl (Yld.load p24 rfl (atM (hBd.cell rfl) id)) (Mod.drew _ _) ?_
  refine DT.qf rfl (.free rfl) rfl rfl (Yld.fieldAddr fo188_2 rfl) ?_
  refine DT.q rfl (.free rfl) rfl rfl rfl (Yld.load p43 rfl (atM (hBd.cell rfl) id)) (Mod.drew _ _) ?_
  refine DT.q rfl (.free rfl) rfl rfl rfl (Yld.bytesSl (l := bodyQ) u43 Tryz.underlying5 Tryz.underlying9 rfl (fun w9 h9 => hv2.mod h9)) (Mod.drew _ _) ?_
  refine DT.qf rfl (.free rfl) rfl rfl (Yld.fieldAddr fo188_3 rfl) ?_
  refine DT.q rfl (.free rfl) rfl rfl rfl (Yld.load p40 rfl (atM (hBd.cell rfl) id)) (Mod.drew _ _) ?_
  refine DT.qf rfl (.free rfl) rfl rfl (Yld.convI Tryz.underlying40 Tryz.underlying5 rfl) ?_
  refine DT.fork ?_ ?_
  · refine DT.op rfl (.free rfl) rfl rfl (Does.call rfl e86 (vput_ok i (by omega) _)) ?_
    rintro u21 w21 ⟨hr21, hf21, hg21⟩
    have hy21 := By.rowB hr21
    obtain ⟨a21, c21, rfl⟩ := hy21.shape
    refine ⟨(Mod.drew No _).trans hg21, ?_⟩
    refine DT.fork ?_ ?_
    · refine DT.op rfl (.free rfl) rfl rfl (Does.call rfl e86 (vput_ok 0 (by omega) _)) ?_
      rintro u22 w22 ⟨hr22, hf22, hg22⟩
      have hy22 := By.rowB hr22
      obtain ⟨a22, c22, rfl⟩ := hy22.shape
      refine ⟨((Mod.drew No _).trans hg21).trans hg22, ?_⟩
      refine DT.fork ?_ ?_
      · refine DT.op rfl (.free rfl) rfl rfl (Does.call rfl e89 (putT_ok ⟨bodyQ.toArray⟩ (by decide) _)) ?_
        rintro u23 w23 ⟨hr23, hf23, hg23⟩
        have hy23 := By.rowB hr23
        obtain ⟨a23, c23, rfl⟩ := hy23.shape
        refine ⟨(((Mod.drew No _).trans hg21).trans hg22).trans hg23, ?_⟩
        refine DT.op rfl (.free rfl) rfl rfl (Does.bslice (el := 5) ([.int .u8 6]) rfl (fun w => by kernel_rfl)) ?_
        rintro _ w24 ⟨b24, rfl, hn24⟩
        have hy24 : By w24 1 (.slice (some ⟨b24, 0, none⟩) 1 1) := By.rowB (l := [6]) (Row.new hn24 1 1 rfl (by decide))
        refine ⟨((((Mod.drew No _).trans hg21).trans hg22).trans hg23).trans hn24.grow, ?_⟩
        refine DT.op rfl (.free rfl) rfl rfl (Does.bslice (el := 43) ([.slice a21 (putB i).length c21, .slice a22 (putB 0).length c22, .slice a23 (putT ⟨bodyQ.toArray⟩).length c23, .slice (some ⟨b24, 0, none⟩) 1 1]) rfl (fun w => by kernel_rfl)) ?_
        rintro _ wT ⟨bT, rfl, hnT⟩
        refine ⟨(((((Mod.drew No _).trans hg21).trans hg22).trans hg23).trans hn24.grow).trans hnT.grow, ?_⟩
        have hpr : ∀ p ∈ [((.slice a21 (putB i).length c21 : Value), (putB i).length), ((.slice a22 (putB 0).length c22 : Value), (putB 0).length), ((.slice a23 (putT ⟨bodyQ.toArray⟩).length c23 : Value), (putT ⟨bodyQ.toArray⟩).length), ((.slice (some ⟨b24, 0, none⟩) 1 1 : Value), 1)], By wT p.2 p.1 := by
            intro p hp
            simp only [List.mem_cons, List.not_mem_nil, or_false] at hp
            rcases hp with rfl | rfl | rfl | rfl
            · exact hy21.grow ((((hg22).trans hg23).trans hn24.grow).trans hnT.grow)
            · exact hy22.grow (((hg23).trans hn24.grow).trans hnT.grow)
            · exact hy23.grow ((hn24.grow).trans hnT.grow)
            · exact hy24.grow (hnT.grow)
        refine DT.op rfl (.free rfl) rfl rfl (Does.call rfl e100 (concatW _ _ No _ (Sl.new hnT 1 4 rfl (by decide) (fun h => h)) hpr (Nat.le_trans hp4 (by decide)))) ?_
        rintro uZ wZ ⟨hyZ, hfZ, hgZ⟩
        refine ⟨((((((Mod.drew No _).trans hg21).trans hg22).trans hg23).trans hn24.grow).trans hnT.grow).trans hgZ, ?_⟩
        refine DT.p rfl rfl rfl ?_
        refine DT.done ?_
        refine RK.ret_of Tryz.func107 (res1 rfl rfl) ?_ _
        exact ⟨_, rfl, _, hp4, hyZ, (hn1.grow.trans hg2).trans (((((((Mod.drew No _).trans hg21).trans hg22).trans hg23).trans hn24.grow).trans hnT.grow).trans hgZ)⟩
      · refine DT.op rfl (.free rfl) rfl rfl (Does.bslice (el := 5) ([.int .u8 6]) rfl (fun w => by kernel_rfl)) ?_
        rintro _ w23 ⟨b23, rfl, hn23⟩
        have hy23 : By w23 1 (.slice (some ⟨b23, 0, none⟩) 1 1) := By.rowB (l := [6]) (Row.new hn23 1 1 rfl (by decide))
        refine ⟨(((Mod.drew No _).trans hg21).trans hg22).trans hn23.grow, ?_⟩
        refine DT.op rfl (.free rfl) rfl rfl (Does.call rfl e89 (putT_ok ⟨bodyQ.toArray⟩ (by decide) _)) ?_
        rintro u24 w24 ⟨hr24, hf24, hg24⟩
        have hy24 := By.rowB hr24
        obtain ⟨a24, c24, rfl⟩ := hy24.shape
        refine ⟨((((Mod.drew No _).trans hg21).trans hg22).trans hn23.grow).trans hg24, ?_⟩
        refine DT.op rfl (.free rfl) rfl rfl (Does.bslice (el := 43) ([.slice a21 (putB i).length c21, .slice a22 (putB 0).length c22, .slice a24 (putT ⟨bodyQ.toArray⟩).length c24, .slice (some ⟨b23, 0, none⟩) 1 1]) rfl (fun w => by kernel_rfl)) ?_
        rintro _ wT ⟨bT, rfl, hnT⟩
        refine ⟨(((((Mod.drew No _).trans hg21).trans hg22).trans hn23.grow).trans hg24).trans hnT.grow, ?_⟩
        have hpr : ∀ p ∈ [((.slice a21 (putB i).length c21 : Value), (putB i).length), ((.slice a22 (putB 0).length c22 : Value), (putB 0).length), ((.slice a24 (putT ⟨bodyQ.toArray⟩).length c24 : Value), (putT ⟨bodyQ.toArray⟩).length), ((.slice (some ⟨b23, 0, none⟩) 1 1 : Value), 1)], By wT p.2 p.1 := by
            intro p hp
            simp only [List.mem_cons, List.not_mem_nil, or_false] at hp
            rcases hp with rfl | rfl | rfl | rfl
            · exact hy21.grow ((((hg22).trans hn23.grow).trans hg24).trans hnT.grow)
            · exact hy22.grow (((hn23.grow).trans hg24).trans hnT.grow)
            · exact hy24.grow (hnT.grow)
            · exact hy23.grow ((hg24).trans hnT.grow)
        refine DT.op rfl (.free rfl) rfl rfl (Does.call rfl e100 (concatW _ _ No _ (Sl.new hnT 1 4 rfl (by decide) (fun h => h)) hpr (Nat.le_trans hp4 (by decide)))) ?_
        rintro uZ wZ ⟨hyZ, hfZ, hgZ⟩
        refine ⟨((((((Mod.drew No _).trans hg21).trans hg22).trans hn23.grow).trans hg24).trans hnT.grow).trans hgZ, ?_⟩
        refine DT.p rfl rfl rfl ?_
        refine DT.done ?_
        refine RK.ret_of Tryz.func107 (res1 rfl rfl) ?_ _
        exact ⟨_, rfl, _, hp4, hyZ, (hn1.grow.trans hg2).trans (((((((Mod.drew No _).trans hg21).trans hg22).trans hn23.grow).trans hg24).trans hnT.grow).trans hgZ)⟩
    · refine DT.op rfl (.free rfl) rfl rfl (Does.bslice (el := 5) ([.int .u8 6]) rfl (fun w => by kernel_rfl)) ?_
      rintro _ w22 ⟨b22, rfl, hn22⟩
      have hy22 : By w22 1 (.slice (some ⟨b22, 0, none⟩) 1 1) := By.rowB (l := [6]) (Row.new hn22 1 1 rfl (by decide))
      refine ⟨((Mod.drew No _).trans hg21).trans hn22.grow, ?_⟩
      refine DT.op rfl (.free rfl) rfl rfl (Does.call rfl e86 (vput_ok 0 (by omega) _)) ?_
      rintro u23 w23 ⟨hr23, hf23, hg23⟩
      have hy23 := By.rowB hr23
      obtain ⟨a23, c23, rfl⟩ := hy23.shape
      refine ⟨(((Mod.drew No _).trans hg21).trans hn22.grow).trans hg23, ?_⟩
      refine DT.op rfl (.free rfl) rfl rfl (Does.call rfl e89 (putT_ok ⟨bodyQ.toArray⟩ (by decide) _)) ?_
      rintro u24 w24 ⟨hr24, hf24, hg24⟩
      have hy24 := By.rowB hr24
      obtain ⟨a24, c24, rfl⟩ := hy24.shape
      refine ⟨((((Mod.drew No _).trans hg21).trans hn22.grow).trans hg23).trans hg24, ?_⟩
      refine DT.op rfl (.free rfl) rfl rfl (Does.bslice (el := 43) ([.slice a21 (putB i).length c21, .slice a23 (putB 0).length c23, .slice a24 (putT ⟨bodyQ.toArray⟩).length c24, .slice (some ⟨b22, 0, none⟩) 1 1]) rfl (fun w => by kernel_rfl)) ?_
      rintro _ wT ⟨bT, rfl, hnT⟩
      refine ⟨(((((Mod.drew No _).trans hg21).trans hn22.grow).trans hg23).trans hg24).trans hnT.grow, ?_⟩
      have hpr : ∀ p ∈ [((.slice a21 (putB i).length c21 : Value), (putB i).length), ((.slice a23 (putB 0).length c23 : Value), (putB 0).length), ((.slice a24 (putT ⟨bodyQ.toArray⟩).length c24 : Value), (putT ⟨bodyQ.toArray⟩).length), ((.slice (some ⟨b22, 0, none⟩) 1 1 : Value), 1)], By wT p.2 p.1 := by
          intro p hp
          simp only [List.mem_cons, List.not_mem_nil, or_false] at hp
          rcases hp with rfl | rfl | rfl | rfl
          · exact hy21.grow ((((hn22.grow).trans hg23).trans hg24).trans hnT.grow)
          · exact hy23.grow ((hg24).trans hnT.grow)
          · exact hy24.grow (hnT.grow)
          · exact hy22.grow (((hg23).trans hg24).trans hnT.grow)
      refine DT.op rfl (.free rfl) rfl rfl (Does.call rfl e100 (concatW _ _ No _ (Sl.new hnT 1 4 rfl (by decide) (fun h => h)) hpr (Nat.le_trans hp4 (by decide)))) ?_
      rintro uZ wZ ⟨hyZ, hfZ, hgZ⟩
      refine ⟨((((((Mod.drew No _).trans hg21).trans hn22.grow).trans hg23).trans hg24).trans hnT.grow).trans hgZ, ?_⟩
      refine DT.p rfl rfl rfl ?_
      refine DT.done ?_
      refine RK.ret_of Tryz.func107 (res1 rfl rfl) ?_ _
      exact ⟨_, rfl, _, hp4, hyZ, (hn1.grow.trans hg2).trans (((((((Mod.drew No _).trans hg21).trans hn22.grow).trans hg23).trans hg24).trans hnT.grow).trans hgZ)⟩
  · refine DT.op rfl (.free rfl) rfl rfl (Does.bslice (el := 5) ([.int .u8 6]) rfl (fun w => by kernel_rfl)) ?_
    rintro _ w21 ⟨b21, rfl, hn21⟩
    have hy21 : By w21 1 (.slice (some ⟨b21, 0, none⟩) 1 1) := By.rowB (l := [6]) (Row.new hn21 1 1 rfl (by decide))
    refine ⟨(Mod.drew No _).trans hn21.grow, ?_⟩
    refine DT.op rfl (.free rfl) rfl rfl (Does.call rfl e86 (vput_ok i (by omega) _)) ?_
    rintro u22 w22 ⟨hr22, hf22, hg22⟩
    have hy22 := By.rowB hr22
    obtain ⟨a22, c22, rfl⟩ := hy22.shape
    refine ⟨((Mod.drew No _).trans hn21.grow).trans hg22, ?_⟩
    refine DT.op rfl (.free rfl) rfl rfl (Does.call rfl e86 (vput_ok 0 (by omega) _)) ?_
    rintro u23 w23 ⟨hr23, hf23, hg23⟩
    have hy23 := By.rowB hr23
    obtain ⟨a23, c23, rfl⟩ := hy23.shape
    refine ⟨(((Mod.drew No _).trans hn21.grow).trans hg22).trans hg23, ?_⟩
    refine DT.op rfl (.free rfl) rfl rfl (Does.call rfl e89 (putT_ok ⟨bodyQ.toArray⟩ (by decide) _)) ?_
    rintro u24 w24 ⟨hr24, hf24, hg24⟩
    have hy24 := By.rowB hr24
    obtain ⟨a24, c24, rfl⟩ := hy24.shape
    refine ⟨((((Mod.drew No _).trans hn21.grow).trans hg22).trans hg23).trans hg24, ?_⟩
    refine DT.op rfl (.free rfl) rfl rfl (Does.bslice (el := 43) ([.slice a22 (putB i).length c22, .slice a23 (putB 0).length c23, .slice a24 (putT ⟨bodyQ.toArray⟩).length c24, .slice (some ⟨b21, 0, none⟩) 1 1]) rfl (fun w => by kernel_rfl)) ?_
    rintro _ wT ⟨bT, rfl, hnT⟩
    refine ⟨(((((Mod.drew No _).trans hn21.grow).trans hg22).trans hg23).trans hg24).trans hnT.grow, ?_⟩
    have hpr : ∀ p ∈ [((.slice a22 (putB i).length c22 : Value), (putB i).length), ((.slice a23 (putB 0).length c23 : Value), (putB 0).length), ((.slice a24 (putT ⟨bodyQ.toArray⟩).length c24 : Value), (putT ⟨bodyQ.toArray⟩).length), ((.slice (some ⟨b21, 0, none⟩) 1 1 : Value), 1)], By wT p.2 p.1 := by
        intro p hp
        simp only [List.mem_cons, List.not_mem_nil, or_false] at hp
        rcases hp with rfl | rfl | rfl | rfl
        · exact hy22.grow (((hg23).trans hg24).trans hnT.grow)
        · exact hy23.grow ((hg24).trans hnT.grow)
        · exact hy24.grow (hnT.grow)
        · exact hy21.grow ((((hg22).trans hg23).trans hg24).trans hnT.grow)
    refine DT.op rfl (.free rfl) rfl rfl (Does.call rfl e100 (concatW _ _ No _ (Sl.new hnT 1 4 rfl (by decide) (fun h => h)) hpr (Nat.le_trans hp4 (by decide)))) ?_
    rintro uZ wZ ⟨hyZ, hfZ, hgZ⟩
    refine ⟨((((((Mod.drew No _).trans hn21.grow).trans hg22).trans hg23).trans hg24).trans hnT.grow).trans hgZ, ?_⟩
    refine DT.p rfl rfl rfl ?_
    refine DT.done ?_
    refine RK.ret_of Tryz.func107 (res1 rfl rfl) ?_ _
    exact ⟨_, rfl, _, hp4, hyZ, (hn1.grow.trans hg2).trans (((((((Mod.drew No _).trans hn21.grow).trans hg22).trans hg23).trans hg24).trans hnT.grow).trans hgZ)⟩
theorem chAddQ0_ok {w : World} {p : Nat} {most : Int} {ds : List Value} (h : ChAt w p most 0 (.slice none 0 0) [] ds) (hm : 1 ≤ most) (g : Addr) (gc : Nat) (hv : Row w 5 1 (.slice (some g) 15 gc) 15 (bytesV bodyQ)) (hK : KeysAt w) (hp0 : 0 < p) : Fx Tryz.prog 57 [pp p, .int .u64 0, .slice (some g) 15 gc, .int .i64 0] w (fun u w' => u = .bool true ∧ (∃ a' k' a9 c9 ds', ChAt w' p most 1 (.slice a' 1 k') (recQ 0 (.slice a9 15 c9) 0) ds' ∧ ∀ b, (Value.slice a' 1 k').ownBlock = some b → w.heap.size ≤ b) ∧ Mod (· = p) w w') := by
  have hplt := h.blk.lt
  have hvs : Sl No w (.slice (some g) 15 gc) 1 15 (bytesV bodyQ) := Sl.own hv (fun _ _ h => h)
  have hBd := h.blk.mod (Mod.drew No _) (fun h => h)
  refine enter Tryz.func57 rfl rfl rfl _ (Pick.sub (l := [0, 1, 2, 3]) (.cons rfl (.cons rfl (.cons rfl (.cons rfl .nil))))) ?_
  refine RK.seq ?_
  refine RK.region ?_
  refine RL.p rfl rfl ?_
  refine RL.done ?_
  refine RK.seq ?_
  refine RK.cutS (fun s : Nat × Option Addr × Nat => [(0, pp p), (9, pp s.1)]) (fun s w' => Blk w' s.1 188 (recQ 0 (.slice s.2.1 15 s.2.2) 0) ∧ Row w' 5 1 (.slice s.2.1 15 s.2.2) 15 (bytesV bodyQ) ∧ Grow w w' ∧ w.heap.size ≤ s.1) (fun s w2 hQ => ?_) (fun hj => ?_)
  · obtain ⟨b9, a9, c9⟩ := s
    obtain ⟨hB9, hr9, hg2, hb9⟩ := hQ
    simp only at hB9 hr9 hb9
    have h2 := h.grow hg2
    have h2d := h2.grow (Mod.drew No _)
    have hB9d := hB9.mod (Mod.drew No _) (fun h => h)
    have hr9d := hr9.mod (Mod.drew No _) (fun _ _ h => h)
    have hcap : 15 ≤ c9 := Row.capLe hr9
    iterate 2 refine RK.seq ?_
    refine RK.drawM No [(0, false), (1, true), (2, false), (3, false), (4, true), (5, false), (6, false), (7, false), (8, false), (9, false), (10, false), (11, false), (12, false), (13, false), (14, false), (15, false), (16, false), (17, false), (18, false), (19, false), (20, false), (21, false), (22, false), (23, false), (24, false), (25, false), (26, false), (27, false), (28, false), (29, false), (30, false), (31, false)] [] mixed (by kernel_rfl) ?_
    refine DL.p rfl rfl rfl ?_
    refine DL.op rfl (.free rfl) rfl rfl (Does.call rfl e52 (full_ok h2d)) ?_
    rintro _ w3 ⟨rfl, hg3⟩
    refine ⟨(Mod.drew _ _).trans hg3, ?_⟩
    refine DL.p rfl rfl rfl ?_
    refine DL.knownF (d := 22) rfl rfl (decide_eq_false (by omega)) ?_
    refine DL.q rfl (.yes rfl rfl rfl) rfl rfl rfl (Yld.loadN (cs := recQ 0 (.slice a9 15 c9) 0) a188 rfl (atNM (blkV hB9d) id)) ((Mod.drew _ _).trans hg3) ?_
    refine DL.op rfl (.yes rfl rfl rfl) rfl rfl (Does.call rfl e109 (recIsQ0_ok 0 (by omega) a9 c9 _ ((Sl.own hr9d (fun _ _ h => h)).mod hg3) hcap)) ?_
    rintro _ w4 ⟨rfl, hg4⟩
    refine ⟨((Mod.drew _ _).trans hg3).trans hg4, ?_⟩
    have hG4 : Grow w w4 := hg2.trans (((Mod.drew _ _).trans hg3).trans hg4)
    have h4 := h.grow hG4
    have h4d := h4.grow (Mod.drew No _)
    have hG94 := ((Mod.drew No w2).trans hg3).trans hg4
    have hB94 := hB9.mod hG94 (fun h => h)
    have hB94d := hB94.mod (Mod.drew No _) (fun h => h)
    have hz4 := hG4.size
    refine DL.qf rfl (.yes rfl rfl rfl) rfl rfl (Yld.pure rfl) ?_
    iterate 2 refine DL.p rfl rfl rfl ?_
    refine DL.knownF (d := 27) rfl rfl (rfl) ?_
    iterate 2 refine DL.qf rfl (.yes rfl rfl rfl) rfl rfl (Yld.pure rfl) ?_
    refine DL.qf rfl (.yes rfl rfl rfl) rfl rfl (Yld.fieldAddr fo171_1 rfl) ?_
    refine DL.q rfl (.yes rfl rfl rfl) rfl rfl rfl (Yld.load p169 rfl (atM (h2d.blk.cell rfl) id)) (((Mod.drew _ _).trans hg3).trans hg4) ?_
    refine DL.q rfl (.yes rfl rfl rfl) rfl rfl rfl (Yld.lenSl u169 rfl) (((Mod.drew _ _).trans hg3).trans hg4) ?_
    iterate 2 refine DL.qf rfl (.yes rfl rfl rfl) rfl rfl (Yld.pure rfl) ?_
    refine DL.knownF (d := 34) rfl rfl (rfl) ?_
    iterate 15 refine DL.no rfl (.no rfl rfl rfl rfl) rfl rfl ?_
    refine DL.qf rfl (.yes rfl rfl rfl) rfl rfl (Yld.pure rfl) ?_
    refine DL.p rfl rfl rfl ?_
    refine DL.done ?_
    refine RK.condF rfl ?_
    refine RK.skip ?_
    refine RK.seq ?_
    refine RK.drawM (fun _ => False) [(0, false), (1, false), (2, false), (3, false), (4, false), (5, false), (6, true), (7, true), (8, false), (9, false), (10, true)] [10] mixed (by kernel_rfl) ?_
    iterate 3 refine DL.p rfl rfl rfl ?_
    refine DL.qf rfl (.free rfl) rfl rfl (Yld.fieldAddr fo171_1 rfl) ?_
    refine DL.q rfl (.free rfl) rfl rfl rfl (Yld.load p169 rfl (atM (h4d.blk.cell rfl) id)) (Mod.drew _ _) ?_
    refine DL.q rfl (.free rfl) rfl rfl rfl (Yld.loadN (cs := recQ 0 (.slice a9 15 c9) 0) a188 rfl (atNM (blkV hB94d) id)) (Mod.drew _ _) ?_
    refine DL.op rfl (.free rfl) rfl rfl (Does.slice1 u169 i188 rfl rfl rfl rfl rfl) ?_
    rintro _ w5 ⟨b5, rfl, hn5⟩
    refine ⟨(Mod.drew _ _).trans hn5.grow, ?_⟩
    refine DL.op rfl (.free rfl) rfl rfl (Does.append u169 i188 rfl rfl rfl rfl rfl (Row.nil _ _ _) (Sl.new hn5 4 1 rfl (by decide) (fun h => h)) (rfl) (by decide)) ?_
    rintro u6 w6 ⟨hr6, hm6, hu6⟩
    have hg6 : Grow w5 w6 := hm6.mono (fun b _ e => by simp [Value.ownBlock] at e)
    refine ⟨((Mod.drew _ _).trans hn5.grow).trans hg6, ?_⟩
    have hz5 := hn5.size
    have hp6 : ∀ b, u6.ownBlock = some b → w.heap.size ≤ b := fun b e => by
        rcases hu6 with h | h
        · rw [h] at e; simp [Value.ownBlock] at e
        · rw [h] at e; cases e; simp only [World.drew] at hz5; omega
    obtain ⟨a6, c6, rfl⟩ := hr6.slice
    have hG6 : Grow w4 w6 := ((Mod.drew _ _).trans hn5.grow).trans hg6
    refine DL.p rfl rfl rfl ?_
    refine DL.qf rfl (.free rfl) rfl rfl (Yld.fieldAddr fo171_1 rfl) ?_
    refine DL.opT rfl (.free rfl) rfl rfl (Does.store i169 rfl rfl rfl (h4.grow hG6).blk (.s .z)) ?_
    rintro _ w7 ⟨hb7, hm7, hs7⟩
    have hr7 := hr6.mod hm7 (fun b e1 e2 => by have e' : b = p := e2; have := hp6 b e1; omega)
    have hM7 : Mod (· = p) w w7 := (Mod.any' (hG4.trans hG6)).trans hm7
    have hne9 : b9 ≠ p := by omega
    have hB97 := (hB94.mod hG6 (fun h => h)).mod hm7 hne9
    have hr97 := ((hr9.mod hG94 (fun _ _ h => h)).mod hG6 (fun _ _ h => h)).mod hm7 (fun b e1 e2 => by have e' : b = p := e2; exact absurd (hr9.ty e1) (fun ht => ht.ne (h.grow hg2).blk.ty rfl e'))
    have hB97d := hB97.mod (Mod.drew No _) (fun h => h)
    have hb7d := hb7.mod (Mod.drew No _) (fun h => h)
    have hK7 : KeysAt w7 := hK.mod hM7 (fun e => by have e' : 0 = p := e; omega)
    have hdl := h.head.1
    have hds : (List.drop 2 (Value.int .i64 most :: Value.slice a6 1 c6 :: ds)).take 32 = ds := by simp [List.take_of_length_le (by omega : ds.length ≤ 32)]
    refine DL.done ?_
    refine RK.seq ?_
    refine RK.drawM (fun _ => False) [(0, false), (1, false), (2, false), (3, false), (4, false), (5, false), (6, true), (7, true), (8, true), (9, false), (10, false), (11, true)] [11] mixed (by kernel_rfl) ?_
    iterate 3 refine DL.p rfl rfl rfl ?_
    refine DL.qf rfl (.free rfl) rfl rfl (Yld.fieldAddr fo171_2 rfl) ?_
    refine DL.q rfl (.free rfl) rfl rfl rfl (Yld.loadN (cs := ds) (by rw [h.head.1]; exact a44) rfl (atNM (fun j u hj => fldV hb7d 2 32 j u (by rw [← hds] at hj; exact hj)) id)) (Mod.drew _ _) ?_
    refine DL.q rfl (.free rfl) rfl rfl rfl (Yld.loadN (cs := recQ 0 (.slice a9 15 c9) 0) a188 rfl (atNM (blkV hB97d) id)) (Mod.drew _ _) ?_
    refine DL.op rfl (.free rfl) rfl rfl (Does.call rfl e107 (recBytesQ0_ok 0 (by omega) a9 c9 _ ((Sl.own hr97 (fun _ _ h => h)).mod (Mod.drew No _)) hcap)) ?_
    rintro u8 w8 ⟨n8, hn8, hy8, hg8⟩
    refine ⟨(Mod.drew _ _).trans hg8, ?_⟩
    obtain ⟨a8, c8, rfl⟩ := hy8.shape
    refine DL.op rfl (.free rfl) rfl rfl (Does.call rfl e110 (link_ok ds h.head n8 (by omega) _ _ hy8)) ?_
    rintro u9 w9 ⟨hy9, hg9⟩
    refine ⟨((Mod.drew _ _).trans hg8).trans hg9, ?_⟩
    obtain ⟨cs9, hw9, hs9⟩ := hy9
    refine DL.op rfl (.free rfl) rfl rfl (Does.call rfl e95 (shaOf_ok (33 + n8) cs9 _ _ hs9 hw9 (by omega) (by omega) (hK7.grow (((Mod.drew _ _).trans hg8).trans hg9)))) ?_
    rintro _ w10 ⟨ds', hds', rfl, hg10⟩
    refine ⟨(((Mod.drew _ _).trans hg8).trans hg9).trans hg10, ?_⟩
    have hG10 : Grow w7 w10 := (((Mod.drew _ _).trans hg8).trans hg9).trans hg10
    refine DL.p rfl rfl rfl ?_
    refine DL.qf rfl (.free rfl) rfl rfl (Yld.fieldAddr fo171_2 rfl) ?_
    refine DL.opT rfl (.free rfl) rfl rfl (Does.storeN (o := 2) i44 rfl rfl (show (Value.agg ds'.toArray).cells.size = 32 from by simpa [Value.cells] using hds'.1) (by simpa [Value.cells] using hds'.one) (hb7.mod hG10 (fun h => h)) (by simp; omega)) ?_
    rintro _ w11 ⟨hb11, hm11, hs11⟩
    have hB11 : Blk w11 p 171 (.int .i64 most :: .slice a6 1 c6 :: ds') := by
        have e : (List.drop (2 + 32) (Value.int .i64 most :: Value.slice a6 1 c6 :: ds)) = [] := List.drop_of_length_le (by simp; omega)
        have h := hb11
        rw [e, List.append_nil] at h
        exact h
    refine DL.done ?_
    refine RK.seq ?_
    refine RK.region ?_
    refine RL.p rfl rfl ?_
    refine RL.done ?_
    refine RK.ret_of Tryz.func57 (res1 rfl rfl) ?_ _
    exact ⟨_, rfl, rfl, ⟨_, _, a9, c9, ds', ⟨hB11, (hr7.mod hG10 (fun _ _ h => h)).mod hm11 (fun b e1 e2 => by have e' : b = p := e2; have := hp6 b e1; omega), hds'⟩, hp6⟩, (hM7.trans (Mod.any' hG10)).trans hm11⟩
  · refine RK.drawF No [(0, false), (1, false), (2, false), (3, false), (4, false), (5, false), (6, false), (8, false)] 7 10 [(9, false), (10, true), (11, true)] [(7, true), (9, false), (11, true)] [] mixed (by kernel_rfl) ?_
    iterate 2 refine DL.p rfl rfl rfl ?_
    refine DL.qf rfl (.free rfl) rfl rfl (Yld.fieldAddr fo171_1 rfl) ?_
    refine DL.q rfl (.free rfl) rfl rfl rfl (Yld.load p169 rfl (atM (hBd.cell rfl) id)) (Mod.drew _ _) ?_
    refine DL.q rfl (.free rfl) rfl rfl rfl (Yld.lenSl u169 rfl) (Mod.drew _ _) ?_
    iterate 3 refine DL.p rfl rfl rfl ?_
    refine DL.fork ?_ ?_
    · refine DL.op rfl (.free rfl) rfl rfl (Does.call rfl e108 (cloneB_ok No bodyQ _ _ (hvs.mod (Mod.drew No _)) (by decide))) ?_
      rintro u3 w3 ⟨hr3, hf3, hg3⟩
      refine ⟨(Mod.drew _ _).trans hg3, ?_⟩
      obtain ⟨a3, c3, rfl⟩ := hr3.slice
      refine DL.qf rfl (.free rfl) rfl rfl (Yld.build (v := .agg (recQ 0 (.slice a3 15 c3) 0).toArray) rfl (fun w => by kernel_rfl)) ?_
      refine DL.op rfl (.free rfl) rfl rfl (Does.alloc i188) ?_
      rintro _ w9 ⟨b9, rfl, hn9⟩
      refine ⟨((Mod.drew _ _).trans hg3).trans hn9.grow, ?_⟩
      have ha9 := hn9.at_
      have hz3 := hg3.size
      simp only [World.drew] at hz3
      refine DL.op' rfl (.free rfl) rfl (Does.storeN i188 rfl rfl rfl rfl hn9.blk (Nat.le_refl 4)) ?_
      rintro _ w10 ⟨hb10, hm10, hs10⟩
      have hG : Grow w w10 := (((Mod.drew _ _).trans hg3).trans hn9.grow).then hm10 (fun x hx e => by have e' : x = b9 := e; omega)
      refine ⟨hG, ?_⟩
      refine DL.done ?_
      exact RK.back (hj (b9, a3, c3) _ ⟨hb10, (hr3.mod hn9.grow (fun _ _ h => h)).mod hm10 (fun b e1 e2 => by have e' : b = b9 := e2; have := (hr3.ty e1).lt; omega), hG, by simp only; omega⟩) ⟨rfl, rfl, trivial⟩
    · refine DL.op rfl (.free rfl) rfl rfl (Does.alloc i188) ?_
      rintro _ w9 ⟨b9, rfl, hn9⟩
      refine ⟨(Mod.drew _ _).trans hn9.grow, ?_⟩
      refine DL.op rfl (.free rfl) rfl rfl (Does.call rfl e108 (cloneB_ok No bodyQ _ _ ((hvs.mod (Mod.drew No _)).mod hn9.grow) (by decide))) ?_
      rintro u3 w3 ⟨hr3, hf3, hg3⟩
      refine ⟨((Mod.drew _ _).trans hn9.grow).trans hg3, ?_⟩
      obtain ⟨a3, c3, rfl⟩ := hr3.slice
      have ha9 := hn9.at_
      have hz9 := hn9.size
      simp only [World.drew] at ha9 hz9
      refine DL.qf rfl (.free rfl) rfl rfl (Yld.build (v := .agg (recQ 0 (.slice a3 15 c3) 0).toArray) rfl (fun w => by kernel_rfl)) ?_
      refine DL.op' rfl (.free rfl) rfl (Does.storeN i188 rfl rfl rfl rfl (hn9.blk.mod hg3 (fun h => h)) (Nat.le_refl 4)) ?_
      rintro _ w10 ⟨hb10, hm10, hs10⟩
      have hG : Grow w w10 := (((Mod.drew _ _).trans hn9.grow).trans hg3).then hm10 (fun x hx e => by have e' : x = b9 := e; omega)
      refine ⟨hG, ?_⟩
      refine DL.done ?_
      exact RK.back (hj (b9, a3, c3) _ ⟨hb10, hr3.mod hm10 (fun b e1 e2 => by have e' : b = b9 := e2; have := hf3 b e1; omega), hG, by simp only; omega⟩) ⟨rfl, rfl, trivial⟩
theorem chAddQ1_ok {w : World} {p : Nat} {most : Int} {a0 : Option Addr} {k0 : Nat} {v0 : Value} {co : Int} {ds : List Value} (h : ChAt w p most 1 (.slice a0 1 k0) (recQ 0 v0 co) ds) (hm : 2 ≤ most) (g : Addr) (gc : Nat) (hv : Row w 5 1 (.slice (some g) 15 gc) 15 (bytesV bodyQ)) (hK : KeysAt w) (hp0 : 0 < p) (hv0 : ∀ b, (Value.slice a0 1 k0).ownBlock = some b → 0 < b) : Fx Tryz.prog 57 [pp p, .int .u64 0, .slice (some g) 15 gc, .int .i64 6] w (fun u w' => u = .bool true ∧ (∃ v' cs' ds', ChAt w' p most 2 v' cs' ds') ∧ Mod (fun b => b = p ∨ (Value.slice a0 1 k0).ownBlock = some b) w w') := by
  obtain ⟨bq, oq, cq, heq, _, _, hcq⟩ := (Sl.own (M := No) h.row (fun _ _ h => h)).elem (f := fun x : Value × Int => recQ 0 x.1 x.2) (xs := [(v0, co)]) (fun _ => rfl) (k := 0) (x := (v0, co)) rfl
  cases heq
  have hplt := h.blk.lt
  have hvs : Sl No w (.slice (some g) 15 gc) 1 15 (bytesV bodyQ) := Sl.own hv (fun _ _ h => h)
  have hBd := h.blk.mod (Mod.drew No _) (fun h => h)
  refine enter Tryz.func57 rfl rfl rfl _ (Pick.sub (l := [0, 1, 2, 3]) (.cons rfl (.cons rfl (.cons rfl (.cons rfl .nil))))) ?_
  refine RK.seq ?_
  refine RK.region ?_
  refine RL.p rfl rfl ?_
  refine RL.done ?_
  refine RK.seq ?_
  refine RK.cutS (fun s : Nat × Option Addr × Nat => [(0, pp p), (1, .int .u64 0), (9, pp s.1)]) (fun s w' => Blk w' s.1 188 (recQ 1 (.slice s.2.1 15 s.2.2) 6) ∧ Row w' 5 1 (.slice s.2.1 15 s.2.2) 15 (bytesV bodyQ) ∧ Grow w w' ∧ w.heap.size ≤ s.1) (fun s w2 hQ => ?_) (fun hj => ?_)
  · obtain ⟨b9, a9, c9⟩ := s
    obtain ⟨hB9, hr9, hg2, hb9⟩ := hQ
    simp only at hB9 hr9 hb9
    have h2 := h.grow hg2
    have h2d := h2.grow (Mod.drew No _)
    have hB9d := hB9.mod (Mod.drew No _) (fun h => h)
    have hr9d := hr9.mod (Mod.drew No _) (fun _ _ h => h)
    have hcap : 15 ≤ c9 := Row.capLe hr9
    iterate 2 refine RK.seq ?_
    refine RK.drawM No [(0, false), (1, true), (2, false), (3, false), (4, true), (5, false), (6, false), (7, false), (8, false), (9, false), (10, false), (11, false), (12, false), (13, false), (14, false), (15, false), (16, false), (17, false), (18, false), (19, false), (20, false), (21, false), (22, false), (23, false), (24, false), (25, false), (26, false), (27, false), (28, false), (29, false), (30, false), (31, false)] [] mixed (by kernel_rfl) ?_
    refine DL.p rfl rfl rfl ?_
    refine DL.op rfl (.free rfl) rfl rfl (Does.call rfl e52 (full_ok h2d)) ?_
    rintro _ w3 ⟨rfl, hg3⟩
    refine ⟨(Mod.drew _ _).trans hg3, ?_⟩
    refine DL.p rfl rfl rfl ?_
    refine DL.knownF (d := 22) rfl rfl (decide_eq_false (by omega)) ?_
    refine DL.q rfl (.yes rfl rfl rfl) rfl rfl rfl (Yld.loadN (cs := recQ 1 (.slice a9 15 c9) 6) a188 rfl (atNM (blkV hB9d) id)) ((Mod.drew _ _).trans hg3) ?_
    refine DL.op rfl (.yes rfl rfl rfl) rfl rfl (Does.call rfl e109 (recIsQ6_ok 1 (by omega) a9 c9 _ ((Sl.own hr9d (fun _ _ h => h)).mod hg3) hcap)) ?_
    rintro _ w4 ⟨rfl, hg4⟩
    refine ⟨((Mod.drew _ _).trans hg3).trans hg4, ?_⟩
    have hG4 : Grow w w4 := hg2.trans (((Mod.drew _ _).trans hg3).trans hg4)
    have h4 := h.grow hG4
    have h4d := h4.grow (Mod.drew No _)
    have hG94 := ((Mod.drew No w2).trans hg3).trans hg4
    have hB94 := hB9.mod hG94 (fun h => h)
    have hB94d := hB94.mod (Mod.drew No _) (fun h => h)
    have hz4 := hG4.size
    have hown : ∀ b, (Value.slice (some ⟨bq, oq, none⟩) 1 k0).ownBlock = some b → b ≠ p := fun b e e2 => (h.row.ty e).ne h.blk.ty rfl e2
    have hno9 : ¬ (Value.slice (some ⟨bq, oq, none⟩) 1 k0).ownBlock = some b9 := fun e => by have := (h.row.ty e).lt; omega
    refine DL.qf rfl (.yes rfl rfl rfl) rfl rfl (Yld.pure rfl) ?_
    iterate 2 refine DL.p rfl rfl rfl ?_
    refine DL.knownF (d := 27) rfl rfl (rfl) ?_
    iterate 2 refine DL.qf rfl (.yes rfl rfl rfl) rfl rfl (Yld.pure rfl) ?_
    refine DL.qf rfl (.yes rfl rfl rfl) rfl rfl (Yld.fieldAddr fo171_1 rfl) ?_
    refine DL.q rfl (.yes rfl rfl rfl) rfl rfl rfl (Yld.load p169 rfl (atM (h2d.blk.cell rfl) id)) (((Mod.drew _ _).trans hg3).trans hg4) ?_
    refine DL.q rfl (.yes rfl rfl rfl) rfl rfl rfl (Yld.lenSl u169 rfl) (((Mod.drew _ _).trans hg3).trans hg4) ?_
    iterate 2 refine DL.qf rfl (.yes rfl rfl rfl) rfl rfl (Yld.pure rfl) ?_
    refine DL.knownT (d := 34) rfl rfl (rfl) ?_
    iterate 3 refine DL.qf rfl (.yes rfl rfl rfl) rfl rfl (Yld.pure rfl) ?_
    refine DL.qf rfl (.yes rfl rfl rfl) rfl rfl (Yld.fieldAddr fo171_1 rfl) ?_
    refine DL.q rfl (.yes rfl rfl rfl) rfl rfl rfl (Yld.load p169 rfl (atM (h2d.blk.cell rfl) id)) (((Mod.drew _ _).trans hg3).trans hg4) ?_
    iterate 2 refine DL.qf rfl (.yes rfl rfl rfl) rfl rfl (Yld.pure rfl) ?_
    refine DL.qf rfl (.yes rfl rfl rfl) rfl rfl (Yld.fieldAddr fo171_1 rfl) ?_
    refine DL.q rfl (.yes rfl rfl rfl) rfl rfl rfl (Yld.load p169 rfl (atM (h2d.blk.cell rfl) id)) (((Mod.drew _ _).trans hg3).trans hg4) ?_
    refine DL.q rfl (.yes rfl rfl rfl) rfl rfl rfl (Yld.lenSl u169 rfl) (((Mod.drew _ _).trans hg3).trans hg4) ?_
    refine DL.qf rfl (.yes rfl rfl rfl) rfl rfl (Yld.pure rfl) ?_
    refine DL.re (d := 45) rfl rfl (congrArg (Value.int .i64) (by decide : _ = ((0 : Nat) : Int))) ?_
    refine DL.qf rfl (.yes rfl rfl rfl) rfl rfl (Yld.indexAddrN u169 i188 rfl rfl ((by decide : 0 < 1))) ?_
    refine DL.qf rfl (.yes rfl rfl rfl) rfl rfl (Yld.fieldAddr fo188_1 rfl) ?_
    refine DL.q rfl (.yes rfl rfl rfl) rfl rfl rfl (Yld.load p24 rfl (atM (((hg2.trans (Mod.drew No _)).cell (hcq 1 (.int .u64 0) rfl) (fun h => h))) id)) (((Mod.drew _ _).trans hg3).trans hg4) ?_
    iterate 2 refine DL.qf rfl (.yes rfl rfl rfl) rfl rfl (Yld.pure rfl) ?_
    refine DL.p rfl rfl rfl ?_
    refine DL.done ?_
    refine RK.condF (hcF rfl (rfl)) ?_
    refine RK.skip ?_
    refine RK.seq ?_
    refine RK.drawM (fun b => (Value.slice (some ⟨bq, oq, none⟩) 1 k0).ownBlock = some b) [(0, false), (1, false), (2, false), (3, false), (4, false), (5, false), (6, true), (7, true), (8, false), (9, false), (10, true)] [10] mixed (by kernel_rfl) ?_
    iterate 3 refine DL.p rfl rfl rfl ?_
    refine DL.qf rfl (.free rfl) rfl rfl (Yld.fieldAddr fo171_1 rfl) ?_
    refine DL.q rfl (.free rfl) rfl rfl rfl (Yld.load p169 rfl (atM (h4d.blk.cell rfl) (fun e => hown _ e rfl))) (Mod.drew _ _) ?_
    refine DL.q rfl (.free rfl) rfl rfl rfl (Yld.loadN (cs := recQ 1 (.slice a9 15 c9) 6) a188 rfl (atNM (blkV hB94d) (hno9))) (Mod.drew _ _) ?_
    refine DL.op rfl (.free rfl) rfl rfl (Does.slice1 u169 i188 rfl rfl rfl rfl rfl) ?_
    rintro _ w5 ⟨b5, rfl, hn5⟩
    refine ⟨(Mod.drew _ _).trans (Mod.any' hn5.grow), ?_⟩
    refine DL.op rfl (.free rfl) rfl rfl (Does.append u169 i188 rfl rfl rfl rfl rfl (h4d.row.mod hn5.grow (fun _ _ h => h)) (Sl.new hn5 4 1 rfl (by decide) (fun h => h)) (rfl) (by decide)) ?_
    rintro u6 w6 ⟨hr6, hm6, hu6⟩
    refine ⟨((Mod.drew _ _).trans (Mod.any' hn5.grow)).trans hm6, ?_⟩
    have hz5 := hn5.size
    have hp6 : ∀ b, u6.ownBlock = some b → b ≠ p ∧ ((Value.slice (some ⟨bq, oq, none⟩) 1 k0).ownBlock = some b ∨ w.heap.size ≤ b) := fun b e => by
        rcases hu6 with h | h
        · rw [h] at e; exact ⟨hown b e, .inl e⟩
        · rw [h] at e; cases e; simp only [World.drew] at hz5; exact ⟨by omega, .inr (by omega)⟩
    obtain ⟨a6, c6, rfl⟩ := hr6.slice
    have hG6 : Mod (fun b => (Value.slice (some ⟨bq, oq, none⟩) 1 k0).ownBlock = some b) w4 w6 := ((Mod.drew _ _).trans (Mod.any' hn5.grow)).trans hm6
    have hblk6 := h4.blk.mod hG6 (fun e => hown _ e rfl)
    refine DL.p rfl rfl rfl ?_
    refine DL.qf rfl (.free rfl) rfl rfl (Yld.fieldAddr fo171_1 rfl) ?_
    refine DL.opT rfl (.free rfl) rfl rfl (Does.store i169 rfl rfl rfl hblk6 (.s .z)) ?_
    rintro _ w7 ⟨hb7, hm7, hs7⟩
    have hr7 := hr6.mod hm7 (fun b e1 e2 => (hp6 b e1).1 e2)
    have hM7 : Mod (fun b => b = p ∨ (Value.slice (some ⟨bq, oq, none⟩) 1 k0).ownBlock = some b) w w7 := ((Mod.any' hG4).trans (hG6.mono fun b _ e => .inr e)).trans (hm7.mono fun b _ e => .inl e)
    have hne9 : b9 ≠ p := by omega
    have hB97 := (hB94.mod hG6 hno9).mod hm7 hne9
    have hr94 := hr9.mod hG94 (fun _ _ h => h)
    have hr97 := (hr94.mod hG6 (fun b e1 e2 => (hr94.ty e1).ne (h4.row.ty e2) rfl rfl)).mod hm7 (fun b e1 e2 => by have e' : b = p := e2; exact absurd (hr9.ty e1) (fun ht => ht.ne (h.grow hg2).blk.ty rfl e'))
    have hB97d := hB97.mod (Mod.drew No _) (fun h => h)
    have hb7d := hb7.mod (Mod.drew No _) (fun h => h)
    have hK7 : KeysAt w7 := hK.mod hM7 (fun e => by rcases e with e | e; omega; have := hv0 0 e; omega)
    have hdl := h.head.1
    have hds : (List.drop 2 (Value.int .i64 most :: Value.slice a6 (1 + 1) c6 :: ds)).take 32 = ds := by simp [List.take_of_length_le (by omega : ds.length ≤ 32)]
    refine DL.done ?_
    refine RK.seq ?_
    refine RK.drawM (fun _ => False) [(0, false), (1, false), (2, false), (3, false), (4, false), (5, false), (6, true), (7, true), (8, true), (9, false), (10, false), (11, true)] [11] mixed (by kernel_rfl) ?_
    iterate 3 refine DL.p rfl rfl rfl ?_
    refine DL.qf rfl (.free rfl) rfl rfl (Yld.fieldAddr fo171_2 rfl) ?_
    refine DL.q rfl (.free rfl) rfl rfl rfl (Yld.loadN (cs := ds) (by rw [h.head.1]; exact a44) rfl (atNM (fun j u hj => fldV hb7d 2 32 j u (by rw [← hds] at hj; exact hj)) id)) (Mod.drew _ _) ?_
    refine DL.q rfl (.free rfl) rfl rfl rfl (Yld.loadN (cs := recQ 1 (.slice a9 15 c9) 6) a188 rfl (atNM (blkV hB97d) id)) (Mod.drew _ _) ?_
    refine DL.op rfl (.free rfl) rfl rfl (Does.call rfl e107 (recBytesQ6_ok 1 (by omega) a9 c9 _ ((Sl.own hr97 (fun _ _ h => h)).mod (Mod.drew No _)) hcap)) ?_
    rintro u8 w8 ⟨n8, hn8, hy8, hg8⟩
    refine ⟨(Mod.drew _ _).trans hg8, ?_⟩
    obtain ⟨a8, c8, rfl⟩ := hy8.shape
    refine DL.op rfl (.free rfl) rfl rfl (Does.call rfl e110 (link_ok ds h.head n8 (by omega) _ _ hy8)) ?_
    rintro u9 w9 ⟨hy9, hg9⟩
    refine ⟨((Mod.drew _ _).trans hg8).trans hg9, ?_⟩
    obtain ⟨cs9, hw9, hs9⟩ := hy9
    refine DL.op rfl (.free rfl) rfl rfl (Does.call rfl e95 (shaOf_ok (33 + n8) cs9 _ _ hs9 hw9 (by omega) (by omega) (hK7.grow (((Mod.drew _ _).trans hg8).trans hg9)))) ?_
    rintro _ w10 ⟨ds', hds', rfl, hg10⟩
    refine ⟨(((Mod.drew _ _).trans hg8).trans hg9).trans hg10, ?_⟩
    have hG10 : Grow w7 w10 := (((Mod.drew _ _).trans hg8).trans hg9).trans hg10
    refine DL.p rfl rfl rfl ?_
    refine DL.qf rfl (.free rfl) rfl rfl (Yld.fieldAddr fo171_2 rfl) ?_
    refine DL.opT rfl (.free rfl) rfl rfl (Does.storeN (o := 2) i44 rfl rfl (show (Value.agg ds'.toArray).cells.size = 32 from by simpa [Value.cells] using hds'.1) (by simpa [Value.cells] using hds'.one) (hb7.mod hG10 (fun h => h)) (by simp; omega)) ?_
    rintro _ w11 ⟨hb11, hm11, hs11⟩
    have hB11 : Blk w11 p 171 (.int .i64 most :: .slice a6 (1 + 1) c6 :: ds') := by
        have e : (List.drop (2 + 32) (Value.int .i64 most :: Value.slice a6 (1 + 1) c6 :: ds)) = [] := List.drop_of_length_le (by simp; omega)
        have h := hb11
        rw [e, List.append_nil] at h
        exact h
    refine DL.done ?_
    refine RK.seq ?_
    refine RK.region ?_
    refine RL.p rfl rfl ?_
    refine RL.done ?_
    refine RK.ret_of Tryz.func57 (res1 rfl rfl) ?_ _
    exact ⟨_, rfl, rfl, ⟨_, _, ds', ⟨hB11, (hr7.mod hG10 (fun _ _ h => h)).mod hm11 (fun b e1 e2 => (hp6 b e1).1 e2), hds'⟩⟩, (hM7.trans (Mod.any' hG10)).trans (hm11.mono fun b _ e => .inl e)⟩
  · refine RK.drawF No [(0, false), (1, false), (2, false), (3, false), (4, false), (5, false), (6, false), (8, false)] 7 10 [(9, false), (10, true), (11, true)] [(7, true), (9, false), (11, true)] [] mixed (by kernel_rfl) ?_
    iterate 2 refine DL.p rfl rfl rfl ?_
    refine DL.qf rfl (.free rfl) rfl rfl (Yld.fieldAddr fo171_1 rfl) ?_
    refine DL.q rfl (.free rfl) rfl rfl rfl (Yld.load p169 rfl (atM (hBd.cell rfl) id)) (Mod.drew _ _) ?_
    refine DL.q rfl (.free rfl) rfl rfl rfl (Yld.lenSl u169 rfl) (Mod.drew _ _) ?_
    iterate 3 refine DL.p rfl rfl rfl ?_
    refine DL.fork ?_ ?_
    · refine DL.op rfl (.free rfl) rfl rfl (Does.call rfl e108 (cloneB_ok No bodyQ _ _ (hvs.mod (Mod.drew No _)) (by decide))) ?_
      rintro u3 w3 ⟨hr3, hf3, hg3⟩
      refine ⟨(Mod.drew _ _).trans hg3, ?_⟩
      obtain ⟨a3, c3, rfl⟩ := hr3.slice
      refine DL.qf rfl (.free rfl) rfl rfl (Yld.build (v := .agg (recQ 1 (.slice a3 15 c3) 6).toArray) rfl (fun w => by kernel_rfl)) ?_
      refine DL.op rfl (.free rfl) rfl rfl (Does.alloc i188) ?_
      rintro _ w9 ⟨b9, rfl, hn9⟩
      refine ⟨((Mod.drew _ _).trans hg3).trans hn9.grow, ?_⟩
      have ha9 := hn9.at_
      have hz3 := hg3.size
      simp only [World.drew] at hz3
      refine DL.op' rfl (.free rfl) rfl (Does.storeN i188 rfl rfl rfl rfl hn9.blk (Nat.le_refl 4)) ?_
      rintro _ w10 ⟨hb10, hm10, hs10⟩
      have hG : Grow w w10 := (((Mod.drew _ _).trans hg3).trans hn9.grow).then hm10 (fun x hx e => by have e' : x = b9 := e; omega)
      refine ⟨hG, ?_⟩
      refine DL.done ?_
      exact RK.back (hj (b9, a3, c3) _ ⟨hb10, (hr3.mod hn9.grow (fun _ _ h => h)).mod hm10 (fun b e1 e2 => by have e' : b = b9 := e2; have := (hr3.ty e1).lt; omega), hG, by simp only; omega⟩) ⟨rfl, rfl, rfl, trivial⟩
    · refine DL.op rfl (.free rfl) rfl rfl (Does.alloc i188) ?_
      rintro _ w9 ⟨b9, rfl, hn9⟩
      refine ⟨(Mod.drew _ _).trans hn9.grow, ?_⟩
      refine DL.op rfl (.free rfl) rfl rfl (Does.call rfl e108 (cloneB_ok No bodyQ _ _ ((hvs.mod (Mod.drew No _)).mod hn9.grow) (by decide))) ?_
      rintro u3 w3 ⟨hr3, hf3, hg3⟩
      refine ⟨((Mod.drew _ _).trans hn9.grow).trans hg3, ?_⟩
      obtain ⟨a3, c3, rfl⟩ := hr3.slice
      have ha9 := hn9.at_
      have hz9 := hn9.size
      simp only [World.drew] at ha9 hz9
      refine DL.qf rfl (.free rfl) rfl rfl (Yld.build (v := .agg (recQ 1 (.slice a3 15 c3) 6).toArray) rfl (fun w => by kernel_rfl)) ?_
      refine DL.op' rfl (.free rfl) rfl (Does.storeN i188 rfl rfl rfl rfl (hn9.blk.mod hg3 (fun h => h)) (Nat.le_refl 4)) ?_
      rintro _ w10 ⟨hb10, hm10, hs10⟩
      have hG : Grow w w10 := (((Mod.drew _ _).trans hn9.grow).trans hg3).then hm10 (fun x hx e => by have e' : x = b9 := e; omega)
      refine ⟨hG, ?_⟩
      refine DL.done ?_
      exact RK.back (hj (b9, a3, c3) _ ⟨hb10, hr3.mod hm10 (fun b e1 e2 => by have e' : b = b9 := e2; have := hf3 b e1; omega), hG, by simp only; omega⟩) ⟨rfl, rfl, rfl, trivial⟩
end Go.Proofs.YtnnmgfnhblbolaaGreatDoor
set_option linter.unusedVariables false
set_option linter.unusedSimpArgs false
set_option maxHeartbeats 6400000
set_option maxRecDepth 100000
namespace Go.Proofs.YtnnmgfnhblbolaaGreatDoor
open Go Go.X
theorem ruQ_few (a b c : Value) : (ruQ a b c).Few := ⟨by simp, by simp, by simp⟩
theorem ruleSameQ_ok (a1 a2 a3 b1 b2 b3 : Value) (w : World) (ha : (ruQ a1 a2 a3).Ok No w) (hb : (ruQ b1 b2 b3).Ok No w) : Fx Tryz.prog 123 [.agg (ruC (ruQ a1 a2 a3)).toArray, .agg (ruC (ruQ b1 b2 b3)).toArray] w (fun u w' => u = .bool true ∧ Grow w w') := by
  refine enter Tryz.func123 rfl rfl rfl _ (Pick.sub (l := [0, 1]) (.cons rfl (.cons rfl .nil))) ?_
  refine RK.seq ?_
  refine RK.region ?_
  refine RL.op (.free rfl) rfl rfl (Does.box rfl) ?_
  rintro _ w1 ⟨b2', rfl, hn2⟩
  refine RL.op (.free rfl) rfl rfl (Does.box rfl) ?_
  rintro _ w2 ⟨b3', rfl, hn3⟩
  have hA : Blk w2 b2' 36 (ruC (ruQ a1 a2 a3)) := hn2.blk.mod hn3.grow (fun h => h)
  have hB : Blk w2 b3' 36 (ruC (ruQ b1 b2 b3)) := hn3.blk
  have hAd := hA.mod (Mod.drew No _) (fun h => h)
  have hBd := hB.mod (Mod.drew No _) (fun h => h)
  have hG := (hn2.grow.trans hn3.grow).trans (Mod.drew No _)
  refine RL.p rfl rfl ?_
  refine RL.done ?_
  refine RK.seq ?_
  refine RK.drawM No [(0, false), (1, true), (2, false), (3, false), (4, true), (5, false), (6, false), (7, false), (9, false), (8, true), (10, true), (11, true), (12, false), (13, false)] [] mixed (by kernel_rfl) ?_
  refine DL.q rfl (.free rfl) rfl rfl rfl (Yld.loadN (cs := ruC (ruQ a1 a2 a3)) a36 rfl (atNM (blkV hAd) id)) (Mod.drew _ _) ?_
  refine DL.op rfl (.free rfl) rfl rfl (Does.call rfl e178 (isRule_ok No (ruQ a1 a2 a3) _ (ha.mod (Mod.any' hG)))) ?_
  rintro _ w3 ⟨rfl, hg3⟩
  refine ⟨(Mod.drew _ _).trans hg3, ?_⟩
  refine DL.p rfl rfl rfl ?_
  refine DL.knownT (d := 7) rfl rfl (ruQ_is _ _ _) ?_
  refine DL.q rfl (.yes rfl rfl rfl) rfl rfl rfl (Yld.loadN (cs := ruC (ruQ b1 b2 b3)) a36 rfl (atNM (blkV hBd) id)) ((Mod.drew _ _).trans hg3) ?_
  refine DL.op rfl (.yes rfl rfl rfl) rfl rfl (Does.call rfl e178 (isRule_ok No (ruQ b1 b2 b3) _ (hb.mod (Mod.any' (hG.trans hg3))))) ?_
  rintro _ w4 ⟨rfl, hg4⟩
  refine ⟨((Mod.drew _ _).trans hg3).trans hg4, ?_⟩
  iterate 2 refine DL.p rfl rfl rfl ?_
  refine DL.knownT (d := 11) rfl rfl (ruQ_is _ _ _) ?_
  refine DL.q rfl (.yes rfl rfl rfl) rfl rfl rfl (Yld.loadN (cs := ruC (ruQ a1 a2 a3)) a36 rfl (atNM (blkV hAd) id)) (((Mod.drew _ _).trans hg3).trans hg4) ?_
  refine DL.q rfl (.yes rfl rfl rfl) rfl rfl rfl (Yld.loadN (cs := ruC (ruQ b1 b2 b3)) a36 rfl (atNM (blkV hBd) id)) (((Mod.drew _ _).trans hg3).trans hg4) ?_
  refine DL.op rfl (.yes rfl rfl rfl) rfl rfl (Does.call rfl e103 (ruleBytesQ_ok _ _ _ _ (ha.mod (Mod.any' ((hG.trans hg3).trans hg4))))) ?_
  rintro u5 w5 ⟨hr5, hf5, hg5⟩
  refine ⟨(((Mod.drew _ _).trans hg3).trans hg4).trans hg5, ?_⟩
  refine DL.op rfl (.yes rfl rfl rfl) rfl rfl (Does.call rfl e103 (ruleBytesQ_ok _ _ _ _ (hb.mod (Mod.any' (((hG.trans hg3).trans hg4).trans hg5))))) ?_
  rintro u6 w6 ⟨hr6, hf6, hg6⟩
  refine ⟨((((Mod.drew _ _).trans hg3).trans hg4).trans hg5).trans hg6, ?_⟩
  refine DL.op rfl (.yes rfl rfl rfl) rfl rfl (Does.call rfl e190 (bytesEq_ok rbQ _ _ _ (slRow (hr5.mod hg6 (fun _ _ h => h))) (slRow hr6))) ?_
  rintro _ _ ⟨rfl, rfl⟩
  refine ⟨((((Mod.drew _ _).trans hg3).trans hg4).trans hg5).trans hg6, ?_⟩
  iterate 2 refine DL.p rfl rfl rfl ?_
  refine DL.done ?_
  refine RK.ret_of Tryz.func123 (res1 rfl rfl) ?_ _
  exact ⟨_, rfl, rfl, (((hG.trans hg3).trans hg4).trans hg5).trans hg6⟩
theorem ixR0_ok (f : Value) (w : World) : Fx Tryz.prog 189 [.slice none 0 0, f] w (fun u w' => u = .int .i64 (-1) ∧ w = w') := by
  refine enter Tryz.func189 rfl rfl rfl _ (Pick.sub (l := [0, 1]) (.cons rfl (.cons rfl .nil))) ?_
  refine RK.seq ?_
  refine RK.region ?_
  refine RL.p rfl rfl ?_
  refine RL.done ?_
  iterate 2 refine RK.seq ?_
  refine RK.region ?_
  refine RL.p rfl rfl ?_
  refine RL.q (.free rfl) rfl rfl (Yld.lenSl u77 rfl) ?_
  refine RL.p rfl rfl ?_
  refine RL.done ?_
  refine RK.block ?_
  refine RK.loop (fun _ : Unit => [(7, .int .i64 0), (8, .int .i64 0)]) (fun _ w' => w = w') (fun _ => 0) () ⟨rfl, rfl, trivial⟩ rfl (fun _ w' hI ih => ?_)
  subst hI
  refine RK.seq ?_
  refine RK.region ?_
  refine RL.p rfl rfl ?_
  refine RL.done ?_
  refine RK.seq ?_
  refine RK.condF (hcF rfl (rfl)) ?_
  refine RK.exit rfl ?_
  refine RK.seq ?_
  refine RK.region ?_
  refine RL.p rfl rfl ?_
  refine RL.done ?_
  refine RK.ret_of Tryz.func189 (res1 rfl rfl) ?_ _
  exact ⟨_, rfl, rfl, rfl⟩
theorem conR0_ok (f : Value) (w : World) : Fx Tryz.prog 121 [.slice none 0 0, f] w (fun u w' => u = .bool false ∧ w = w') := by
  refine enter Tryz.func121 rfl rfl rfl _ (Pick.sub (l := [0, 1]) (.cons rfl (.cons rfl .nil))) ?_
  refine RK.seq ?_
  refine RK.region ?_
  refine RL.p rfl rfl ?_
  refine RL.done ?_
  refine RK.seq ?_
  refine RK.region ?_
  iterate 2 refine RL.p rfl rfl ?_
  refine RL.op (.free rfl) rfl rfl (Does.call rfl e189 (ixR0_ok f _)) ?_
  rintro _ _ ⟨rfl, rfl⟩
  iterate 2 refine RL.p rfl rfl ?_
  refine RL.done ?_
  refine RK.ret_of Tryz.func121 (res1 rfl rfl) ?_ _
  exact ⟨_, rfl, rfl, rfl⟩
theorem sameR_ok (M : Nat → Prop) (w : World) (c mr mk : Nat) (v1 v2 v3 : Value) (h : CacheAt M w c mr mk (ruQ v1 v2 v3) ([], [])) (i : Int) (b1 b2 b3 : Value) (hb : (ruQ b1 b2 b3).Ok No w) (p : Nat) (hp : Blk w p 36 (ruC (ruQ b1 b2 b3))) : Fx Tryz.prog 122 [.agg #[.int .i64 i, pp c], pp p] w (fun u w' => u = .bool true ∧ Grow w w') := by
  refine enter Tryz.func122 rfl rfl rfl _ (Pick.sub (l := [0, 1]) (.cons rfl (.cons rfl .nil))) ?_
  refine RK.seq ?_
  refine RK.region ?_
  refine RL.op (.free rfl) rfl rfl (Does.box rfl) ?_
  rintro _ w1 ⟨b2', rfl, hn2⟩
  have hA : Blk w1 b2' 84 [.int .i64 i, pp c] := hn2.blk
  have hG := hn2.grow.trans (Mod.drew No _)
  have hpd := hp.mod hG (fun h => h)
  refine RL.p rfl rfl ?_
  refine RL.done ?_
  refine RK.seq ?_
  refine RK.drawM No [(0, false), (1, false), (3, false), (2, true), (4, true), (5, false)] [] mixed (by kernel_rfl) ?_
  refine DL.qf rfl (.free rfl) rfl rfl (Yld.fieldAddr fo84_1 rfl) ?_
  refine DL.q rfl (.free rfl) rfl rfl rfl (Yld.load p82 rfl (atM ((hA.mod (Mod.drew No _) (fun h => h)).cell rfl) id)) (Mod.drew _ _) ?_
  refine DL.q rfl (.free rfl) rfl rfl rfl (Yld.loadN (cs := ruC (ruQ b1 b2 b3)) a36 rfl (atNM (blkV hpd) id)) (Mod.drew _ _) ?_
  refine DL.op rfl (.free rfl) rfl rfl (Does.call rfl e124 (cacheRule_ok M _ c mr mk (ruQ v1 v2 v3) ([], []) (h.grow hG) (ruQ_few _ _ _))) ?_
  rintro _ w2 ⟨x1, x2, x3, rfl, hx, hg2⟩
  refine ⟨(Mod.drew _ _).trans hg2, ?_⟩
  refine DL.op rfl (.free rfl) rfl rfl (Does.call rfl e123 (ruleSameQ_ok x1 x2 x3 b1 b2 b3 _ hx (hb.mod (Mod.any' (hG.trans hg2))))) ?_
  rintro _ w3 ⟨rfl, hg3⟩
  refine ⟨((Mod.drew _ _).trans hg2).trans hg3, ?_⟩
  refine DL.p rfl rfl rfl ?_
  refine DL.done ?_
  refine RK.ret_of Tryz.func122 (res1 rfl rfl) ?_ _
  exact ⟨_, rfl, rfl, (hG.trans hg2).trans hg3⟩
theorem ixR1_ok (M : Nat → Prop) (w : World) (c mr mk : Nat) (v1 v2 v3 : Value) (h : CacheAt M w c mr mk (ruQ v1 v2 v3) ([], [])) (b1 b2 b3 : Value) (hb : (ruQ b1 b2 b3).Ok No w) (p : Nat) (hp : Blk w p 36 (ruC (ruQ b1 b2 b3))) (v : Value) (hv : Sl No w v 2 1 [.int .i64 1, pp c]) : Fx Tryz.prog 189 [v, .func (.func 122) #[] #[pp p]] w (fun u w' => u = .int .i64 0 ∧ Grow w w') := by
  obtain ⟨b, o, k, rfl, _, _, hc⟩ := hv.elem (f := fun x : Nat => [.int .i64 1, pp x]) (xs := [c]) (fun _ => rfl) (k := 0) (x := c) rfl
  refine enter Tryz.func189 rfl rfl rfl _ (Pick.sub (l := [0, 1]) (.cons rfl (.cons rfl .nil))) ?_
  refine RK.seq ?_
  refine RK.region ?_
  refine RL.p rfl rfl ?_
  refine RL.done ?_
  iterate 2 refine RK.seq ?_
  refine RK.region ?_
  refine RL.p rfl rfl ?_
  refine RL.q (.free rfl) rfl rfl (Yld.lenSl u77 rfl) ?_
  refine RL.p rfl rfl ?_
  refine RL.done ?_
  refine RK.block ?_
  refine RK.loop (fun _ : Unit => [(0, .slice (some ⟨b, o, none⟩) 1 k), (1, .func (.func 122) #[] #[pp p]), (7, .int .i64 1), (8, .int .i64 ((0 : Nat) : Int))]) (fun _ w' => w = w') (fun _ => 0) () ⟨rfl, rfl, rfl, rfl, trivial⟩ rfl (fun _ w' hI ih => ?_)
  subst hI
  refine RK.seq ?_
  refine RK.region ?_
  refine RL.p rfl rfl ?_
  refine RL.done ?_
  refine RK.seq ?_
  refine RK.condT (hcT rfl (rfl)) ?_
  refine RK.skip ?_
  refine RK.seq ?_
  refine RK.block ?_
  refine RK.seq ?_
  refine RK.region ?_
  iterate 2 refine RL.p rfl rfl ?_
  refine RL.done ?_
  refine RK.seq ?_
  refine RK.region ?_
  iterate 3 refine RL.p rfl rfl ?_
  refine RL.q (.free rfl) rfl rfl (Yld.indexAddrN u77 i84 rfl rfl ((by decide : 0 < 1))) ?_
  refine RL.q (.free rfl) rfl rfl (Yld.loadN (cs := [.int .i64 1, pp c]) a84 rfl (atN (hc))) ?_
  refine RL.op (.free rfl) rfl rfl (Does.callv rfl rfl e122 (sameR_ok M _ c mr mk v1 v2 v3 h 1 b1 b2 b3 hb p hp)) ?_
  rintro _ w2 ⟨rfl, hg2⟩
  refine RL.done ?_
  refine RK.condT (hcT rfl (rfl)) ?_
  refine RK.seq ?_
  refine RK.region ?_
  iterate 2 refine RL.p rfl rfl ?_
  refine RL.done ?_
  refine RK.ret_of Tryz.func189 (res1 rfl rfl) ?_ _
  exact ⟨_, rfl, rfl, hg2⟩
theorem conR1_ok (M : Nat → Prop) (w : World) (c mr mk : Nat) (v1 v2 v3 : Value) (h : CacheAt M w c mr mk (ruQ v1 v2 v3) ([], [])) (b1 b2 b3 : Value) (hb : (ruQ b1 b2 b3).Ok No w) (p : Nat) (hp : Blk w p 36 (ruC (ruQ b1 b2 b3))) (v : Value) (hv : Sl No w v 2 1 [.int .i64 1, pp c]) : Fx Tryz.prog 121 [v, .func (.func 122) #[] #[pp p]] w (fun u w' => u = .bool true ∧ Grow w w') := by
  refine enter Tryz.func121 rfl rfl rfl _ (Pick.sub (l := [0, 1]) (.cons rfl (.cons rfl .nil))) ?_
  refine RK.seq ?_
  refine RK.region ?_
  refine RL.p rfl rfl ?_
  refine RL.done ?_
  refine RK.seq ?_
  refine RK.region ?_
  iterate 2 refine RL.p rfl rfl ?_
  refine RL.op (.free rfl) rfl rfl (Does.call rfl e189 (ixR1_ok M _ c mr mk v1 v2 v3 h b1 b2 b3 hb p hp v hv)) ?_
  rintro _ w2 ⟨rfl, hg2⟩
  iterate 2 refine RL.p rfl rfl ?_
  refine RL.done ?_
  refine RK.ret_of Tryz.func121 (res1 rfl rfl) ?_ _
  exact ⟨_, rfl, rfl, hg2⟩
structure EmS (w : World) (sl al ix mr : Nat) : Prop where
  sil : ∃ x y z ad c, Blk w sl 113 [x, y, z, .slice ad 0 c]
  alr : ∃ x ad c, Blk w al 118 [x, pp ix, .slice ad 0 c]
  idx : ∃ x, Blk w ix 178 [x, .map (some mr)]
  mp : MapAt pairV w mr []
theorem EmS.mod {w w' : World} {M : Nat → Prop} {sl al ix mr : Nat} (h : EmS w sl al ix mr) (hm : Mod M w w') (h1 : ¬ M sl) (h2 : ¬ M al) (h3 : ¬ M ix) (h4 : ¬ M mr) : EmS w' sl al ix mr := by
  obtain ⟨x3, y3, z3, a3, c3, hs⟩ := h.sil
  obtain ⟨x4, a4, c4, ha⟩ := h.alr
  obtain ⟨x5, hi⟩ := h.idx
  exact ⟨⟨x3, y3, z3, a3, c3, hs.mod hm h1⟩, ⟨x4, a4, c4, ha.mod hm h2⟩, ⟨x5, hi.mod hm h3⟩, h.mp.mod hm h4⟩
theorem EmS.grow {w w' : World} {sl al ix mr : Nat} (h : EmS w sl al ix mr) (hg : Grow w w') : EmS w' sl al ix mr := h.mod hg (fun h => h) (fun h => h) (fun h => h) (fun h => h)
theorem eAll_ok {w : World} {sl al ix mr : Nat} (h : EmS w sl al ix mr) : Fx Tryz.prog 126 [pp al] w (fun u w' => u = .slice none 0 0 ∧ w = w') := by
  obtain ⟨x4, a4, c4, ha⟩ := h.alr
  refine enter Tryz.func126 rfl rfl rfl _ (Pick.sub (l := [0]) (.cons rfl .nil)) ?_
  refine RK.seq ?_
  refine RK.region ?_
  refine RL.p rfl rfl ?_
  refine RL.done ?_
  refine RK.seq ?_
  refine RK.region ?_
  refine RL.p rfl rfl ?_
  refine RL.done ?_
  iterate 2 refine RK.seq ?_
  refine RK.region ?_
  iterate 2 refine RL.p rfl rfl ?_
  refine RL.q (.free rfl) rfl rfl (Yld.fieldAddr fo118_2 rfl) ?_
  refine RL.q (.free rfl) rfl rfl (Yld.load p116 rfl (at1 (ha.cell rfl))) ?_
  refine RL.q (.free rfl) rfl rfl (Yld.lenSl u116 rfl) ?_
  refine RL.p rfl rfl ?_
  refine RL.done ?_
  refine RK.block ?_
  refine RK.loop (fun _ : Unit => [(3, .slice none 0 0), (10, .int .i64 0), (11, .int .i64 0)]) (fun _ w' => w = w') (fun _ => 0) () ⟨rfl, rfl, rfl, trivial⟩ rfl (fun _ w' hI ih => ?_)
  subst hI
  refine RK.seq ?_
  refine RK.region ?_
  refine RL.p rfl rfl ?_
  refine RL.done ?_
  refine RK.seq ?_
  refine RK.condF (hcF rfl (rfl)) ?_
  refine RK.exit rfl ?_
  refine RK.seq ?_
  refine RK.region ?_
  iterate 2 refine RL.p rfl rfl ?_
  refine RL.done ?_
  refine RK.ret_of Tryz.func126 (res1 rfl rfl) ?_ _
  exact ⟨_, rfl, rfl, rfl⟩
theorem rule1_ok {w : World} {pt dr sl al ids ix mr : Nat} (hb : Blk w pt 79 [pp dr, pp sl, pp al, pp ids, .slice none 0 0]) (hp : PoolAt w ids 6 0 [] (.slice none 0 0)) (he : EmS w sl al ix mr) (a1 : Option Addr) (c1 : Nat) (a2 : Option Addr) (c2 : Nat) (a3 : Option Addr) (c3 : Nat) (M0 : Nat → Prop) (hM0 : M0 ids) (hr : (ruQ (.slice a1 1 c1) (.slice a2 1 c2) (.slice a3 0 c3)).Ok M0 w) : Fx Tryz.prog 63 [pp pt, .agg (ruC (ruQ (.slice a1 1 c1) (.slice a2 1 c2) (.slice a3 0 c3))).toArray] w (fun u w' => u = .tuple #[.int .i64 1, .int .i64 0] ∧ ∃ vr c mrc mkc v1 v2 v3 vp lo hi, Blk w' pt 79 [pp dr, pp sl, pp al, pp ids, vr] ∧ Row w' 84 2 vr 1 [.int .i64 1, pp c] ∧ PoolAt w' ids 6 1 [1] vp ∧ CacheAt (fun b => b < lo ∨ hi ≤ b) w' c mrc mkc (ruQ v1 v2 v3) ([], []) ∧ (w.heap.size ≤ lo ∧ lo ≤ c ∧ lo ≤ mrc ∧ lo ≤ mkc ∧ c < hi ∧ mrc < hi ∧ mkc < hi ∧ hi ≤ w'.heap.size) ∧ Mod (fun b => b = pt ∨ b = ids) w w') := by
  have hptlt := hb.lt
  have hidlt := hp.blk.lt
  refine enter Tryz.func63 rfl rfl rfl _ (Pick.sub (l := [0, 1]) (.cons rfl (.cons rfl .nil))) ?_
  refine RK.seq ?_
  refine RK.region ?_
  refine RL.op (.free rfl) rfl rfl (Does.box rfl) ?_
  rintro _ w1 ⟨b3, rfl, hn3⟩
  have hB3 : Blk w1 b3 36 (ruC (ruQ (.slice a1 1 c1) (.slice a2 1 c2) (.slice a3 0 c3))) := hn3.blk
  have ha3 := hn3.at_
  have hz3 := hn3.size
  iterate 2 refine RL.p rfl rfl ?_
  refine RL.done ?_
  iterate 2 refine RK.seq ?_
  refine RK.region ?_
  refine RL.q (.free rfl) rfl rfl (Yld.loadN (cs := ruC (ruQ (.slice a1 1 c1) (.slice a2 1 c2) (.slice a3 0 c3))) a36 rfl (atN (blkV hB3))) ?_
  refine RL.op (.free rfl) rfl rfl (Does.call rfl e120 (largeRu_ok M0 (ruQ (.slice a1 1 c1) (.slice a2 1 c2) (.slice a3 0 c3)) _ (hr.mod (Mod.any' hn3.grow)))) ?_
  rintro _ w2 ⟨rfl, hg2⟩
  have hG2 := hn3.grow.trans hg2
  refine RL.done ?_
  refine RK.condF (hcF rfl (ruQ_large _ _ _)) ?_
  refine RK.skip ?_
  iterate 2 refine RK.seq ?_
  refine RK.region ?_
  iterate 2 refine RL.p rfl rfl ?_
  refine RL.q (.free rfl) rfl rfl (Yld.fieldAddr fo79_4 rfl) ?_
  refine RL.q (.free rfl) rfl rfl (Yld.load p77 rfl (at1 ((hb.mod hG2 (fun h => h)).cell rfl))) ?_
  refine RL.p rfl rfl ?_
  refine RL.op (.free rfl) rfl rfl (Does.call rfl e121 (conR0_ok _ _)) ?_
  rintro _ _ ⟨rfl, rfl⟩
  refine RL.done ?_
  refine RK.condF (hcF rfl (rfl)) ?_
  refine RK.skip ?_
  refine RK.seq ?_
  refine RK.region ?_
  iterate 2 refine RL.p rfl rfl ?_
  refine RL.q (.free rfl) rfl rfl (Yld.fieldAddr fo79_3 rfl) ?_
  refine RL.q (.free rfl) rfl rfl (Yld.load p75 rfl (at1 ((hb.mod hG2 (fun h => h)).cell rfl))) ?_
  refine RL.op (.free rfl) rfl rfl (Does.call rfl e114 (take_ok _ ids 6 0 [] _ (hp.grow' hG2) (by decide) (by decide) (by decide) (by decide) (by decide))) ?_
  rintro _ w4 ⟨rfl, vp, hP4, hm4, hvp⟩
  have hm4' : Mod (· = ids) w2 w4 := hm4.mono fun b _ e => e.elim id (fun e => by simp [Value.ownBlock] at e)
  have hz2 := hG2.size
  have hz4 := hm4'.size
  have hB34 := (hB3.mod hg2 (fun h => h)).mod hm4' (fun e => by have e' : b3 = ids := e; omega)
  have hr4 := (hr.mod (Mod.any' hG2)).mod (hm4'.mono fun b _ e => by have e' : b = ids := e; rw [e']; exact hM0)
  iterate 5 refine RL.p rfl rfl ?_
  refine RL.done ?_
  iterate 2 refine RK.seq ?_
  refine RK.region ?_
  iterate 2 refine RL.p rfl rfl ?_
  refine RL.done ?_
  refine RK.condF (hcF rfl (rfl)) ?_
  refine RK.skip ?_
  refine RK.seq ?_
  refine RK.region ?_
  refine RL.q (.free rfl) rfl rfl (Yld.loadN (cs := ruC (ruQ (.slice a1 1 c1) (.slice a2 1 c2) (.slice a3 0 c3))) a36 rfl (atN (blkV hB34))) ?_
  refine RL.op (.free rfl) rfl rfl (Does.call rfl e125 (cacheNew_ok M0 (ruQ (.slice a1 1 c1) (.slice a2 1 c2) (.slice a3 0 c3)) _ hr4 (ruQ_few _ _ _))) ?_
  rintro _ w5 ⟨c, mrc, mkc, v1, v2, v3, rfl, ⟨hc1, hc2, hc3, hc4⟩, hC5, hg5⟩
  have hz5 := hg5.size
  have hCC : CacheAt (fun b => b < w4.heap.size ∨ w5.heap.size ≤ b) w5 c mrc mkc (ruQ v1 v2 v3) ([], []) := hC5 _ (fun b hb e => by rcases e with e | e <;> omega)
  have hmrlt : mrc < w5.heap.size := by
      obtain ⟨l, _, h2, _⟩ := hCC.rl
      exact h2.lt
  have hmklt : mkc < w5.heap.size := hCC.kl.lt
  have hM5 : Mod (· = ids) w w5 := ((Mod.any' hG2).trans hm4').trans (Mod.any' hg5)
  have hbids : ∀ {x t : Nat} {xs : List Value}, Blk w x t xs → Nat.beq t 120 = false → Blk w5 x t xs := fun hx e => hx.mod hM5 (fun e2 => hx.ty.ne hp.blk.ty e e2)
  have he5 : EmS w5 sl al ix mr := by
      obtain ⟨x3, y3, z3, a3, c3, hs⟩ := he.sil
      obtain ⟨x4, a4, c4, ha⟩ := he.alr
      obtain ⟨x5, hi⟩ := he.idx
      exact he.mod hM5 (hs.ty.ne hp.blk.ty rfl) (ha.ty.ne hp.blk.ty rfl) (hi.ty.ne hp.blk.ty rfl) (fun e => hp.blk.ty.nem he.mp.mp e.symm)
  have hb5 := hbids hb rfl
  refine RL.p rfl rfl ?_
  refine RL.done ?_
  iterate 2 refine RK.seq ?_
  refine RK.region ?_
  iterate 2 refine RL.p rfl rfl ?_
  refine RL.q (.free rfl) rfl rfl (Yld.fieldAddr fo79_2 rfl) ?_
  refine RL.q (.free rfl) rfl rfl (Yld.load p73 rfl (at1 (hb5.cell rfl))) ?_
  refine RL.op (.free rfl) rfl rfl (Does.call rfl e126 (eAll_ok he5)) ?_
  rintro _ _ ⟨rfl, rfl⟩
  refine RL.q (.free rfl) rfl rfl (Yld.lenSl u116 rfl) ?_
  refine RL.p rfl rfl ?_
  refine RL.done ?_
  refine RK.block ?_
  refine RK.loop (fun _ : Unit => [(0, pp pt), (6, .int .i64 1), (8, pp c), (35, .slice none 0 0), (36, .int .i64 0), (37, .int .i64 0)]) (fun _ w' => w5 = w') (fun _ => 0) () ⟨rfl, rfl, rfl, rfl, rfl, rfl, trivial⟩ rfl (fun _ w' hI ih => ?_)
  subst hI
  refine RK.seq ?_
  refine RK.region ?_
  refine RL.p rfl rfl ?_
  refine RL.done ?_
  refine RK.seq ?_
  refine RK.condF (hcF rfl (rfl)) ?_
  refine RK.exit rfl ?_
  refine RK.seq ?_
  refine RK.region ?_
  iterate 3 refine RL.p rfl rfl ?_
  refine RL.q (.free rfl) rfl rfl (Yld.fieldAddr fo79_4 rfl) ?_
  refine RL.q (.free rfl) rfl rfl (Yld.load p77 rfl (at1 (hb5.cell rfl))) ?_
  iterate 2 refine RL.p rfl rfl ?_
  refine RL.q (.free rfl) rfl rfl (Yld.build (v := .agg #[.int .i64 1, pp c]) rfl (fun w => by kernel_rfl)) ?_
  refine RL.op (.free rfl) rfl rfl (Does.slice1 u77 i84 rfl rfl rfl rfl rfl) ?_
  rintro _ w6 ⟨b6, rfl, hn6⟩
  refine RL.op (.free rfl) rfl rfl (Does.append u77 i84 rfl rfl rfl rfl rfl (Row.nil _ _ _) (Sl.new hn6 2 1 rfl (by decide) (fun h => h)) (rfl) (by decide)) ?_
  rintro u7 w7 ⟨hr7, hm7, hu7⟩
  have hg57 : Grow w5 w7 := hn6.grow.trans (hm7.mono (fun b _ e => by simp [Value.ownBlock] at e))
  obtain ⟨a7, k7, rfl⟩ := hr7.slice
  have hz7 := hg57.size
  have hb7 := hb5.mod hg57 (fun h => h)
  refine RL.p rfl rfl ?_
  refine RL.q (.free rfl) rfl rfl (Yld.fieldAddr fo79_4 rfl) ?_
  refine RL.op' (.free rfl) rfl (Does.store i77 rfl rfl rfl hb7 (.s (.s (.s (.s .z))))) ?_
  rintro _ w8 ⟨hb8, hm8, hs8⟩
  have hP7 : PoolAt w7 ids 6 1 [1] vp := (hP4.grow' hg5).grow' hg57
  refine RL.done ?_
  refine RK.seq ?_
  refine RK.region ?_
  iterate 3 refine RL.p rfl rfl ?_
  refine RL.done ?_
  refine RK.ret_of Tryz.func63 (res2 rfl rfl rfl) ?_ _
  exact ⟨_, rfl, rfl, _, c, mrc, mkc, v1, v2, v3, vp, w4.heap.size, w5.heap.size, hb8, hr7.mod hm8 (fun b e1 e2 => (hr7.ty e1).ne hb7.ty rfl e2), ⟨hP7.blk.mod hm8 (hP7.blk.ty.ne hb7.ty rfl), hP7.row.mod hm8 (fun b e1 e2 => (hP7.row.ty e1).ne hb7.ty rfl e2), hP7.ne⟩, (hCC.grow hg57).mod hm8 (fun b _ e => by have e' : b = pt := e; exact .inl (by omega)) (by omega) (by omega) (by omega), ⟨by omega, by omega, by omega, by omega, by omega, by omega, by omega, by omega⟩, ((hM5.mono fun b _ e => .inr e).trans (Mod.any' hg57)).trans (hm8.mono fun b _ e => .inl e)⟩
theorem rule2_ok {w : World} {pt dr sl al ids : Nat} {vr : Value} (hb : Blk w pt 79 [pp dr, pp sl, pp al, pp ids, vr]) (M : Nat → Prop) (c mrc mkc : Nat) (v1 v2 v3 : Value) (hv : Row w 84 2 vr 1 [.int .i64 1, pp c]) (hC : CacheAt M w c mrc mkc (ruQ v1 v2 v3) ([], [])) (a1 : Option Addr) (c1 : Nat) (a2 : Option Addr) (c2 : Nat) (a3 : Option Addr) (c3 : Nat) (M0 : Nat → Prop) (hr : (ruQ (.slice a1 1 c1) (.slice a2 1 c2) (.slice a3 0 c3)).Ok M0 w) : Fx Tryz.prog 63 [pp pt, .agg (ruC (ruQ (.slice a1 1 c1) (.slice a2 1 c2) (.slice a3 0 c3))).toArray] w (fun u w' => u = .tuple #[.int .i64 0, .int .i64 6] ∧ Grow w w') := by
  obtain ⟨ar, kr, rfl⟩ := hv.slice
  refine enter Tryz.func63 rfl rfl rfl _ (Pick.sub (l := [0, 1]) (.cons rfl (.cons rfl .nil))) ?_
  refine RK.seq ?_
  refine RK.region ?_
  refine RL.op (.free rfl) rfl rfl (Does.box rfl) ?_
  rintro _ w1 ⟨b3, rfl, hn3⟩
  have hB3 : Blk w1 b3 36 (ruC (ruQ (.slice a1 1 c1) (.slice a2 1 c2) (.slice a3 0 c3))) := hn3.blk
  iterate 2 refine RL.p rfl rfl ?_
  refine RL.done ?_
  iterate 2 refine RK.seq ?_
  refine RK.region ?_
  refine RL.q (.free rfl) rfl rfl (Yld.loadN (cs := ruC (ruQ (.slice a1 1 c1) (.slice a2 1 c2) (.slice a3 0 c3))) a36 rfl (atN (blkV hB3))) ?_
  refine RL.op (.free rfl) rfl rfl (Does.call rfl e120 (largeRu_ok M0 (ruQ (.slice a1 1 c1) (.slice a2 1 c2) (.slice a3 0 c3)) _ (hr.mod (Mod.any' hn3.grow)))) ?_
  rintro _ w2 ⟨rfl, hg2⟩
  have hG2 := hn3.grow.trans hg2
  refine RL.done ?_
  refine RK.condF (hcF rfl (ruQ_large _ _ _)) ?_
  refine RK.skip ?_
  iterate 2 refine RK.seq ?_
  refine RK.region ?_
  iterate 2 refine RL.p rfl rfl ?_
  refine RL.q (.free rfl) rfl rfl (Yld.fieldAddr fo79_4 rfl) ?_
  refine RL.q (.free rfl) rfl rfl (Yld.load p77 rfl (at1 ((hb.mod hG2 (fun h => h)).cell rfl))) ?_
  refine RL.p rfl rfl ?_
  refine RL.op (.free rfl) rfl rfl (Does.call rfl e121 (conR1_ok M _ c mrc mkc v1 v2 v3 (hC.grow hG2) _ _ _ (hr.noM'.mod (Mod.any' hG2)) b3 (hB3.mod hg2 (fun h => h)) _ (slRow (hv.mod hG2 (fun _ _ h => h))))) ?_
  rintro _ w3 ⟨rfl, hg3⟩
  refine RL.done ?_
  refine RK.condT (hcT rfl (rfl)) ?_
  refine RK.seq ?_
  refine RK.region ?_
  iterate 2 refine RL.p rfl rfl ?_
  refine RL.done ?_
  refine RK.ret_of Tryz.func63 (res2 rfl rfl rfl) ?_ _
  exact ⟨_, rfl, rfl, hG2.trans hg3⟩
end Go.Proofs.YtnnmgfnhblbolaaGreatDoor
set_option linter.unusedVariables false
set_option linter.unusedSimpArgs false
set_option maxHeartbeats 6400000
set_option maxRecDepth 100000
namespace Go.Proofs.YtnnmgfnhblbolaaGreatDoor
open Go Go.X
def RuAt (base top : Nat) (w : World) (pt dr sl al ids c : Nat) (vr vp : Value) : Prop := Blk w pt 79 [pp dr, pp sl, pp al, pp ids, vr] ∧ Row w 84 2 vr 1 [.int .i64 1, pp c] ∧ PoolAt w ids 6 1 [1] vp ∧ ∃ mrc mkc v1 v2 v3 lo hi, CacheAt (fun b => b < lo ∨ hi ≤ b) w c mrc mkc (ruQ v1 v2 v3) ([], []) ∧ (base ≤ lo ∧ lo ≤ c ∧ lo ≤ mrc ∧ lo ≤ mkc ∧ c < hi ∧ mrc < hi ∧ mkc < hi ∧ hi ≤ top)
theorem RuAt.mod {base top : Nat} {w w' : World} {M : Nat → Prop} {pt dr sl al ids c : Nat} {vr vp : Value} (h : RuAt base top w pt dr sl al ids c vr vp) (hm : Mod M w w') (hM : ∀ b, b < w.heap.size → M b → b < base ∨ top ≤ b) (h1 : ¬ M pt) (h2 : ¬ M ids) (h3 : ∀ b, vr.ownBlock = some b → ¬ M b) (h4 : ∀ b, vp.ownBlock = some b → ¬ M b) : RuAt base top w' pt dr sl al ids c vr vp := by
  obtain ⟨hb, hv, hp, mrc, mkc, v1, v2, v3, lo, hi, hC, hq⟩ := h
  have hk : ∀ x, lo ≤ x → x < hi → x < w.heap.size → ¬ M x := fun x e1 e2 e4 e3 => by have := hM x e4 e3; omega
  have hmrlt : mrc < w.heap.size := by
    obtain ⟨l, _, h2, _⟩ := hC.rl
    exact h2.lt
  exact ⟨hb.mod hm h1, hv.mod hm h3, ⟨hp.blk.mod hm h2, hp.row.mod hm h4, hp.ne⟩, mrc, mkc, v1, v2, v3, lo, hi, hC.mod hm (fun b hb e => by have := hM b hb e; omega) (hk _ (by omega) (by omega) hC.blk.lt) (hk _ (by omega) (by omega) hmrlt) (hk _ (by omega) (by omega) hC.kl.lt), hq⟩
theorem RuAt.grow {base top : Nat} {w w' : World} {pt dr sl al ids c : Nat} {vr vp : Value} (h : RuAt base top w pt dr sl al ids c vr vp) (hg : Grow w w') : RuAt base top w' pt dr sl al ids c vr vp := h.mod hg (fun _ _ e => e.elim) (fun e => e) (fun e => e) (fun _ _ e => e) (fun _ _ e => e)
theorem EmS.modT {w w' : World} {M : Nat → Prop} {sl al ix mr : Nat} (h : EmS w sl al ix mr) (hm : Mod M w w') (hM : ∀ b, M b → ∃ t, Ty w b t ∧ Nat.beq 113 t = false ∧ Nat.beq 118 t = false ∧ Nat.beq 178 t = false) : EmS w' sl al ix mr := by
  obtain ⟨x3, y3, z3, a3, c3, hs⟩ := h.sil
  obtain ⟨x4, a4, c4, ha⟩ := h.alr
  obtain ⟨x5, hi⟩ := h.idx
  exact h.mod hm (fun e => by obtain ⟨t, ht, h1, h2, h3⟩ := hM _ e; exact hs.ty.ne ht h1 rfl) (fun e => by obtain ⟨t, ht, h1, h2, h3⟩ := hM _ e; exact ha.ty.ne ht h2 rfl) (fun e => by obtain ⟨t, ht, h1, h2, h3⟩ := hM _ e; exact hi.ty.ne ht h3 rfl) (fun e => by obtain ⟨t, ht, h1, h2, h3⟩ := hM _ e; exact ht.nem h.mp.mp rfl)
theorem partNow_ok {w : World} {pt dr q sl al ids : Nat} {vr : Value} {ow now most : Int} {n : Nat} {v : Value} {cs ds : List Value} (hb : Blk w pt 79 [pp dr, pp sl, pp al, pp ids, vr]) (hd : DoorAt w dr q ow now most n v cs ds) : Fx Tryz.prog 58 [pp pt] w (fun u w' => u = .int .u64 now ∧ w = w') := by
  refine enter Tryz.func58 rfl rfl rfl _ (Pick.sub (l := [0]) (.cons rfl .nil)) ?_
  refine RK.seq ?_
  refine RK.region ?_
  refine RL.p rfl rfl ?_
  refine RL.done ?_
  refine RK.seq ?_
  refine RK.region ?_
  iterate 2 refine RL.p rfl rfl ?_
  refine RL.q (.free rfl) rfl rfl (Yld.fieldAddr fo79_0 rfl) ?_
  refine RL.q (.free rfl) rfl rfl (Yld.load p69 rfl (at1 (hb.cell rfl))) ?_
  refine RL.op (.free rfl) rfl rfl (Does.call rfl e111 (doorNow_ok hd)) ?_
  rintro _ _ ⟨rfl, rfl⟩
  refine RL.p rfl rfl ?_
  refine RL.done ?_
  refine RK.ret_of Tryz.func58 (res1 rfl rfl) ?_ _
  exact ⟨_, rfl, rfl, rfl⟩
theorem partAns1_ok {w : World} {pt dr q sl al ids ix mr : Nat} {ds : List Value} (hb : Blk w pt 79 [pp dr, pp sl, pp al, pp ids, .slice none 0 0]) (hd : DoorAt w dr q 3 0 9 0 (.slice none 0 0) [] ds) (hp : PoolAt w ids 6 0 [] (.slice none 0 0)) (he : EmS w sl al ix mr) (a1 : Option Addr) (c1 : Nat) (a2 : Option Addr) (c2 : Nat) (a3 : Option Addr) (c3 : Nat) (M0 : Nat → Prop) (hM0 : M0 ids) (hr : (ruQ (.slice a1 1 c1) (.slice a2 1 c2) (.slice a3 0 c3)).Ok M0 w) : Fx Tryz.prog 25 [pp pt, .agg (reqQ a1 c1 a2 c2 a3 c3).toArray] w (fun u w' => u = .agg (respC 0 0 1 0).toArray ∧ (∃ base top c vr vp, RuAt base top w' pt dr sl al ids c vr vp ∧ w.heap.size ≤ base ∧ top ≤ w'.heap.size) ∧ Mod (fun b => b = pt ∨ b = ids) w w') := by
  have hptlt := hb.lt
  have hidlt := hp.blk.lt
  refine enter Tryz.func25 rfl rfl rfl _ (Pick.sub (l := [0, 1]) (.cons rfl (.cons rfl .nil))) ?_
  refine RK.seq ?_
  refine RK.region ?_
  refine RL.op (.free rfl) rfl rfl (Does.box rfl) ?_
  rintro _ w3 ⟨b3, rfl, hn3⟩
  refine RL.op (.free rfl) rfl rfl (Does.alloc i46) ?_
  rintro _ w4 ⟨b4, rfl, hn4⟩
  refine RL.done ?_
  refine RK.seq ?_
  refine RK.region ?_
  refine RL.op (.free rfl) rfl rfl (Does.alloc i46) ?_
  rintro _ w5 ⟨b5, rfl, hn5⟩
  have hB3 : Blk w3 b3 39 (reqQ a1 c1 a2 c2 a3 c3) := hn3.blk
  have hB4 : Blk w4 b4 46 (respC 0 0 0 0) := hn4.blk
  have hB5 : Blk w5 b5 46 (respC 0 0 0 0) := hn5.blk
  have ha3 := hn3.at_
  have ha4 := hn4.at_
  have ha5 := hn5.at_
  have hz3 := hn3.size
  have hz4 := hn4.size
  have hz5 := hn5.size
  have hG5 := (hn3.grow.trans hn4.grow).trans hn5.grow
  have hB35 := hB3.mod (hn4.grow.trans hn5.grow) (fun h => h)
  have hB45 := hB4.mod hn5.grow (fun h => h)
  refine RL.done ?_
  iterate 2 refine RK.seq ?_
  refine RK.region ?_
  refine RL.p rfl rfl ?_
  refine RL.op (.free rfl) rfl rfl (Does.call rfl e58 (partNow_ok (hb.mod hG5 (fun h => h)) (hd.grow hG5))) ?_
  rintro _ _ ⟨rfl, rfl⟩
  refine RL.p rfl rfl ?_
  refine RL.done ?_
  refine RK.seq ?_
  refine RK.region ?_
  refine RL.q (.free rfl) rfl rfl (Yld.fieldAddr fo39_1 rfl) ?_
  refine RL.q (.free rfl) rfl rfl (Yld.load p3 rfl (at1 (hB35.cell rfl))) ?_
  refine RL.done ?_
  refine RK.block ?_
  refine RK.seq ?_
  refine RK.region ?_
  iterate 2 refine RL.p rfl rfl ?_
  refine RL.done ?_
  refine RK.condF (hcF rfl (rfl)) ?_
  refine RK.seq ?_
  refine RK.region ?_
  iterate 2 refine RL.p rfl rfl ?_
  refine RL.done ?_
  refine RK.condF (hcF rfl (rfl)) ?_
  refine RK.seq ?_
  refine RK.region ?_
  iterate 2 refine RL.p rfl rfl ?_
  refine RL.done ?_
  refine RK.condF (hcF rfl (rfl)) ?_
  refine RK.seq ?_
  refine RK.region ?_
  iterate 2 refine RL.p rfl rfl ?_
  refine RL.done ?_
  refine RK.condF (hcF rfl (rfl)) ?_
  refine RK.seq ?_
  refine RK.region ?_
  iterate 2 refine RL.p rfl rfl ?_
  refine RL.done ?_
  refine RK.condT (hcT rfl (rfl)) ?_
  refine RK.region ?_
  refine RL.p rfl rfl ?_
  refine RL.q (.free rfl) rfl rfl (Yld.fieldAddr fo39_9 rfl) ?_
  refine RL.q (.free rfl) rfl rfl (Yld.loadN (cs := ruC (ruQ (.slice a1 1 c1) (.slice a2 1 c2) (.slice a3 0 c3))) a36 rfl (atN (fldV hB35 11 6))) ?_
  refine RL.op (.free rfl) rfl rfl (Does.call rfl e63 (rule1_ok (hb.mod hG5 (fun h => h)) (hp.grow' hG5) (he.grow hG5) a1 c1 a2 c2 a3 c3 M0 hM0 (hr.mod (Mod.any' hG5)))) ?_
  rintro _ w6 ⟨rfl, vr, c, mrc, mkc, v1, v2, v3, vp, lo, hi, hb6, hv6, hp6, hC6, hq6, hm6⟩
  have hR6 : RuAt w5.heap.size w6.heap.size w6 pt dr sl al ids c vr vp := ⟨hb6, hv6, hp6, mrc, mkc, v1, v2, v3, lo, hi, hC6, by omega⟩
  have hB56 := hB5.mod hm6 (fun e => by rcases e with e | e <;> omega)
  iterate 3 refine RL.p rfl rfl ?_
  refine RL.q (.free rfl) rfl rfl (Yld.fieldAddr fo46_2 rfl) ?_
  refine RL.op' (.free rfl) rfl (Does.store i3 rfl rfl rfl hB56 (.s (.s .z))) ?_
  rintro _ w7 ⟨hb7, hm7, hs7⟩
  refine RL.q (.free rfl) rfl rfl (Yld.fieldAddr fo46_0 rfl) ?_
  refine RL.op' (.free rfl) rfl (Does.store i40 rfl rfl rfl hb7 (.z)) ?_
  rintro _ w8 ⟨hb8, hm8, hs8⟩
  have hB8 : Blk w8 b5 46 (respC 0 0 1 0) := hb8
  have hm68 : Mod (· = b5) w6 w8 := hm7.trans hm8
  have hB48 := (hB45.mod hm6 (fun e => by rcases e with e | e <;> omega)).mod hm68 (fun e => by have e' : b4 = b5 := e; omega)
  refine RL.done ?_
  refine RK.inBlock ?_
  refine RK.seq ?_
  refine RK.region ?_
  refine RL.q (.free rfl) rfl rfl (Yld.loadN (cs := respC 0 0 1 0) a46 rfl (atN (blkV hB8))) ?_
  refine RL.op' (.free rfl) rfl (Does.storeN i46 rfl rfl rfl rfl hB48 (Nat.le_of_ble_eq_true rfl)) ?_
  rintro _ w9 ⟨hb9, hm9, hs9⟩
  have hm69 : Mod (fun b => b = b5 ∨ b = b4) w6 w9 := (hm68.mono fun b _ e => .inl e).trans (hm9.mono fun b _ e => .inr e)
  have hz6 := hm6.size
  have hz9 := hm69.size
  have hB46 := hB45.mod hm6 (fun e => by rcases e with e | e <;> omega)
  refine RL.done ?_
  refine RK.ret_of Tryz.func25 (resC (cs := respC 0 0 1 0) rfl rfl a46 hb9) ?_ _
  exact ⟨_, rfl, rfl, ⟨_, _, c, vr, vp, hR6.mod hm69 (fun b _ e => by rcases e with e | e <;> (left; omega)) (fun e => by rcases e with e | e <;> omega) (fun e => by rcases e with e | e <;> omega) (fun b e1 e => e.elim ((hv6.ty e1).ne hB56.ty rfl) ((hv6.ty e1).ne hB46.ty rfl)) (fun b e1 e => e.elim ((hp6.row.ty e1).ne hB56.ty rfl) ((hp6.row.ty e1).ne hB46.ty rfl)), by omega, by omega⟩, ((Mod.any' hG5).trans hm6).then hm69 (fun x hx e => by rcases e with e | e <;> omega)⟩
theorem partAns2_ok {w : World} {pt dr q sl al ids : Nat} {base top c : Nat} {vr vp v : Value} {n : Nat} {cs ds : List Value} (hR : RuAt base top w pt dr sl al ids c vr vp) (hd : DoorAt w dr q 3 0 9 n v cs ds) (a1 : Option Addr) (c1 : Nat) (a2 : Option Addr) (c2 : Nat) (a3 : Option Addr) (c3 : Nat) (M0 : Nat → Prop) (hr : (ruQ (.slice a1 1 c1) (.slice a2 1 c2) (.slice a3 0 c3)).Ok M0 w) : Fx Tryz.prog 25 [pp pt, .agg (reqQ a1 c1 a2 c2 a3 c3).toArray] w (fun u w' => u = .agg (respC 6 0 0 0).toArray ∧ Grow w w') := by
  obtain ⟨hb, hv, hp, mrc, mkc, v1, v2, v3, lo, hi, hC, hq⟩ := hR
  refine enter Tryz.func25 rfl rfl rfl _ (Pick.sub (l := [0, 1]) (.cons rfl (.cons rfl .nil))) ?_
  refine RK.seq ?_
  refine RK.region ?_
  refine RL.op (.free rfl) rfl rfl (Does.box rfl) ?_
  rintro _ w3 ⟨b3, rfl, hn3⟩
  refine RL.op (.free rfl) rfl rfl (Does.alloc i46) ?_
  rintro _ w4 ⟨b4, rfl, hn4⟩
  refine RL.done ?_
  refine RK.seq ?_
  refine RK.region ?_
  refine RL.op (.free rfl) rfl rfl (Does.alloc i46) ?_
  rintro _ w5 ⟨b5, rfl, hn5⟩
  have hB3 : Blk w3 b3 39 (reqQ a1 c1 a2 c2 a3 c3) := hn3.blk
  have hB4 : Blk w4 b4 46 (respC 0 0 0 0) := hn4.blk
  have hB5 : Blk w5 b5 46 (respC 0 0 0 0) := hn5.blk
  have ha3 := hn3.at_
  have ha4 := hn4.at_
  have ha5 := hn5.at_
  have hz3 := hn3.size
  have hz4 := hn4.size
  have hz5 := hn5.size
  have hG5 := (hn3.grow.trans hn4.grow).trans hn5.grow
  have hB35 := hB3.mod (hn4.grow.trans hn5.grow) (fun h => h)
  have hB45 := hB4.mod hn5.grow (fun h => h)
  refine RL.done ?_
  iterate 2 refine RK.seq ?_
  refine RK.region ?_
  refine RL.p rfl rfl ?_
  refine RL.op (.free rfl) rfl rfl (Does.call rfl e58 (partNow_ok (hb.mod hG5 (fun h => h)) (hd.grow hG5))) ?_
  rintro _ _ ⟨rfl, rfl⟩
  refine RL.p rfl rfl ?_
  refine RL.done ?_
  refine RK.seq ?_
  refine RK.region ?_
  refine RL.q (.free rfl) rfl rfl (Yld.fieldAddr fo39_1 rfl) ?_
  refine RL.q (.free rfl) rfl rfl (Yld.load p3 rfl (at1 (hB35.cell rfl))) ?_
  refine RL.done ?_
  refine RK.block ?_
  refine RK.seq ?_
  refine RK.region ?_
  iterate 2 refine RL.p rfl rfl ?_
  refine RL.done ?_
  refine RK.condF (hcF rfl (rfl)) ?_
  refine RK.seq ?_
  refine RK.region ?_
  iterate 2 refine RL.p rfl rfl ?_
  refine RL.done ?_
  refine RK.condF (hcF rfl (rfl)) ?_
  refine RK.seq ?_
  refine RK.region ?_
  iterate 2 refine RL.p rfl rfl ?_
  refine RL.done ?_
  refine RK.condF (hcF rfl (rfl)) ?_
  refine RK.seq ?_
  refine RK.region ?_
  iterate 2 refine RL.p rfl rfl ?_
  refine RL.done ?_
  refine RK.condF (hcF rfl (rfl)) ?_
  refine RK.seq ?_
  refine RK.region ?_
  iterate 2 refine RL.p rfl rfl ?_
  refine RL.done ?_
  refine RK.condT (hcT rfl (rfl)) ?_
  refine RK.region ?_
  refine RL.p rfl rfl ?_
  refine RL.q (.free rfl) rfl rfl (Yld.fieldAddr fo39_9 rfl) ?_
  refine RL.q (.free rfl) rfl rfl (Yld.loadN (cs := ruC (ruQ (.slice a1 1 c1) (.slice a2 1 c2) (.slice a3 0 c3))) a36 rfl (atN (fldV hB35 11 6))) ?_
  refine RL.op (.free rfl) rfl rfl (Does.call rfl e63 (rule2_ok (hb.mod hG5 (fun h => h)) _ c mrc mkc v1 v2 v3 (hv.mod hG5 (fun _ _ h => h)) (hC.grow hG5) a1 c1 a2 c2 a3 c3 M0 (hr.mod (Mod.any' hG5)))) ?_
  rintro _ w6 ⟨rfl, hg6⟩
  have hB56 := hB5.mod hg6 (fun h => h)
  iterate 3 refine RL.p rfl rfl ?_
  refine RL.q (.free rfl) rfl rfl (Yld.fieldAddr fo46_2 rfl) ?_
  refine RL.op' (.free rfl) rfl (Does.store i3 rfl rfl rfl hB56 (.s (.s .z))) ?_
  rintro _ w7 ⟨hb7, hm7, hs7⟩
  refine RL.q (.free rfl) rfl rfl (Yld.fieldAddr fo46_0 rfl) ?_
  refine RL.op' (.free rfl) rfl (Does.store i40 rfl rfl rfl hb7 (.z)) ?_
  rintro _ w8 ⟨hb8, hm8, hs8⟩
  have hB8 : Blk w8 b5 46 (respC 6 0 0 0) := hb8
  have hm68 : Mod (· = b5) w6 w8 := hm7.trans hm8
  have hB48 := (hB45.mod hg6 (fun h => h)).mod hm68 (fun e => by have e' : b4 = b5 := e; omega)
  refine RL.done ?_
  refine RK.inBlock ?_
  refine RK.seq ?_
  refine RK.region ?_
  refine RL.q (.free rfl) rfl rfl (Yld.loadN (cs := respC 6 0 0 0) a46 rfl (atN (blkV hB8))) ?_
  refine RL.op' (.free rfl) rfl (Does.storeN i46 rfl rfl rfl rfl hB48 (Nat.le_of_ble_eq_true rfl)) ?_
  rintro _ w9 ⟨hb9, hm9, hs9⟩
  refine RL.done ?_
  refine RK.ret_of Tryz.func25 (resC (cs := respC 6 0 0 0) rfl rfl a46 hb9) ?_ _
  exact ⟨_, rfl, rfl, ((hG5.trans hg6).then hm68 (fun x hx e => by have e' : x = b5 := e; omega)).then hm9 (fun x hx e => by have e' : x = b4 := e; omega)⟩
end Go.Proofs.YtnnmgfnhblbolaaGreatDoor
set_option linter.unusedVariables false
set_option linter.unusedSimpArgs false
set_option maxHeartbeats 6400000
set_option maxRecDepth 100000
namespace Go.Proofs.YtnnmgfnhblbolaaGreatDoor
open Go Go.X
theorem may19_ok (w : World) : Fx Tryz.prog 54 [.int .i64 1, .int .i64 9] w (fun u w' => u = .bool true ∧ w = w') := by
  refine enter Tryz.func54 rfl rfl rfl _ (Pick.sub (l := [0, 1]) (.cons rfl (.cons rfl .nil))) ?_
  refine RK.seq ?_
  refine RK.region ?_
  refine RL.p rfl rfl ?_
  refine RL.done ?_
  refine RK.seq ?_
  refine RK.block ?_
  refine RK.seq ?_
  refine RK.region ?_
  iterate 3 refine RL.p rfl rfl ?_
  refine RL.done ?_
  refine RK.condF (hcF rfl (rfl)) ?_
  refine RK.seq ?_
  refine RK.region ?_
  iterate 3 refine RL.p rfl rfl ?_
  refine RL.knownF (d := 11) rfl rfl (rfl) ?_
  iterate 2 refine RL.q (.yes rfl rfl rfl) rfl rfl (Yld.pure rfl) ?_
  iterate 2 refine RL.p rfl rfl ?_
  refine RL.done ?_
  refine RK.condF (hcF rfl (rfl)) ?_
  refine RK.seq ?_
  refine RK.region ?_
  iterate 3 refine RL.p rfl rfl ?_
  refine RL.done ?_
  refine RK.condF (hcF rfl (rfl)) ?_
  refine RK.skip ?_
  refine RK.inBlock ?_
  refine RK.seq ?_
  refine RK.region ?_
  iterate 3 refine RL.p rfl rfl ?_
  refine RL.knownT (d := 26) rfl rfl (rfl) ?_
  iterate 2 refine RL.q (.yes rfl rfl rfl) rfl rfl (Yld.pure rfl) ?_
  iterate 2 refine RL.p rfl rfl ?_
  refine RL.done ?_
  refine RK.ret_of Tryz.func54 (res1 rfl rfl) ?_ _
  exact ⟨_, rfl, rfl, rfl⟩
theorem doorQ1_ok {w : World} {pt dr q sl al ids ix mr : Nat} {ds : List Value} (hb : Blk w pt 79 [pp dr, pp sl, pp al, pp ids, .slice none 0 0]) (hd : DoorAt w dr q 3 0 9 0 (.slice none 0 0) [] ds) (hp : PoolAt w ids 6 0 [] (.slice none 0 0)) (he : EmS w sl al ix mr) (hK : KeysAt w) (h0 : 0 < pt ∧ 0 < ids ∧ 0 < q) (a1 : Option Addr) (c1 : Nat) (a2 : Option Addr) (c2 : Nat) (a3 : Option Addr) (c3 : Nat) (M0 : Nat → Prop) (hM0 : M0 ids) (hr : (ruQ (.slice a1 1 c1) (.slice a2 1 c2) (.slice a3 0 c3)).Ok M0 w) : Fx Tryz.prog 24 [pp dr, .agg (reqQ a1 c1 a2 c2 a3 c3).toArray, .int .i64 1, .func (.func 25) #[pp pt] #[]] w (fun u w' => u = .agg (respC 0 9 1 0).toArray ∧ (∃ base top c vr vp a' k' a9 c9 ds', RuAt base top w' pt dr sl al ids c vr vp ∧ w.heap.size ≤ base ∧ top ≤ w'.heap.size ∧ DoorAt w' dr q 3 0 9 1 (.slice a' 1 k') (recQ 0 (.slice a9 15 c9) 0) ds' ∧ ∀ b, (Value.slice a' 1 k').ownBlock = some b → top ≤ b) ∧ Mod (fun b => b = pt ∨ b = ids ∨ b = q) w w') := by
  have hptlt := hb.lt
  have hidlt := hp.blk.lt
  have hqlt := hd.ch.blk.lt
  have hqpt : q ≠ pt := hd.ch.blk.ty.ne hb.ty rfl
  have hqid : q ≠ ids := hd.ch.blk.ty.ne hp.blk.ty rfl
  refine enter Tryz.func24 rfl rfl rfl _ (Pick.sub (l := [0, 1, 2, 3]) (.cons rfl (.cons rfl (.cons rfl (.cons rfl .nil))))) ?_
  refine RK.seq ?_
  refine RK.region ?_
  refine RL.op (.free rfl) rfl rfl (Does.box rfl) ?_
  rintro _ w1 ⟨b5, rfl, hn5⟩
  refine RL.op (.free rfl) rfl rfl (Does.alloc i46) ?_
  rintro _ w2 ⟨b8, rfl, hn8⟩
  have hB5 : Blk w1 b5 39 (reqQ a1 c1 a2 c2 a3 c3) := hn5.blk
  have hB8 : Blk w2 b8 46 (respC 0 0 0 0) := hn8.blk
  have hB52 := hB5.mod hn8.grow (fun h => h)
  have ha5 := hn5.at_
  have ha8 := hn8.at_
  have hz5 := hn5.size
  have hz8 := hn8.size
  refine RL.done ?_
  refine RK.seq ?_
  refine RK.region ?_
  refine RL.q (.free rfl) rfl rfl (Yld.loadN (cs := reqQ a1 c1 a2 c2 a3 c3) a39 rfl (atN (blkV hB52))) ?_
  refine RL.op (.free rfl) rfl rfl (Does.call rfl e51 (bodyQ_ok a1 c1 a2 c2 a3 c3 _ (hr.noM'.mod (Mod.any' (hn5.grow.trans hn8.grow))))) ?_
  rintro _ w3 ⟨g, gc, rfl, hr3, hf3, hg3⟩
  have hG3 : Grow w w3 := (hn5.grow.trans hn8.grow).trans hg3
  have hd3 := hd.grow hG3
  refine RL.p rfl rfl ?_
  refine RL.done ?_
  iterate 2 refine RK.seq ?_
  refine RK.region ?_
  refine RL.p rfl rfl ?_
  refine RL.q (.free rfl) rfl rfl (Yld.eqNil u43 rfl rfl) ?_
  refine RL.done ?_
  refine RK.condF (hcF rfl (rfl)) ?_
  refine RK.skip ?_
  iterate 2 refine RK.seq ?_
  refine RK.region ?_
  iterate 2 refine RL.p rfl rfl ?_
  refine RL.q (.free rfl) rfl rfl (Yld.fieldAddr fo109_2 rfl) ?_
  refine RL.q (.free rfl) rfl rfl (Yld.load p106 rfl (at1 (hd3.blk.cell rfl))) ?_
  refine RL.op (.free rfl) rfl rfl (Does.call rfl e52 (full_ok hd3.ch)) ?_
  rintro _ w4 ⟨rfl, hg4⟩
  have hz3 := hG3.size
  have hz3b := hg3.size
  have hz4 := hg4.size
  refine RL.p rfl rfl ?_
  refine RL.knownF (d := 21) rfl rfl (by decide) ?_
  iterate 4 refine RL.no (.no rfl rfl rfl rfl) rfl rfl ?_
  refine RL.p rfl rfl ?_
  refine RL.done ?_
  refine RK.condF rfl ?_
  refine RK.skip ?_
  refine RK.seq ?_
  refine RK.region ?_
  refine RL.q (.free rfl) rfl rfl (Yld.build (v := .agg (respC 4 0 0 0).toArray) rfl (fun w => by kernel_rfl)) ?_
  refine RL.op (.free rfl) rfl rfl (Does.alloc i46) ?_
  rintro _ w5 ⟨b10, rfl, hn10⟩
  have ha10 := hn10.at_
  have hz10 := hn10.size
  have hB10 : Blk w5 b10 46 (respC 0 0 0 0) := hn10.blk
  refine RL.op' (.free rfl) rfl (Does.storeN i46 rfl rfl rfl rfl hn10.blk (Nat.le_of_ble_eq_true rfl)) ?_
  rintro _ w6 ⟨hb6, hm6, hs6⟩
  have hG36 : Grow w3 w6 := (hg4.trans hn10.grow).then hm6 (fun x hx e => by have e' : x = b10 := e; omega)
  have hG6 : Grow w w6 := hG3.trans hG36
  have hz6 := hG6.size
  have hG26 := hg3.trans hG36
  have hB56 := hB52.mod hG26 (fun h => h)
  have hB86 := hB8.mod hG26 (fun h => h)
  have hr6 := hr3.mod hG36 (fun _ _ h => h)
  refine RL.done ?_
  refine RK.seq ?_
  refine RK.block ?_
  refine RK.seq ?_
  refine RK.region ?_
  refine RL.p rfl rfl ?_
  refine RL.q (.free rfl) rfl rfl (Yld.fieldAddr fo39_1 rfl) ?_
  refine RL.q (.free rfl) rfl rfl (Yld.load p3 rfl (at1 (hB56.cell rfl))) ?_
  refine RL.op (.free rfl) rfl rfl (Does.call rfl e54 (may19_ok _)) ?_
  rintro _ _ ⟨rfl, rfl⟩
  iterate 2 refine RL.p rfl rfl ?_
  refine RL.done ?_
  refine RK.condF (hcF rfl (rfl)) ?_
  refine RK.seq ?_
  refine RK.region ?_
  refine RL.q (.free rfl) rfl rfl (Yld.fieldAddr fo39_1 rfl) ?_
  refine RL.q (.free rfl) rfl rfl (Yld.load p3 rfl (at1 (hB56.cell rfl))) ?_
  iterate 2 refine RL.p rfl rfl ?_
  refine RL.done ?_
  refine RK.condF (hcF rfl (rfl)) ?_
  refine RK.seq ?_
  refine RK.region ?_
  refine RL.q (.free rfl) rfl rfl (Yld.fieldAddr fo39_1 rfl) ?_
  refine RL.q (.free rfl) rfl rfl (Yld.load p3 rfl (at1 (hB56.cell rfl))) ?_
  iterate 2 refine RL.p rfl rfl ?_
  refine RL.done ?_
  refine RK.condF (hcF rfl (rfl)) ?_
  refine RK.region ?_
  refine RL.p rfl rfl ?_
  refine RL.q (.free rfl) rfl rfl (Yld.loadN (cs := reqQ a1 c1 a2 c2 a3 c3) a39 rfl (atN (blkV hB56))) ?_
  refine RL.op (.free rfl) rfl rfl (Does.callm rfl rfl e25 (partAns1_ok (hb.mod hG6 (fun h => h)) (hd.grow hG6) (hp.grow' hG6) (he.grow hG6) a1 c1 a2 c2 a3 c3 M0 hM0 (hr.mod (Mod.any' hG6)))) ?_
  rintro _ w7 ⟨rfl, ⟨base, top, c, vr, vp, hR7, hlb, hlt⟩, hm7⟩
  have hz7 := hm7.size
  have hB107 := (show Blk w6 b10 46 (respC 4 0 0 0) from hb6).mod hm7 (fun e => by rcases e with e | e <;> omega)
  refine RL.op' (.free rfl) rfl (Does.storeN i46 rfl rfl rfl rfl hB107 (Nat.le_of_ble_eq_true rfl)) ?_
  rintro _ w8 ⟨hb8', hm8, hs8⟩
  have hB108 : Blk w8 b10 46 (respC 0 0 1 0) := hb8'
  have hm68 : Mod (fun b => b = pt ∨ b = ids ∨ b = b10) w6 w8 := (hm7.mono fun b _ e => e.elim .inl (fun e => .inr (.inl e))).trans (hm8.mono fun b _ e => .inr (.inr e))
  have hd6 := hd.grow hG6
  have hb6w := hb.mod hG6 (fun h => h)
  have hp6w := hp.grow' hG6
  have hdr8 := hd6.blk.mod hm68 (fun e => e.elim (hd6.blk.ty.ne hb6w.ty rfl) (fun e => e.elim (hd6.blk.ty.ne hp6w.blk.ty rfl) (fun e => by have := hd.blk.lt; omega)))
  have hq8 := hd6.ch.blk.mod hm68 (fun e => by rcases e with e | e | e <;> omega)
  have hD8 : DoorAt w8 dr q 3 0 9 0 (.slice none 0 0) [] ds := ⟨hdr8, hq8, Row.nil _ _ _, hd.ch.head⟩
  have hR8 : RuAt base top w8 pt dr sl al ids c vr vp := hR7.mod hm8 (fun b _ e => by have e' : b = b10 := e; left; omega) (fun e => by have e' : pt = b10 := e; omega) (fun e => by have e' : ids = b10 := e; omega) (fun b e1 e2 => (hR7.2.1.ty e1).ne hB107.ty rfl e2) (fun b e1 e2 => (hR7.2.2.1.row.ty e1).ne hB107.ty rfl e2)
  have hM8 : Mod (fun b => b = pt ∨ b = ids ∨ b = q) w w8 := (Mod.any' hG6).then hm68 (fun x hx e => by rcases e with e | e | e; exact .inl e; exact .inr (.inl e); omega)
  have hz8' := hm8.size
  have hr8 := hr6.mod hm68 (fun b e1 e2 => by
      rcases e2 with e2 | e2 | e2
      · exact (hr6.ty e1).ne hb6w.ty rfl e2
      · exact (hr6.ty e1).ne hp6w.blk.ty rfl e2
      · have hh := (hr3.ty e1).lt; omega)
  refine RL.done ?_
  refine RK.inBlock ?_
  iterate 2 refine RK.seq ?_
  refine RK.region ?_
  iterate 2 refine RL.p rfl rfl ?_
  refine RL.q (.free rfl) rfl rfl (Yld.fieldAddr fo109_2 rfl) ?_
  refine RL.q (.free rfl) rfl rfl (Yld.load p106 rfl (at1 (hD8.blk.cell rfl))) ?_
  refine RL.op (.free rfl) rfl rfl (Does.call rfl e52 (full_ok hD8.ch)) ?_
  rintro _ w9 ⟨rfl, hg9⟩
  have hD9 := hD8.grow hg9
  have hD9d := hD9.grow (Mod.drew No _)
  have hB109 := hB108.mod hg9 (fun h => h)
  have hB109d := hB109.mod (Mod.drew No _) (fun h => h)
  have hK9 : KeysAt w9 := (hK.mod hM8 (fun e => by rcases e with e | e | e <;> omega)).grow hg9
  have hr9 := (hr8.mod hg9 (fun _ _ h => h)).mod (Mod.drew No _) (fun _ _ h => h)
  have hz9 := hg9.size
  refine RL.p rfl rfl ?_
  refine RL.done ?_
  refine RK.condT (hcT rfl (by decide)) ?_
  refine RK.drawM (· = q) [(0, false), (1, false), (2, false), (3, false), (4, false), (5, false), (6, false), (7, false), (8, false), (9, false), (10, false), (11, true)] [] mixed (by kernel_rfl) ?_
  iterate 2 refine DL.p rfl rfl rfl ?_
  refine DL.qf rfl (.free rfl) rfl rfl (Yld.fieldAddr fo109_2 rfl) ?_
  refine DL.q rfl (.free rfl) rfl rfl rfl (Yld.load p106 rfl (atM (hD9d.blk.cell rfl) (fun e => hD9.blk.ty.ne hD9.ch.blk.ty rfl e))) (Mod.drew _ _) ?_
  iterate 2 refine DL.p rfl rfl rfl ?_
  refine DL.qf rfl (.free rfl) rfl rfl (Yld.fieldAddr fo109_1 rfl) ?_
  refine DL.q rfl (.free rfl) rfl rfl rfl (Yld.load p24 rfl (atM (hD9d.blk.cell rfl) (fun e => hD9.blk.ty.ne hD9.ch.blk.ty rfl e))) (Mod.drew _ _) ?_
  refine DL.p rfl rfl rfl ?_
  refine DL.qf rfl (.free rfl) rfl rfl (Yld.fieldAddr fo46_0 rfl) ?_
  refine DL.q rfl (.free rfl) rfl rfl rfl (Yld.load p40 rfl (atM (hB109d.cell rfl) (fun e => hB109.ty.ne hD9.ch.blk.ty rfl e))) (Mod.drew _ _) ?_
  refine DL.op rfl (.free rfl) rfl rfl (Does.call rfl e57 (chAddQ0_ok hD9d.ch (by decide) g gc hr9 (hK9.grow (Mod.drew No _)) h0.2.2)) ?_
  rintro _ w10 ⟨rfl, ⟨a', k', a9, c9, ds', hCh10, hv10⟩, hm10⟩
  refine ⟨(Mod.drew _ _).trans hm10, ?_⟩
  have hm810 : Mod (· = q) w8 w10 := (Mod.any' (hg9.trans (Mod.drew No _))).trans hm10
  have hB1010 := hB108.mod hm810 (fun e => hB108.ty.ne hD8.ch.blk.ty rfl e)
  have hB510 := (hB56.mod hm68 (fun e => by rcases e with e | e | e <;> omega)).mod hm810 (fun e => by have e' : b5 = q := e; omega)
  refine DL.done ?_
  iterate 2 refine RK.seq ?_
  refine RK.region ?_
  refine RL.q (.free rfl) rfl rfl (Yld.fieldAddr fo46_0 rfl) ?_
  refine RL.q (.free rfl) rfl rfl (Yld.load p40 rfl (at1 (hB1010.cell rfl))) ?_
  refine RL.p rfl rfl ?_
  refine RL.done ?_
  refine RK.condF (hcF rfl (rfl)) ?_
  refine RK.skip ?_
  refine RK.seq ?_
  refine RK.region ?_
  refine RL.q (.free rfl) rfl rfl (Yld.fieldAddr fo39_1 rfl) ?_
  refine RL.q (.free rfl) rfl rfl (Yld.load p3 rfl (at1 (hB510.cell rfl))) ?_
  refine RL.q (.free rfl) rfl rfl (Yld.fieldAddr fo46_1 rfl) ?_
  refine RL.op' (.free rfl) rfl (Does.store i3 rfl rfl rfl hB1010 (.s .z)) ?_
  rintro _ w11 ⟨hb11, hm11, hs11⟩
  have hB11 : Blk w11 b10 46 (respC 0 9 1 0) := hb11
  have hB810 := (hB86.mod hm68 (fun e => by rcases e with e | e | e <;> omega)).mod hm810 (fun e => by have e' : b8 = q := e; omega)
  have hB811 := hB810.mod hm11 (fun e => by have e' : b8 = b10 := e; omega)
  refine RL.done ?_
  refine RK.seq ?_
  refine RK.region ?_
  refine RL.q (.free rfl) rfl rfl (Yld.loadN (cs := respC 0 9 1 0) a46 rfl (atN (blkV hB11))) ?_
  refine RL.op' (.free rfl) rfl (Does.storeN i46 rfl rfl rfl rfl hB811 (Nat.le_of_ble_eq_true rfl)) ?_
  rintro _ w12 ⟨hb12, hm12, hs12⟩
  have hm1012 : Mod (fun b => b = b10 ∨ b = b8) w10 w12 := (hm11.mono fun b _ e => .inl e).trans (hm12.mono fun b _ e => .inr e)
  have hM10 : Mod (fun b => b = pt ∨ b = ids ∨ b = q) w w10 := hM8.trans (hm810.mono fun b _ e => .inr (.inr e))
  have hM12 := hM10.then hm1012 (fun x hx e => by rcases e with e | e <;> omega)
  have hR10 := hR8.mod hm810 (fun b _ e => by have e' : b = q := e; left; omega) (fun e => hqpt e.symm) (fun e => hqid e.symm) (fun b e1 e2 => (hR8.2.1.ty e1).ne hD8.ch.blk.ty rfl e2) (fun b e1 e2 => (hR8.2.2.1.row.ty e1).ne hD8.ch.blk.ty rfl e2)
  have hR12 := hR10.mod hm1012 (fun b _ e => by rcases e with e | e <;> (left; omega)) (fun e => by rcases e with e | e <;> omega) (fun e => by rcases e with e | e <;> omega) (fun b e1 e => e.elim ((hR10.2.1.ty e1).ne hB1010.ty rfl) ((hR10.2.1.ty e1).ne hB810.ty rfl)) (fun b e1 e => e.elim ((hR10.2.2.1.row.ty e1).ne hB1010.ty rfl) ((hR10.2.2.1.row.ty e1).ne hB810.ty rfl))
  have hdr10 := hD8.blk.mod hm810 (fun e => hD8.blk.ty.ne hD8.ch.blk.ty rfl e)
  have hD12 : DoorAt w12 dr q 3 0 9 1 (.slice a' 1 k') (recQ 0 (.slice a9 15 c9) 0) ds' := ⟨hdr10.mod hm1012 (fun e => e.elim (hdr10.ty.ne hB1010.ty rfl) (hdr10.ty.ne hB810.ty rfl)), hCh10.blk.mod hm1012 (fun e => by rcases e with e | e <;> omega), hCh10.row.mod hm1012 (fun b e1 e => e.elim ((hCh10.row.ty e1).ne hB1010.ty rfl) ((hCh10.row.ty e1).ne hB810.ty rfl)), hCh10.head⟩
  have hz10 := hm10.size
  have hz1012 := hm1012.size
  simp only [World.drew] at hv10 hz10
  refine RL.done ?_
  refine RK.ret_of Tryz.func24 (resC (cs := respC 0 9 1 0) rfl rfl a46 hb12) ?_ _
  exact ⟨_, rfl, rfl, ⟨base, top, c, vr, vp, a', k', a9, c9, ds', hR12, by omega, by omega, hD12, fun b e => by have := hv10 b e; omega⟩, hM12⟩
end Go.Proofs.YtnnmgfnhblbolaaGreatDoor
