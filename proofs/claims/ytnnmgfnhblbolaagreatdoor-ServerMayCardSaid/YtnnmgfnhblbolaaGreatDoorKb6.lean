/- What the claim stands on, part 6. Of own lemmas only those that it reaches. -/
import Derived.Test.YtnnmgfnhblbolaaGreatDoorKb5
set_option linter.unusedVariables false
set_option linter.unusedSimpArgs false
set_option maxHeartbeats 6400000
set_option maxRecDepth 100000
namespace Go.Proofs.YtnnmgfnhblbolaaGreatDoor
open Go Go.X
theorem sortNone_ok (w : World) : Fx Tryz.prog 171 [.slice none 0 0] w (fun u w' => u = .tuple #[] ∧ Grow w w') := by
  refine (sortStr_ok [] (.slice none 0 0) w (Row.nil _ _ _) (by decide)).mono ?_
  rintro u w' ⟨h1, ys, _, _, _, hm⟩
  exact ⟨h1, hm.mono fun b _ e => by simp [Value.ownBlock] at e⟩
theorem tokOf0_ok {w : World} {p : Nat} {most : Int} {v : Value} (h : TkAt w p most v []) (o : Int) : Fx Tryz.prog 93 [pp p, .int .i64 o] w (fun u w' => u = .slice none 0 0 ∧ Grow w w') := by
  obtain ⟨ad, c, rfl⟩ := h.row.slice
  refine enter Tryz.func93 rfl rfl rfl _ (Pick.sub (l := [0, 1]) (.cons rfl (.cons rfl .nil))) ?_
  refine RK.seq ?_
  refine RK.region ?_
  refine RL.p rfl rfl ?_
  refine RL.done ?_
  refine RK.seq ?_
  refine RK.region ?_
  refine RL.p rfl rfl ?_
  refine RL.done ?_
  iterate 2 refine RK.seq ?_
  refine RK.region ?_
  iterate 2 refine RL.p rfl rfl ?_
  refine RL.q (.free rfl) rfl rfl (Yld.fieldAddr fo224_1 rfl) ?_
  refine RL.q (.free rfl) rfl rfl (Yld.load p222 rfl (at1 (h.blk.cell rfl))) ?_
  refine RL.q (.free rfl) rfl rfl (Yld.lenSl u222 rfl) ?_
  refine RL.p rfl rfl ?_
  refine RL.done ?_
  refine RK.block ?_
  refine RK.loop (fun _ : Unit => [(5, .slice none 0 0), (12, .int .i64 0), (13, .int .i64 0)]) (fun _ w' => w = w') (fun _ => 0) () ⟨rfl, rfl, rfl, trivial⟩ rfl (fun _ w' hI ih => ?_)
  subst hI
  refine RK.seq ?_
  refine RK.region ?_
  refine RL.p rfl rfl ?_
  refine RL.done ?_
  refine RK.seq ?_
  refine RK.condF (hcF rfl (rfl)) ?_
  refine RK.exit rfl ?_
  refine RK.seq ?_
  refine RK.region ?_
  refine RL.p rfl rfl ?_
  refine RL.op (.free rfl) rfl rfl (Does.call rfl e171 (sortNone_ok _)) ?_
  rintro _ w2 ⟨rfl, hg2⟩
  refine RL.done ?_
  refine RK.seq ?_
  refine RK.region ?_
  iterate 2 refine RL.p rfl rfl ?_
  refine RL.done ?_
  refine RK.ret_of Tryz.func93 (res1 rfl rfl) ?_ _
  exact ⟨_, rfl, rfl, hg2⟩
theorem tokOf1_ok {w : World} {p : Nat} {most : Int} {v : Value} {s : ByteArray} {o : Int} (h : TkAt w p most v [(s, o)]) (q : Int) (hq : o ≠ q) : Fx Tryz.prog 93 [pp p, .int .i64 q] w (fun u w' => u = .slice none 0 0 ∧ Grow w w') := by
  have hsl := Sl.own (M := No) h.row (fun _ _ h => h)
  obtain ⟨b1, o1, c1, he1, _, _, hc1⟩ := hsl.elem (f := fun x : ByteArray × Int => [Value.string x.1, .int .i64 x.2]) (fun _ => rfl) (k := 0) (x := (s, o)) rfl
  subst he1
  refine enter Tryz.func93 rfl rfl rfl _ (Pick.sub (l := [0, 1]) (.cons rfl (.cons rfl .nil))) ?_
  refine RK.seq ?_
  refine RK.region ?_
  refine RL.p rfl rfl ?_
  refine RL.done ?_
  refine RK.seq ?_
  refine RK.region ?_
  refine RL.p rfl rfl ?_
  refine RL.done ?_
  iterate 2 refine RK.seq ?_
  refine RK.region ?_
  iterate 2 refine RL.p rfl rfl ?_
  refine RL.q (.free rfl) rfl rfl (Yld.fieldAddr fo224_1 rfl) ?_
  refine RL.q (.free rfl) rfl rfl (Yld.load p222 rfl (at1 (h.blk.cell rfl))) ?_
  refine RL.q (.free rfl) rfl rfl (Yld.lenSl u222 rfl) ?_
  refine RL.p rfl rfl ?_
  refine RL.done ?_
  refine RK.block ?_
  refine RK.loop (fun k : Nat => [(1, .int .i64 q), (5, .slice none 0 0), (11, .slice (some ⟨b1, o1, none⟩) 1 c1), (12, .int .i64 1), (13, .int .i64 (k : Int))]) (fun k w' => Grow w w' ∧ k ≤ 1) (fun k => 1 - k) 0 ⟨rfl, rfl, rfl, rfl, rfl, trivial⟩ ⟨Mod.refl _ _, Nat.zero_le _⟩ (fun k w' hI ih => ?_)
  obtain ⟨hg, hk⟩ := hI
  refine RK.seq ?_
  refine RK.region ?_
  refine RL.p rfl rfl ?_
  refine RL.done ?_
  refine RK.seq ?_
  first | refine RK.condD rfl (fun h14 => ?_) (fun h14 => ?_) | refine RK.condN rfl (fun h14 => ?_) (fun h14 => ?_) | refine RK.cond rfl (fun h14 => ?_) (fun h14 => ?_)
  · obtain rfl : k = 0 := by omega
    refine RK.skip ?_
    refine RK.seq ?_
    refine RK.block ?_
    refine RK.seq ?_
    refine RK.region ?_
    refine RL.q (.free rfl) rfl rfl (Yld.indexAddrN u222 i227 rfl rfl ((by decide : 0 < 1))) ?_
    refine RL.q (.free rfl) rfl rfl (Yld.loadN (cs := [.string s, .int .i64 o]) a227 rfl (atN (fun j u hj => hg.cell (hc1 j u hj) (fun h => h)))) ?_
    refine RL.op (.free rfl) rfl rfl (Does.alloc i227) ?_
    rintro _ w2 ⟨b7, rfl, hn7⟩
    have ha7 := hn7.at_
    refine RL.op' (.free rfl) rfl (Does.storeN i227 rfl rfl rfl rfl hn7.blk (Nat.le_refl 2)) ?_
    rintro _ w3 ⟨hb3, hm3, hs3⟩
    have hB3 : Blk w3 b7 227 [.string s, .int .i64 o] := hb3
    have hg3 : Grow w w3 := (hg.trans hn7.grow).then hm3 (fun x hx e => by have e' : x = b7 := e; have := hg.size; omega)
    refine RL.done ?_
    refine RK.seq ?_
    refine RK.region ?_
    refine RL.q (.free rfl) rfl rfl (Yld.fieldAddr fo227_1 rfl) ?_
    refine RL.q (.free rfl) rfl rfl (Yld.load p3 rfl (at1 (hB3.cell rfl))) ?_
    iterate 2 refine RL.p rfl rfl ?_
    refine RL.done ?_
    refine RK.condF (hcF rfl (decide_eq_false hq)) ?_
    refine RK.skip ?_
    refine RK.inBlock ?_
    refine RK.region ?_
    refine RL.p rfl rfl ?_
    refine RL.re (d := 26) rfl rfl (succ_i64 (by omega)) ?_
    refine RL.p rfl rfl ?_
    refine RL.done ?_
    exact RK.back (ih 1 _ ⟨hg3, by omega⟩ (by omega)) ⟨rfl, rfl, rfl, rfl, by rfl, trivial⟩
  · refine RK.exit rfl ?_
    refine RK.seq ?_
    refine RK.region ?_
    refine RL.p rfl rfl ?_
    refine RL.op (.free rfl) rfl rfl (Does.call rfl e171 (sortNone_ok _)) ?_
    rintro _ w2 ⟨rfl, hg2⟩
    refine RL.done ?_
    refine RK.seq ?_
    refine RK.region ?_
    iterate 2 refine RL.p rfl rfl ?_
    refine RL.done ?_
    refine RK.ret_of Tryz.func93 (res1 rfl rfl) ?_ _
    exact ⟨_, rfl, rfl, hg.trans hg2⟩
end Go.Proofs.YtnnmgfnhblbolaaGreatDoor
set_option linter.unusedVariables false
set_option linter.unusedSimpArgs false
set_option maxHeartbeats 6400000
set_option maxRecDepth 100000
namespace Go.Proofs.YtnnmgfnhblbolaaGreatDoor
open Go Go.X
theorem grant0_ok {w : World} {p : Nat} {most : Int} (h : TkAt w p most (.slice none 0 0) []) (hm : 1 ≤ most) (s : ByteArray) (h4 : 4 ≤ s.size) (h16 : s.size ≤ 16) : Fx Tryz.prog 75 [pp p, .int .i64 0, .string s] w (fun u w' => (∃ v', TkAt w' p most v' [(s, 0)] ∧ ∀ b, v'.ownBlock = some b → w.heap.size ≤ b) ∧ Mod (· = p) w w') := by
  have hplt := h.blk.lt
  refine enter Tryz.func75 rfl rfl rfl _ (Pick.sub (l := [0, 1, 2]) (.cons rfl (.cons rfl (.cons rfl .nil)))) ?_
  refine RK.seq ?_
  refine RK.region ?_
  refine RL.p rfl rfl ?_
  refine RL.done ?_
  refine RK.seq ?_
  refine RK.block ?_
  refine RK.seq ?_
  refine RK.region ?_
  iterate 3 refine RL.p rfl rfl ?_
  refine RL.knownF (d := 10) rfl rfl (rfl) ?_
  refine RL.q (.yes rfl rfl rfl) rfl rfl (Yld.pure rfl) ?_
  refine RL.op (.yes rfl rfl rfl) rfl rfl (Does.call rfl e45 (tokenIs_ok s _)) ?_
  rintro _ _ ⟨rfl, rfl⟩
  refine RL.q (.yes rfl rfl rfl) rfl rfl (Yld.pure rfl) ?_
  iterate 2 refine RL.p rfl rfl ?_
  refine RL.done ?_
  refine RK.condF (hcF rfl (by first | rfl | simp [h4, h16])) ?_
  refine RK.seq ?_
  refine RK.region ?_
  iterate 2 refine RL.p rfl rfl ?_
  refine RL.op (.free rfl) rfl rfl (Does.call rfl e145 (tokPlace0_ok h s)) ?_
  rintro _ w1 ⟨rfl, hg1⟩
  have h1 := (h.grow hg1).grow (Mod.drew No _)
  iterate 2 refine RL.p rfl rfl ?_
  refine RL.done ?_
  refine RK.condF (hcF rfl (rfl)) ?_
  refine RK.seq ?_
  refine RK.drawM No [(0, false), (1, false), (4, false), (5, false), (6, false), (7, false), (2, true), (3, false), (8, false), (9, false)] [] mixed (by kernel_rfl) ?_
  iterate 4 refine DL.p rfl rfl rfl ?_
  refine DL.qf rfl (.free rfl) rfl rfl (Yld.fieldAddr fo224_0 rfl) ?_
  refine DL.q rfl (.free rfl) rfl rfl rfl (Yld.load p3 rfl (atM (h1.blk.cell rfl) id)) (Mod.drew _ _) ?_
  refine DL.op rfl (.free rfl) rfl rfl (Does.call rfl e93 (tokOf0_ok h1 0)) ?_
  rintro _ w2 ⟨rfl, hg2⟩
  refine ⟨(Mod.drew _ _).trans hg2, ?_⟩
  have hG2 : Grow w w2 := hg1.trans ((Mod.drew _ _).trans hg2)
  have h2 := h.grow hG2
  refine DL.q rfl (.free rfl) rfl rfl rfl (Yld.lenSl u34 rfl) ((Mod.drew _ _).trans hg2) ?_
  iterate 2 refine DL.p rfl rfl rfl ?_
  refine DL.done ?_
  refine RK.condF (hcF rfl (decide_eq_false (by omega))) ?_
  refine RK.skip ?_
  refine RK.inBlock ?_
  refine RK.seq ?_
  refine RK.region ?_
  iterate 3 refine RL.p rfl rfl ?_
  refine RL.q (.free rfl) rfl rfl (Yld.fieldAddr fo224_1 rfl) ?_
  refine RL.q (.free rfl) rfl rfl (Yld.load p222 rfl (at1 (h2.blk.cell rfl))) ?_
  iterate 2 refine RL.p rfl rfl ?_
  refine RL.q (.free rfl) rfl rfl (Yld.build (v := .agg #[.string s, .int .i64 0]) rfl (fun w => by kernel_rfl)) ?_
  refine RL.op (.free rfl) rfl rfl (Does.slice1 u222 i227 rfl rfl rfl rfl rfl) ?_
  rintro _ w5 ⟨b5, rfl, hn5⟩
  refine RL.op (.free rfl) rfl rfl (Does.append u222 i227 rfl rfl rfl rfl rfl (Row.nil _ _ _) (Sl.new hn5 2 1 rfl (by decide) (fun h => h)) (rfl) (by decide)) ?_
  rintro u6 w6 ⟨hr6, hm6, hu6⟩
  have hg6 : Grow w5 w6 := hm6.mono (fun b _ e => by simp [Value.ownBlock] at e)
  have hz5 := hn5.size
  have hz2 := hG2.size
  have hp6 : ∀ b, u6.ownBlock = some b → w.heap.size ≤ b := fun b e => by
      rcases hu6 with h | h
      · rw [h] at e; simp [Value.ownBlock] at e
      · rw [h] at e; cases e; omega
  obtain ⟨a6, c6, rfl⟩ := hr6.slice
  have hG6 : Grow w2 w6 := hn5.grow.trans hg6
  refine RL.p rfl rfl ?_
  refine RL.q (.free rfl) rfl rfl (Yld.fieldAddr fo224_1 rfl) ?_
  refine RL.op' (.free rfl) rfl (Does.store i222 rfl rfl rfl (h2.grow hG6).blk (.s .z)) ?_
  rintro _ w7 ⟨hb7, hm7, hs7⟩
  refine RL.done ?_
  refine RK.seq ?_
  refine RK.region ?_
  refine RL.p rfl rfl ?_
  refine RL.done ?_
  refine RK.ret_of Tryz.func75 (res1 rfl rfl) ?_ _
  exact ⟨_, rfl, ⟨_, ⟨hb7, hr6.mod hm7 (fun b e1 e2 => by have e' : b = p := e2; have := hp6 b e1; omega)⟩, hp6⟩, (Mod.any' (hG2.trans hG6)).trans hm7⟩
@[reducible] def cfgC (tok : ByteArray) (a b c d e f g r : Int) : List Value := [.string tok, .int .i64 a, .int .i64 b, .int .i64 c, .int .i64 d, .int .i64 e, .int .i64 f, .int .i64 g, .int .u64 r]
structure DkAt (w : World) (dk dr q tk pl : Nat) (tok : ByteArray) (now dm tm pm : Int) (n : Nat) (v : Value) (cs ds : List Value) (vt : Value) (last : Int) (out : List Int) (vp : Value) : Prop where
  blk : Blk w dk 151 [pp dr, pp tk, pp pl]
  door : DoorAt w dr q 0 now dm n v cs ds
  tok : TkAt w tk tm vt [(tok, 0)]
  pool : PoolAt w pl pm last out vp
theorem PoolAt.grow' {w w' : World} {p : Nat} {most last : Int} {out : List Int} {v : Value} (h : PoolAt w p most last out v) (hg : Grow w w') : PoolAt w' p most last out v := ⟨h.blk.mod hg (fun h => h), h.row.mod hg (fun _ _ h => h), h.ne⟩
theorem DkAt.grow {w w' : World} {dk dr q tk pl : Nat} {tok : ByteArray} {now dm tm pm : Int} {n : Nat} {v : Value} {cs ds : List Value} {vt : Value} {last : Int} {out : List Int} {vp : Value} (h : DkAt w dk dr q tk pl tok now dm tm pm n v cs ds vt last out vp) (hg : Grow w w') : DkAt w' dk dr q tk pl tok now dm tm pm n v cs ds vt last out vp := ⟨h.blk.mod hg (fun h => h), h.door.grow hg, h.tok.grow hg, h.pool.grow' hg⟩
theorem deskNew_ok (tok : ByteArray) (a b c d e f g r : Int) (h4 : 4 ≤ tok.size) (h16 : tok.size ≤ 16) (ha1 : 1 ≤ a) (ha2 : a ≤ 6) (hb1 : 1 ≤ b) (hb2 : b ≤ 4) (hg1' : 1 ≤ g) (hg2' : g ≤ 200) (w : World) (hK : KeysAt w) : Fx Tryz.prog 31 [.agg (cfgC tok a b c d e f g r).toArray, .int .u64 0] w (fun u w' => ∃ dk dr q tk pl ds vt, u = pp dk ∧ DkAt w' dk dr q tk pl tok 0 g b a 0 (.slice none 0 0) [] ds vt 0 [] (.slice none 0 0) ∧ (w.heap.size ≤ dk ∧ w.heap.size ≤ dr ∧ w.heap.size ≤ q ∧ w.heap.size ≤ tk ∧ w.heap.size ≤ pl) ∧ Grow w w') := by
  refine enter Tryz.func31 rfl rfl rfl _ (Pick.sub (l := [0, 1]) (.cons rfl (.cons rfl .nil))) ?_
  refine RK.seq ?_
  refine RK.region ?_
  refine RL.op (.free rfl) rfl rfl (Does.box rfl) ?_
  rintro _ w2 ⟨b2, rfl, hn2⟩
  have hB : Blk w2 b2 26 (cfgC tok a b c d e f g r) := hn2.blk
  have hBd := hB.mod (Mod.drew No _) (fun h => h)
  have hz2 := hn2.size
  refine RL.p rfl rfl ?_
  refine RL.done ?_
  refine RK.seq ?_
  refine RK.drawM No [(0, false), (1, false), (2, false), (4, false), (5, false), (7, false), (8, false), (9, false), (10, false), (3, true), (6, true), (11, true), (12, false), (13, true), (14, false)] [] mixed (by kernel_rfl) ?_
  refine DL.qf rfl (.free rfl) rfl rfl (Yld.fieldAddr fo26_7 rfl) ?_
  refine DL.q rfl (.free rfl) rfl rfl rfl (Yld.load p3 rfl (atM (hBd.cell rfl) id)) (Mod.drew _ _) ?_
  refine DL.p rfl rfl rfl ?_
  refine DL.qf rfl (.free rfl) rfl rfl (Yld.fieldAddr fo26_2 rfl) ?_
  refine DL.q rfl (.free rfl) rfl rfl rfl (Yld.load p3 rfl (atM (hBd.cell rfl) id)) (Mod.drew _ _) ?_
  refine DL.qf rfl (.free rfl) rfl rfl (Yld.fieldAddr fo26_1 rfl) ?_
  refine DL.q rfl (.free rfl) rfl rfl rfl (Yld.load p3 rfl (atM (hBd.cell rfl) id)) (Mod.drew _ _) ?_
  refine DL.q rfl (.free rfl) rfl rfl rfl (Yld.max2 rfl rfl) (Mod.drew _ _) ?_
  refine DL.q rfl (.free rfl) rfl rfl rfl (Yld.min2 rfl rfl) (Mod.drew _ _) ?_
  refine DL.op rfl (.free rfl) rfl rfl (Does.call rfl e20 (doorNew_ok 0 g 0 (by decide) hg1' hg2' _ (hK.grow (hn2.grow.trans (Mod.drew No _))))) ?_
  rintro _ w3 ⟨dr, q, ds, rfl, hdr, hq, hD3, hg3⟩
  refine ⟨(Mod.drew _ _).trans hg3, ?_⟩
  refine DL.op rfl (.free rfl) rfl rfl (Does.call rfl e74 (tokNew_ok b hb1 hb2 _)) ?_
  rintro _ w4 ⟨tk, rfl, htk, hT4, hg4⟩
  refine ⟨((Mod.drew _ _).trans hg3).trans hg4, ?_⟩
  refine DL.op rfl (.free rfl) rfl rfl (Does.call rfl e23 (poolNew_ok _ _)) ?_
  rintro _ w5 ⟨pl, rfl, hpl, hP5, hg5, hs5⟩
  refine ⟨(((Mod.drew _ _).trans hg3).trans hg4).trans hg5, ?_⟩
  refine DL.qf rfl (.free rfl) rfl rfl (Yld.build (v := .agg #[pp dr, pp tk, pp pl]) rfl (fun w => by kernel_rfl)) ?_
  refine DL.op rfl (.free rfl) rfl rfl (Does.box rfl) ?_
  rintro _ w6 ⟨dk, rfl, hn6⟩
  refine ⟨((((Mod.drew _ _).trans hg3).trans hg4).trans hg5).trans hn6.grow, ?_⟩
  have hz3 := hg3.size
  have hz4 := hg4.size
  have hz5 := hg5.size
  have hk6 := hn6.at_
  simp only [World.drew] at hdr hq hz3
  have e1 : (if (0 : Int) > (if (6 : Int) < (if (1 : Int) > a then 1 else a) then 6 else (if (1 : Int) > a then 1 else a)) then 0 else (if (6 : Int) < (if (1 : Int) > a then 1 else a) then 6 else (if (1 : Int) > a then 1 else a))) = a := by (repeat' split) <;> omega
  have hB6 : Blk w6 dk 151 [pp dr, pp tk, pp pl] := hn6.blk
  have hG26 : Grow w2 w6 := ((((Mod.drew _ _).trans hg3).trans hg4).trans hg5).trans hn6.grow
  have hT6 := ((hT4.grow hg5).grow hn6.grow)
  have hBB6 := hB.mod hG26 (fun h => h)
  refine DL.p rfl rfl rfl ?_
  refine DL.done ?_
  refine RK.seq ?_
  refine RK.drawM (· = tk) [(0, false), (1, false), (2, false), (3, false), (4, false), (5, false), (6, true)] [] mixed (by kernel_rfl) ?_
  iterate 2 refine DL.p rfl rfl rfl ?_
  refine DL.qf rfl (.free rfl) rfl rfl (Yld.fieldAddr fo151_1 rfl) ?_
  refine DL.q rfl (.free rfl) rfl rfl rfl (Yld.load p148 rfl (atM ((hB6.mod (Mod.drew No _) (fun h => h)).cell rfl) (fun e => hB6.ty.ne hT6.blk.ty rfl e))) (Mod.drew _ _) ?_
  refine DL.qf rfl (.free rfl) rfl rfl (Yld.fieldAddr fo26_0 rfl) ?_
  refine DL.q rfl (.free rfl) rfl rfl rfl (Yld.load p9 rfl (atM ((hBB6.mod (Mod.drew No _) (fun h => h)).cell rfl) (fun e => hBB6.ty.ne hT6.blk.ty rfl e))) (Mod.drew _ _) ?_
  refine DL.op rfl (.free rfl) rfl rfl (Does.call rfl e75 (grant0_ok (hT6.grow (Mod.drew No _)) hb1 tok h4 h16)) ?_
  rintro _ w7 ⟨⟨vt, hT7, hv7⟩, hm7⟩
  refine ⟨(Mod.drew _ _).trans hm7, ?_⟩
  have hD6 := ((hD3.grow hg4).grow hg5).grow hn6.grow
  have hD7 : DoorAt w7 dr q 0 0 g 0 (.slice none 0 0) [] ds := ⟨(hD6.grow (Mod.drew No _)).blk.mod hm7 (fun e => hD6.blk.ty.ne hT6.blk.ty rfl e), (hD6.grow (Mod.drew No _)).ch.blk.mod hm7 (fun e => hD6.ch.blk.ty.ne hT6.blk.ty rfl e), Row.nil _ _ _, hD6.ch.head⟩
  have hP6 := (hP5.grow' hn6.grow).grow' (Mod.drew No _)
  refine DL.done ?_
  refine RK.seq ?_
  refine RK.region ?_
  iterate 2 refine RL.p rfl rfl ?_
  refine RL.done ?_
  refine RK.ret_of Tryz.func31 (res1 rfl rfl) ?_ _
  exact ⟨_, rfl, dk, dr, q, tk, pl, ds, vt, rfl, ⟨(hB6.mod (Mod.drew No _) (fun h => h)).mod hm7 (fun e => hB6.ty.ne hT6.blk.ty rfl e), hD7, hT7, by
      rw [e1] at hP6
      exact ⟨hP6.blk.mod hm7 (fun e => hP6.blk.ty.ne (hT6.grow (Mod.drew No _)).blk.ty rfl e), Row.nil _ _ _, hP6.ne⟩⟩, ⟨by omega, by omega, by omega, by omega, by omega⟩, ((hn2.grow.trans hG26).trans (Mod.drew _ _)).then hm7 (fun x hx e => by have e' : x = tk := e; omega)⟩
end Go.Proofs.YtnnmgfnhblbolaaGreatDoor
set_option linter.unusedVariables false
set_option linter.unusedSimpArgs false
set_option maxHeartbeats 6400000
set_option maxRecDepth 100000
namespace Go.Proofs.YtnnmgfnhblbolaaGreatDoor
open Go Go.X
theorem Does.callm {P : Program} {n : Nat} {e : Env} {w : World} {d : Option Tmp} {gf : FuncId} {f : Operand} {first cap : Array Value} {args : Array Operand} {ats : Array TypeId} {ty : TypeId} {pos : String} {af : Array Edge} {g : Option (Nat × Bool)} {vs : List Value} {Q : Value → World → Prop} (hf : ev e f = some (.func (.func gf) first cap)) (ha : evs e args.toList = some vs) (hE : Go.Proofs.Enters P gf) (hc : Fx P gf (first.toList ++ vs ++ cap.toList) w Q) :
    Does P n e w ⟨d, .call { callee := .value f, args := args, argTypes := ats }, ty, pos, af, g⟩ Q := by
  refine Does.of_enter (fun a ht => ?_) hc
  have h1 := ht.evs ha
  have : args.map a.eval = vs.toArray := by rw [← h1, ← Array.toList_map]
  have e2 : (first.toList ++ vs ++ cap.toList).toArray = first ++ vs.toArray ++ cap := by simp
  rw [e2]
  simp [execOp, resolve, this, ht.ev hf, Deferred.ofValue, invoke, hE _ _]
theorem deskAns1_ok {w : World} {dk dr tk pl : Nat} {pm : Int} (hb : Blk w dk 151 [pp dr, pp tk, pp pl]) (hp : PoolAt w pl pm 0 [] (.slice none 0 0)) (hm : 1 ≤ pm) (tok : ByteArray) : Fx Tryz.prog 90 [pp dk, .agg (reqC tok 1).toArray] w (fun u w' => u = .agg (respC 0 0 1 0).toArray ∧ (∃ v', PoolAt w' pl pm 1 [1] v' ∧ ∀ b, v'.ownBlock = some b → w.heap.size ≤ b) ∧ Mod (· = pl) w w') := by
  have hplt := hp.blk.lt
  refine enter Tryz.func90 rfl rfl rfl _ (Pick.sub (l := [0, 1]) (.cons rfl (.cons rfl .nil))) ?_
  refine RK.seq ?_
  refine RK.region ?_
  refine RL.op (.free rfl) rfl rfl (Does.box rfl) ?_
  rintro _ w3 ⟨b3, rfl, hn3⟩
  refine RL.op (.free rfl) rfl rfl (Does.alloc i46) ?_
  rintro _ w4 ⟨b4, rfl, hn4⟩
  refine RL.done ?_
  refine RK.seq ?_
  refine RK.region ?_
  refine RL.op (.free rfl) rfl rfl (Does.alloc i46) ?_
  rintro _ w5 ⟨b5, rfl, hn5⟩
  have hB3 : Blk w3 b3 39 (reqC tok 1) := hn3.blk
  have hB4 : Blk w4 b4 46 (respC 0 0 0 0) := hn4.blk
  have hB5 : Blk w5 b5 46 (respC 0 0 0 0) := hn5.blk
  have ha3 := hn3.at_
  have ha4 := hn4.at_
  have ha5 := hn5.at_
  have hz3 := hn3.size
  have hz4 := hn4.size
  have hz5 := hn5.size
  have hG5 := (hn3.grow.trans hn4.grow).trans hn5.grow
  refine RL.done ?_
  iterate 2 refine RK.seq ?_
  refine RK.region ?_
  refine RL.q (.free rfl) rfl rfl (Yld.fieldAddr fo39_1 rfl) ?_
  refine RL.q (.free rfl) rfl rfl (Yld.load p3 rfl (at1 ((hB3.mod (hn4.grow.trans hn5.grow) (fun h => h)).cell rfl))) ?_
  refine RL.done ?_
  refine RK.block ?_
  refine RK.seq ?_
  refine RK.region ?_
  iterate 2 refine RL.p rfl rfl ?_
  refine RL.done ?_
  refine RK.condT (hcT rfl (rfl)) ?_
  refine RK.seq ?_
  refine RK.region ?_
  iterate 2 refine RL.p rfl rfl ?_
  refine RL.q (.free rfl) rfl rfl (Yld.fieldAddr fo151_2 rfl) ?_
  refine RL.q (.free rfl) rfl rfl (Yld.load p75 rfl (at1 ((hb.mod hG5 (fun h => h)).cell rfl))) ?_
  refine RL.op (.free rfl) rfl rfl (Does.call rfl e114 (take_ok _ pl pm 0 [] _ (hp.grow' hG5) (by simp; omega) (by decide) (by decide) (by decide) (by decide))) ?_
  rintro _ w6 ⟨rfl, v6, hP6, hm6, hv6⟩
  have hm6' : Mod (· = pl) w5 w6 := hm6.mono fun b _ e => e.elim id (fun e => by simp [Value.ownBlock] at e)
  have hB56' := hB5.mod hm6' (fun e => by have e' : b5 = pl := e; omega)
  iterate 5 refine RL.p rfl rfl ?_
  refine RL.done ?_
  iterate 2 refine RK.seq ?_
  refine RK.region ?_
  iterate 2 refine RL.p rfl rfl ?_
  refine RL.done ?_
  refine RK.condF (hcF rfl (rfl)) ?_
  refine RK.skip ?_
  refine RK.region ?_
  refine RL.p rfl rfl ?_
  refine RL.q (.free rfl) rfl rfl (Yld.fieldAddr fo46_2 rfl) ?_
  refine RL.op' (.free rfl) rfl (Does.store i3 rfl rfl rfl hB56' (.s (.s .z))) ?_
  rintro _ w7 ⟨hb7, hm7, hs7⟩
  have hB7 : Blk w7 b5 46 (respC 0 0 1 0) := hb7
  have hB47 := ((hB4.mod hn5.grow (fun h => h)).mod hm6' (fun e => by have e' : b4 = pl := e; omega)).mod hm7 (fun e => by have e' : b4 = b5 := e; omega)
  refine RL.done ?_
  refine RK.inBlock ?_
  refine RK.seq ?_
  refine RK.region ?_
  refine RL.q (.free rfl) rfl rfl (Yld.loadN (cs := respC 0 0 1 0) a46 rfl (atN (blkV hB7))) ?_
  refine RL.op' (.free rfl) rfl (Does.storeN i46 rfl rfl rfl rfl hB47 (Nat.le_of_ble_eq_true rfl)) ?_
  rintro _ w8 ⟨hb8, hm8, hs8⟩
  have hM6 : Mod (· = pl) w w6 := (Mod.any' hG5).trans hm6'
  have hv6' : ∀ b, v6.ownBlock = some b → w5.heap.size ≤ b := fun b e => by
      rcases hv6 b e with e | e
      · simp [Value.ownBlock] at e
      · exact e
  refine RL.done ?_
  refine RK.ret_of Tryz.func90 (resC (cs := respC 0 0 1 0) rfl rfl a46 hb8) ?_ _
  exact ⟨_, rfl, rfl, ⟨v6, ⟨(hP6.blk.mod hm7 (fun e => by have e' : pl = b5 := e; omega)).mod hm8 (fun e => by have e' : pl = b4 := e; omega), (hP6.row.mod hm7 (fun b e1 e2 => by have e' : b = b5 := e2; have := hv6' b e1; omega)).mod hm8 (fun b e1 e2 => by have e' : b = b4 := e2; have := hv6' b e1; omega), hP6.ne⟩, fun b e => by have := hv6' b e; omega⟩, (hM6.then hm7 (fun x hx e => by have e' : x = b5 := e; omega)).then hm8 (fun x hx e => by have e' : x = b4 := e; omega)⟩
theorem DkAt.upd {w w' : World} {dk dr q tk pl : Nat} {tok : ByteArray} {now dm tm pm : Int} {n : Nat} {v : Value} {cs ds : List Value} {vt : Value} {last : Int} {out : List Int} {vp : Value} (h : DkAt w dk dr q tk pl tok now dm tm pm n v cs ds vt last out vp) (hm : Mod (fun b => b = pl ∨ b = q) w w') {n' : Nat} {v' : Value} {cs' ds' : List Value} {last' : Int} {out' : List Int} {vp' : Value} (hc : ChAt w' q dm n' v' cs' ds') (hp : PoolAt w' pl pm last' out' vp') : DkAt w' dk dr q tk pl tok now dm tm pm n' v' cs' ds' vt last' out' vp' :=
  ⟨h.blk.mod hm (fun e => e.elim (h.blk.ty.ne h.pool.blk.ty rfl) (h.blk.ty.ne h.door.ch.blk.ty rfl)),
   ⟨h.door.blk.mod hm (fun e => e.elim (h.door.blk.ty.ne h.pool.blk.ty rfl) (h.door.blk.ty.ne h.door.ch.blk.ty rfl)), hc⟩,
   ⟨h.tok.blk.mod hm (fun e => e.elim (h.tok.blk.ty.ne h.pool.blk.ty rfl) (h.tok.blk.ty.ne h.door.ch.blk.ty rfl)), h.tok.row.mod hm (fun b e1 e => e.elim ((h.tok.row.ty e1).ne h.pool.blk.ty rfl) ((h.tok.row.ty e1).ne h.door.ch.blk.ty rfl))⟩, hp⟩
theorem doorDo1_ok {w : World} {dk dr q tk pl : Nat} {tok tk0 : ByteArray} {clk : Nat} {dm tm pm : Int} {ds : List Value} {vt : Value} (h : DkAt w dk dr q tk pl tok (clk : Int) dm tm pm 0 (.slice none 0 0) [] ds vt 0 [] (.slice none 0 0)) (hclk : clk ≤ 1099511627776) (hdm : 1 ≤ dm) (hpm : 1 ≤ pm) (hK : KeysAt w) (hq0 : 0 < q) (hpl0 : 0 < pl) : Fx Tryz.prog 24 [pp dr, .agg (reqC tk0 1).toArray, .int .i64 0, .func (.func 90) #[pp dk] #[]] w (fun u w' => u = .agg (respC 0 1 1 0).toArray ∧ (∃ v' cs' ds' vp', DkAt w' dk dr q tk pl tok (clk : Int) dm tm pm 1 v' cs' ds' vt 1 [1] vp') ∧ Mod (fun b => b = pl ∨ b = q) w w') := by
  have hpllt := h.pool.blk.lt
  have hqlt := h.door.ch.blk.lt
  have hqpl : q ≠ pl := h.door.ch.blk.ty.ne h.pool.blk.ty rfl
  refine enter Tryz.func24 rfl rfl rfl _ (Pick.sub (l := [0, 1, 2, 3]) (.cons rfl (.cons rfl (.cons rfl (.cons rfl .nil))))) ?_
  refine RK.seq ?_
  refine RK.region ?_
  refine RL.op (.free rfl) rfl rfl (Does.box rfl) ?_
  rintro _ w1 ⟨b5, rfl, hn5⟩
  refine RL.op (.free rfl) rfl rfl (Does.alloc i46) ?_
  rintro _ w2 ⟨b8, rfl, hn8⟩
  have hB5 : Blk w1 b5 39 (reqC tk0 1) := hn5.blk
  have hB8 : Blk w2 b8 46 (respC 0 0 0 0) := hn8.blk
  have hB52 := hB5.mod hn8.grow (fun h => h)
  have ha5 := hn5.at_
  have ha8 := hn8.at_
  have hz5 := hn5.size
  have hz8 := hn8.size
  refine RL.done ?_
  refine RK.seq ?_
  refine RK.region ?_
  refine RL.q (.free rfl) rfl rfl (Yld.loadN (cs := reqC tk0 1) a39 rfl (atN (blkV hB52))) ?_
  refine RL.op (.free rfl) rfl rfl (Does.call rfl e51 (body1_ok tk0 _)) ?_
  rintro _ w3 ⟨g, rfl, hr3, hgle, hg3⟩
  have hG3 : Grow w w3 := (hn5.grow.trans hn8.grow).trans hg3
  have h3 := h.grow hG3
  have hglt : g < w3.heap.size := (hr3.ty (b := g) rfl).lt
  refine RL.p rfl rfl ?_
  refine RL.done ?_
  iterate 2 refine RK.seq ?_
  refine RK.region ?_
  refine RL.p rfl rfl ?_
  refine RL.q (.free rfl) rfl rfl (Yld.eqNil u43 rfl rfl) ?_
  refine RL.done ?_
  refine RK.condF (hcF rfl (rfl)) ?_
  refine RK.skip ?_
  iterate 2 refine RK.seq ?_
  refine RK.region ?_
  iterate 2 refine RL.p rfl rfl ?_
  refine RL.q (.free rfl) rfl rfl (Yld.fieldAddr fo109_2 rfl) ?_
  refine RL.q (.free rfl) rfl rfl (Yld.load p106 rfl (at1 (h3.door.blk.cell rfl))) ?_
  refine RL.op (.free rfl) rfl rfl (Does.call rfl e52 (full_ok h3.door.ch)) ?_
  rintro _ w4 ⟨rfl, hg4⟩
  have hz3 := hG3.size
  have hz4 := hg4.size
  refine RL.p rfl rfl ?_
  refine RL.knownF (d := 21) rfl rfl (decide_eq_false (by omega)) ?_
  iterate 4 refine RL.no (.no rfl rfl rfl rfl) rfl rfl ?_
  refine RL.p rfl rfl ?_
  refine RL.done ?_
  refine RK.condF rfl ?_
  refine RK.skip ?_
  refine RK.seq ?_
  refine RK.region ?_
  refine RL.q (.free rfl) rfl rfl (Yld.build (v := .agg (respC 4 0 0 0).toArray) rfl (fun w => by kernel_rfl)) ?_
  refine RL.op (.free rfl) rfl rfl (Does.alloc i46) ?_
  rintro _ w5 ⟨b10, rfl, hn10⟩
  have ha10 := hn10.at_
  have hz10 := hn10.size
  have hB10 : Blk w5 b10 46 (respC 0 0 0 0) := hn10.blk
  refine RL.op' (.free rfl) rfl (Does.storeN i46 rfl rfl rfl rfl hn10.blk (Nat.le_of_ble_eq_true rfl)) ?_
  rintro _ w6 ⟨hb6, hm6, hs6⟩
  have hG36 : Grow w3 w6 := (hg4.trans hn10.grow).then hm6 (fun x hx e => by have e' : x = b10 := e; omega)
  have hG6 : Grow w w6 := hG3.trans hG36
  have h6 := h.grow hG6
  have hG26 := hg3.trans hG36
  have hB56 := hB52.mod hG26 (fun h => h)
  refine RL.done ?_
  refine RK.seq ?_
  refine RK.block ?_
  refine RK.seq ?_
  refine RK.region ?_
  refine RL.p rfl rfl ?_
  refine RL.q (.free rfl) rfl rfl (Yld.fieldAddr fo39_1 rfl) ?_
  refine RL.q (.free rfl) rfl rfl (Yld.load p3 rfl (at1 (hB56.cell rfl))) ?_
  refine RL.op (.free rfl) rfl rfl (Does.call rfl e54 (may01_ok _)) ?_
  rintro _ _ ⟨rfl, rfl⟩
  iterate 2 refine RL.p rfl rfl ?_
  refine RL.done ?_
  refine RK.condF (hcF rfl (rfl)) ?_
  refine RK.seq ?_
  refine RK.region ?_
  refine RL.q (.free rfl) rfl rfl (Yld.fieldAddr fo39_1 rfl) ?_
  refine RL.q (.free rfl) rfl rfl (Yld.load p3 rfl (at1 (hB56.cell rfl))) ?_
  iterate 2 refine RL.p rfl rfl ?_
  refine RL.done ?_
  refine RK.condF (hcF rfl (rfl)) ?_
  refine RK.seq ?_
  refine RK.region ?_
  refine RL.q (.free rfl) rfl rfl (Yld.fieldAddr fo39_1 rfl) ?_
  refine RL.q (.free rfl) rfl rfl (Yld.load p3 rfl (at1 (hB56.cell rfl))) ?_
  iterate 2 refine RL.p rfl rfl ?_
  refine RL.done ?_
  refine RK.condF (hcF rfl (rfl)) ?_
  refine RK.region ?_
  refine RL.p rfl rfl ?_
  refine RL.q (.free rfl) rfl rfl (Yld.loadN (cs := reqC tk0 1) a39 rfl (atN (blkV hB56))) ?_
  refine RL.op (.free rfl) rfl rfl (Does.callm rfl rfl e90 (deskAns1_ok h6.blk h6.pool hpm tk0)) ?_
  rintro _ w7 ⟨rfl, ⟨v7, hP7, hv7⟩, hm7⟩
  have hz6 := hG6.size
  have hz7 := hm7.size
  have hB107 := (show Blk w6 b10 46 (respC 4 0 0 0) from hb6).mod hm7 (fun e => by have e' : b10 = pl := e; omega)
  refine RL.op' (.free rfl) rfl (Does.storeN i46 rfl rfl rfl rfl hB107 (Nat.le_of_ble_eq_true rfl)) ?_
  rintro _ w8 ⟨hb8', hm8, hs8⟩
  have hB108 : Blk w8 b10 46 (respC 0 0 1 0) := hb8'
  have hM8 : Mod (fun b => b = pl ∨ b = q) w w8 := ((Mod.any' hG6).trans (hm7.mono fun b _ e => .inl e)).then hm8 (fun x hx e => by have e' : x = b10 := e; omega)
  have hm68 : Mod (fun b => b = pl ∨ b = b10) w6 w8 := (hm7.mono fun b _ e => .inl e).trans (hm8.mono fun b _ e => .inr e)
  have hC8 := h6.door.ch.blk.mod hm68 (fun e => e.elim hqpl (by omega))
  have hCh8 : ChAt w8 q dm 0 (.slice none 0 0) [] ds := ⟨hC8, Row.nil _ _ _, h.door.ch.head⟩
  have hP8 : PoolAt w8 pl pm 1 [1] v7 := ⟨hP7.blk.mod hm8 (fun e => by have e' : pl = b10 := e; omega), hP7.row.mod hm8 (fun b e1 e2 => (hP7.row.ty e1).ne hB107.ty rfl e2), hP7.ne⟩
  have h8 := h.upd hM8 hCh8 hP8
  refine RL.done ?_
  refine RK.inBlock ?_
  iterate 2 refine RK.seq ?_
  refine RK.region ?_
  iterate 2 refine RL.p rfl rfl ?_
  refine RL.q (.free rfl) rfl rfl (Yld.fieldAddr fo109_2 rfl) ?_
  refine RL.q (.free rfl) rfl rfl (Yld.load p106 rfl (at1 (h8.door.blk.cell rfl))) ?_
  refine RL.op (.free rfl) rfl rfl (Does.call rfl e52 (full_ok hCh8)) ?_
  rintro _ w9 ⟨rfl, hg9⟩
  have h9 := h8.grow hg9
  have h9d := h9.grow (Mod.drew No _)
  have hB109 := hB108.mod hg9 (fun h => h)
  have hB109d := hB109.mod (Mod.drew No _) (fun h => h)
  have hK9 : KeysAt w9 := (hK.mod hM8 (fun e => by rcases e with e | e <;> omega)).grow hg9
  have hr9 := (((hr3.mod hG36 (fun _ _ h => h)).mod hm68 (fun b e1 e2 => by
      simp [Value.ownBlock] at e1
      rcases e2 with e2 | e2
      · omega
      · omega)).mod hg9 (fun _ _ h => h)).mod (Mod.drew No _) (fun _ _ h => h)
  refine RL.p rfl rfl ?_
  refine RL.done ?_
  refine RK.condT (hcT rfl (by simp; omega)) ?_
  refine RK.drawM (· = q) [(0, false), (1, false), (2, false), (3, false), (4, false), (5, false), (6, false), (7, false), (8, false), (9, false), (10, false), (11, true)] [] mixed (by kernel_rfl) ?_
  iterate 2 refine DL.p rfl rfl rfl ?_
  refine DL.qf rfl (.free rfl) rfl rfl (Yld.fieldAddr fo109_2 rfl) ?_
  refine DL.q rfl (.free rfl) rfl rfl rfl (Yld.load p106 rfl (atM (h9d.door.blk.cell rfl) (fun e => h9.door.blk.ty.ne h9.door.ch.blk.ty rfl e))) (Mod.drew _ _) ?_
  iterate 2 refine DL.p rfl rfl rfl ?_
  refine DL.qf rfl (.free rfl) rfl rfl (Yld.fieldAddr fo109_1 rfl) ?_
  refine DL.q rfl (.free rfl) rfl rfl rfl (Yld.load p24 rfl (atM (h9d.door.blk.cell rfl) (fun e => h9.door.blk.ty.ne h9.door.ch.blk.ty rfl e))) (Mod.drew _ _) ?_
  refine DL.p rfl rfl rfl ?_
  refine DL.qf rfl (.free rfl) rfl rfl (Yld.fieldAddr fo46_0 rfl) ?_
  refine DL.q rfl (.free rfl) rfl rfl rfl (Yld.load p40 rfl (atM (hB109d.cell rfl) (fun e => hB109.ty.ne h9.door.ch.blk.ty rfl e))) (Mod.drew _ _) ?_
  refine DL.op rfl (.free rfl) rfl rfl (Does.call rfl e57 (chAdd1_ok h9d.door.ch hdm clk hclk g hr9 (hK9.grow (Mod.drew No _)) hq0)) ?_
  rintro _ w10 ⟨rfl, ⟨v10, cs10, ds10, hCh10, hv10⟩, hm10⟩
  refine ⟨(Mod.drew _ _).trans hm10, ?_⟩
  have hm910 : Mod (· = q) w8 w10 := (Mod.any' (hg9.trans (Mod.drew No _))).trans hm10
  have hB1010 := hB108.mod hm910 (fun e => hB108.ty.ne h8.door.ch.blk.ty rfl e)
  have hM10 : Mod (fun b => b = pl ∨ b = q) w w10 := hM8.trans (hm910.mono fun b _ e => .inr e)
  have hB510 := (hB56.mod hm68 (fun e => by rcases e with e | e <;> omega)).mod hm910 (fun e => hB56.ty.ne h6.door.ch.blk.ty rfl e)
  refine DL.done ?_
  iterate 2 refine RK.seq ?_
  refine RK.region ?_
  refine RL.q (.free rfl) rfl rfl (Yld.fieldAddr fo46_0 rfl) ?_
  refine RL.q (.free rfl) rfl rfl (Yld.load p40 rfl (at1 (hB1010.cell rfl))) ?_
  refine RL.p rfl rfl ?_
  refine RL.done ?_
  refine RK.condF (hcF rfl (rfl)) ?_
  refine RK.skip ?_
  refine RK.seq ?_
  refine RK.region ?_
  refine RL.q (.free rfl) rfl rfl (Yld.fieldAddr fo39_1 rfl) ?_
  refine RL.q (.free rfl) rfl rfl (Yld.load p3 rfl (at1 (hB510.cell rfl))) ?_
  refine RL.q (.free rfl) rfl rfl (Yld.fieldAddr fo46_1 rfl) ?_
  refine RL.op' (.free rfl) rfl (Does.store i3 rfl rfl rfl hB1010 (.s .z)) ?_
  rintro _ w11 ⟨hb11, hm11, hs11⟩
  have hB11 : Blk w11 b10 46 (respC 0 1 1 0) := hb11
  have hB86 := hB8.mod hG26 (fun h => h)
  have hB88 := hB86.mod hm68 (fun e => by rcases e with e | e <;> omega)
  have hB810 := hB88.mod hm910 (fun e => hB88.ty.ne h8.door.ch.blk.ty rfl e)
  have hB811 := hB810.mod hm11 (fun e => by have e' : b8 = b10 := e; omega)
  refine RL.done ?_
  refine RK.seq ?_
  refine RK.region ?_
  refine RL.q (.free rfl) rfl rfl (Yld.loadN (cs := respC 0 1 1 0) a46 rfl (atN (blkV hB11))) ?_
  refine RL.op' (.free rfl) rfl (Does.storeN i46 rfl rfl rfl rfl hB811 (Nat.le_of_ble_eq_true rfl)) ?_
  rintro _ w12 ⟨hb12, hm12, hs12⟩
  have hm1012 : Mod (fun b => b = b10 ∨ b = b8) w10 w12 := (hm11.mono fun b _ e => .inl e).trans (hm12.mono fun b _ e => .inr e)
  have hM12 : Mod (fun b => b = pl ∨ b = q) w w12 := hM10.then hm1012 (fun x hx e => by rcases e with e | e <;> omega)
  have hCh12 : ChAt w12 q dm 1 v10 cs10 ds10 := ⟨hCh10.blk.mod hm1012 (fun e => by rcases e with e | e <;> omega), hCh10.row.mod hm1012 (fun b e1 e => e.elim ((hCh10.row.ty e1).ne hB1010.ty rfl) (fun e => (hCh10.row.ty e1).ne hB810.ty rfl e)), hCh10.head⟩
  have hP10 : PoolAt w10 pl pm 1 [1] v7 := ⟨hP8.blk.mod hm910 (fun e => hqpl e.symm), hP8.row.mod hm910 (fun b e1 e => (hP8.row.ty e1).ne h8.door.ch.blk.ty rfl e), hP8.ne⟩
  have hP12 : PoolAt w12 pl pm 1 [1] v7 := ⟨hP10.blk.mod hm1012 (fun e => by rcases e with e | e <;> omega), hP10.row.mod hm1012 (fun b e1 e => e.elim ((hP10.row.ty e1).ne hB1010.ty rfl) (fun e => (hP10.row.ty e1).ne hB810.ty rfl e)), hP10.ne⟩
  refine RL.done ?_
  refine RK.ret_of Tryz.func24 (resC (cs := respC 0 1 1 0) rfl rfl a46 hb12) ?_ _
  exact ⟨_, rfl, rfl, ⟨v10, cs10, ds10, v7, h.upd hM12 hCh12 hP12⟩, hM12⟩
end Go.Proofs.YtnnmgfnhblbolaaGreatDoor
set_option linter.unusedVariables false
set_option linter.unusedSimpArgs false
set_option maxHeartbeats 800000
set_option maxRecDepth 100000
namespace Go.Proofs.YtnnmgfnhblbolaaGreatDoor
open Go Go.X
structure En where
  due : Int
  id : Int
deriving DecidableEq
def enC (e : En) : List Value := [.int .u64 e.due, .int .i64 e.id]
def ltE (x y : En) : Prop := x.due < y.due ∨ (x.due = y.due ∧ x.id < y.id)
instance (x y : En) : Decidable (ltE x y) := inferInstanceAs (Decidable (_ ∨ _))
def SortE (q : List En) : Prop := q.Pairwise ltE
end Go.Proofs.YtnnmgfnhblbolaaGreatDoor
set_option linter.unusedVariables false
set_option linter.unusedSimpArgs false
set_option maxHeartbeats 1600000
set_option maxRecDepth 100000
namespace Go.Proofs.YtnnmgfnhblbolaaGreatDoor
open Go Go.X
structure QAt (w : World) (p : Nat) (q : List En) (v : Value) : Prop where
  blk : Blk w p 174 [v]
  row : Row w 310 2 v q.length (q.flatMap enC)
  ne : v.ownBlock ≠ some p
theorem QAt.mod {M : Nat → Prop} {w w' : World} {p : Nat} {q : List En} {v : Value} (h : QAt w p q v) (hm : Mod M w w') (hp : ¬ M p) (hv : ∀ b, v.ownBlock = some b → ¬ M b) : QAt w' p q v := ⟨h.blk.mod hm hp, h.row.mod hm hv, h.ne⟩
theorem QAt.grow {w w' : World} {p : Nat} {q : List En} {v : Value} (h : QAt w p q v) (hm : Grow w w') : QAt w' p q v := h.mod hm (fun h => h) (fun _ _ h => h)
theorem reapNew_ok (w : World) : Fx Tryz.prog 49 [] w (fun u w' => ∃ p, u = pp p ∧ p = w.heap.size ∧ QAt w' p [] (.slice none 0 0) ∧ Grow w w' ∧ w'.heap.size = w.heap.size + 1) := by
  refine enter Tryz.func49 rfl rfl rfl _ (Pick.sub (l := []) .nil) ?_
  refine RK.seq ?_
  refine RK.region ?_
  refine RL.p rfl rfl ?_
  refine RL.done ?_
  refine RK.seq ?_
  refine RK.region ?_
  refine RL.q (.free rfl) rfl rfl (Yld.build (v := .agg #[.slice none 0 0]) rfl (fun w => by kernel_rfl)) ?_
  refine RL.op (.free rfl) rfl rfl (Does.box rfl) ?_
  rintro _ w1 ⟨b1, rfl, hn1⟩
  refine RL.p rfl rfl ?_
  refine RL.done ?_
  refine RK.ret_of Tryz.func49 (res1 rfl rfl) ?_ _
  exact ⟨_, rfl, b1, rfl, hn1.at_, ⟨hn1.blk, Row.nil _ _ _, by simp [Value.ownBlock]⟩, hn1.grow, hn1.size⟩
end Go.Proofs.YtnnmgfnhblbolaaGreatDoor
set_option linter.unusedVariables false
set_option linter.unusedSimpArgs false
set_option maxHeartbeats 1000000
set_option maxRecDepth 100000
namespace Go.Proofs.YtnnmgfnhblbolaaGreatDoor
open Go Go.X Go.Rex
structure AlOk (M : Nat → Prop) (w : World) (a : Al) : Prop where
  l : SlL M w a.v a.ls
  z : ∀ x ∈ a.ls, x.value.size ≤ 100000
theorem AlOk.mod {M : Nat → Prop} {w w' : World} {a : Al} (h : AlOk M w a) (hm : Mod M w w') : AlOk M w' a := ⟨h.l.mod hm, h.z⟩
end Go.Proofs.YtnnmgfnhblbolaaGreatDoor
set_option linter.unusedVariables false
set_option linter.unusedSimpArgs false
set_option maxHeartbeats 2000000
set_option maxRecDepth 100000
namespace Go.Proofs.YtnnmgfnhblbolaaGreatDoor
open Go Go.X Go.Rex
structure Sil where
  id : Int
  ver : Int
  start : Int
  stop : Int
  mv : Value
  ms : List Mt
  bd : Bd
def silC (s : Sil) : List Value := [.int .i64 s.id, .int .i64 s.ver, .int .u64 s.start, .int .u64 s.stop, s.mv, .bool s.bd.all, .float .f64 s.bd.lo, .float .f64 s.bd.hi]
structure PlainIn (w : World) (t : Al) (sils : List Sil) (vs : Value) (als : List Al) (va : Value) (rs : List Ru) (vr : Value) : Prop where
  t : AlOk No w t
  s : Sl No w vs 8 sils.length (sils.flatMap silC)
  sm : ∀ s ∈ sils, SlM No w s.mv s.ms
  a : Sl No w va 3 als.length (als.flatMap alC)
  al : ∀ a ∈ als, AlOk No w a
  r : Sl No w vr 6 rs.length (rs.flatMap ruC)
  rl : ∀ r ∈ rs, r.Ok No w
  n1 : sils.length ≤ 1000
  n2 : als.length ≤ 1000
  n3 : rs.length ≤ 1000
theorem PlainIn.mod {w w' : World} {t : Al} {sils : List Sil} {vs : Value} {als : List Al} {va : Value} {rs : List Ru} {vr : Value} (h : PlainIn w t sils vs als va rs vr) (hg : Grow w w') : PlainIn w' t sils vs als va rs vr :=
  ⟨h.t.mod hg, h.s.mod hg, fun s hs => (h.sm s hs).mod hg, h.a.mod hg, fun a ha => (h.al a ha).mod hg, h.r.mod hg, fun r hr => (h.rl r hr).mod hg, h.n1, h.n2, h.n3⟩
end Go.Proofs.YtnnmgfnhblbolaaGreatDoor
set_option linter.unusedVariables false
set_option linter.unusedSimpArgs false
set_option maxHeartbeats 400000
namespace Go.Proofs.YtnnmgfnhblbolaaGreatDoor
open Go Go.X
abbrev CRows := List (ByteArray × List Int)
abbrev CKeys := List (Int × ByteArray)
def addC (rows : CRows) (k : ByteArray) (id : Int) : CRows := putM rows k (mkRow ((lookM rows k).getD [] ++ [id]))
def cutC (rows : CRows) (k : ByteArray) (id : Int) : CRows := if cutRow ((lookM rows k).getD []) id = [] then cutM (putM rows k (cutRow ((lookM rows k).getD []) id)) k else putM rows k (cutRow ((lookM rows k).getD []) id)
def dropC (c : CRows × CKeys) (id : Int) : CRows × CKeys := match lookM c.2 id with
  | none => c
  | some k => (cutC c.1 k id, cutM c.2 id)
def putC (c : CRows × CKeys) (id : Int) (s : Bool) (k : ByteArray) : CRows × CKeys := if s = true then (addC (dropC c id).1 k id, putM (dropC c id).2 id k) else dropC c id
structure CI (c : CRows × CKeys) : Prop where
  nk : (c.2.map (·.1)).Nodup
  nr : (c.1.map (·.1)).Nodup
  row : ∀ t ∈ c.1, Ris t.2 ∧ t.2 ≠ []
  mem : ∀ k id, id ∈ (lookM c.1 k).getD [] ↔ lookM c.2 id = some k
theorem CI.nil : CI ([], []) := ⟨by simp, by simp, by simp, by simp [lookM, placeM]⟩
theorem lookC_add (rows : CRows) (k k' : ByteArray) (id j : Int) : j ∈ (lookM (addC rows k id) k').getD [] ↔ j ∈ (lookM rows k').getD [] ∨ j = id ∧ k' = k := by
  unfold addC
  rw [lookM_putM]
  by_cases hk : k' = k
  · subst hk; simp [mem_mkRow]
  · rw [if_neg hk]; simp [hk]
theorem lookC_cut {rows : CRows} (h : (rows.map (·.1)).Nodup) (k k' : ByteArray) (id j : Int) : j ∈ (lookM (cutC rows k id) k').getD [] ↔ j ∈ (lookM rows k').getD [] ∧ ¬ (j = id ∧ k' = k) := by
  have hp := putM_nodup (k := k) (v := cutRow ((lookM rows k).getD []) id) h
  have e : (lookM (cutC rows k id) k').getD [] = if k' = k then cutRow ((lookM rows k).getD []) id else (lookM rows k').getD [] := by
    unfold cutC
    split
    · rename_i h0
      rw [lookM_cutM hp, lookM_putM]
      split
      · simp [h0]
      · rfl
    · rw [lookM_putM]
      split <;> rfl
  rw [e]
  by_cases hk : k' = k
  · subst hk; simp [mem_cutRow]
  · rw [if_neg hk]; simp [hk]
theorem addC_rows {rows : CRows} (hr : ∀ t ∈ rows, Ris t.2 ∧ t.2 ≠ []) (k : ByteArray) (id : Int) : ∀ t ∈ addC rows k id, Ris t.2 ∧ t.2 ≠ [] := fun t ht => by
  rcases mem_putM ht with h1 | rfl
  · exact hr t h1
  · exact ⟨mkRow_ris _, mkRow_ne (x := id) (by simp)⟩
theorem cutC_rows {rows : CRows} (hn : (rows.map (·.1)).Nodup) (hr : ∀ t ∈ rows, Ris t.2 ∧ t.2 ≠ []) (k : ByteArray) (id : Int) : ((cutC rows k id).map (·.1)).Nodup ∧ ∀ t ∈ cutC rows k id, Ris t.2 ∧ t.2 ≠ [] := by
  have hp := putM_nodup (k := k) (v := cutRow ((lookM rows k).getD []) id) hn
  unfold cutC
  split
  · refine ⟨cutM_nodup hp, fun t ht => ?_⟩
    obtain ⟨h1, h2⟩ := (mem_cutM hp).1 ht
    rcases mem_putM h1 with h3 | rfl
    · exact hr t h3
    · exact absurd rfl h2
  · rename_i hne
    refine ⟨hp, fun t ht => ?_⟩
    rcases mem_putM ht with h3 | rfl
    · exact hr t h3
    · exact ⟨cutRow_ris _ _, hne⟩
theorem dropC_look {c : CRows × CKeys} (h : CI c) (id j : Int) : lookM (dropC c id).2 j = if j = id then none else lookM c.2 j := by
  unfold dropC
  cases hk : lookM c.2 id with
  | none =>
    simp only
    split
    · rename_i e; rw [e]; exact hk
    · rfl
  | some k => exact lookM_cutM h.nk
theorem CI.drop {c : CRows × CKeys} (h : CI c) (id : Int) : CI (dropC c id) := by
  have hl := dropC_look h id
  unfold dropC at hl ⊢
  cases hk : lookM c.2 id with
  | none => exact h
  | some k =>
    rw [hk] at hl
    obtain ⟨h1, h2⟩ := cutC_rows h.nr h.row k id
    refine ⟨cutM_nodup h.nk, h1, h2, fun k' j => ?_⟩
    have h3 := hl j
    simp only at h3 ⊢
    rw [lookC_cut h.nr, h.mem, h3]
    by_cases e : j = id
    · subst e
      rw [hk]
      simp only [true_and, if_true, Option.some.injEq, reduceCtorEq, iff_false]
      intro hh
      exact hh.2 hh.1.symm
    · simp [e]
theorem putC_look {c : CRows × CKeys} (h : CI c) (id : Int) (s : Bool) (k : ByteArray) (j : Int) : lookM (putC c id s k).2 j = if j = id then (if s = true then some k else none) else lookM c.2 j := by
  unfold putC
  cases s with
  | true =>
    simp only [if_true]
    rw [lookM_putM, dropC_look h]
    by_cases e : j = id <;> simp [e]
  | false =>
    simp only [Bool.false_eq_true, if_false]
    rw [dropC_look h]
theorem CI.put {c : CRows × CKeys} (h : CI c) (id : Int) (s : Bool) (k : ByteArray) : CI (putC c id s k) := by
  have hd := h.drop id
  have hl := putC_look h id s k
  unfold putC at hl ⊢
  cases s with
  | false => exact hd
  | true =>
    simp only [if_true] at hl ⊢
    refine ⟨putM_nodup hd.nk, putM_nodup hd.nr, addC_rows hd.row _ _, fun k' j => ?_⟩
    have h3 := hl j
    simp only at h3 ⊢
    rw [lookC_add, hd.mem, h3, dropC_look h]
    by_cases e : j = id
    · subst e; simp [eq_comm]
    · simp [e]
def CB (c : CRows × CKeys) (B : Nat) : Prop := (∀ t ∈ c.1, t.2.length ≤ B) ∧ c.2.length ≤ B
theorem CB.nil : CB ([], []) 0 := ⟨by simp, by simp⟩
theorem CB.mono {c : CRows × CKeys} {B B' : Nat} (h : CB c B) (hB : B ≤ B') : CB c B' := ⟨fun t ht => Nat.le_trans (h.1 t ht) hB, Nat.le_trans h.2 hB⟩
theorem CB.look {c : CRows × CKeys} {B : Nat} (h : CB c B) (k : ByteArray) : ((lookM c.1 k).getD []).length ≤ B := by
  cases hl : lookM c.1 k with
  | none => simp
  | some a => exact h.1 _ (lookM_mem hl)
theorem cutM_len {κ α : Type} [DecidableEq κ] (k : κ) (l : List (κ × α)) : (cutM l k).length ≤ l.length := (cutM_sub k l).length_le
theorem CB.drop {c : CRows × CKeys} {B : Nat} (h : CB c B) (id : Int) : CB (dropC c id) B := by
  unfold dropC
  cases hk : lookM c.2 id with
  | none => exact h
  | some k =>
    refine ⟨fun t ht => ?_, Nat.le_trans (cutM_len _ _) h.2⟩
    have hp : ∀ t ∈ putM c.1 k (cutRow ((lookM c.1 k).getD []) id), t.2.length ≤ B := fun t ht => by
      rcases mem_putM ht with h1 | rfl
      · exact h.1 t h1
      · exact Nat.le_trans (cutRow_le _ _) (h.look k)
    simp only [cutC] at ht
    split at ht
    · exact hp t (mem_cutM' ht)
    · exact hp t ht
theorem CB.put {c : CRows × CKeys} {B : Nat} (h : CB c B) (id : Int) (s : Bool) (k : ByteArray) : CB (putC c id s k) (B + 1) := by
  have hd := h.drop id
  unfold putC
  cases s with
  | false => exact ⟨fun t ht => Nat.le_succ_of_le (hd.1 t ht), Nat.le_succ_of_le hd.2⟩
  | true =>
    simp only [if_true]
    refine ⟨fun t ht => ?_, ?_⟩
    · rcases mem_putM ht with h1 | rfl
      · exact Nat.le_succ_of_le (hd.1 t h1)
      · have h1 := mkRow_le ((lookM (dropC c id).1 k).getD [] ++ [id])
        have h2 := hd.look k
        simp at h1 ⊢
        omega
    · have h2 := hd.2
      rw [putM_len]
      split <;> omega
end Go.Proofs.YtnnmgfnhblbolaaGreatDoor
set_option linter.unusedVariables false
set_option linter.unusedSimpArgs false
set_option maxHeartbeats 400000
namespace Go.Proofs.YtnnmgfnhblbolaaGreatDoor
open Go Go.X
section
variable {α : Type} (idf : α → Int) (src : α → Bool) (key : α → ByteArray)
def leftA (all : List α) (id : Int) : List α := all.filter fun a => decide (idf a ≠ id)
structure CR (c : CRows × CKeys) (all : List α) : Prop where
  ci : CI c
  nd : (all.map idf).Nodup
  look : ∀ id k, lookM c.2 id = some k ↔ ∃ a ∈ all, idf a = id ∧ src a = true ∧ key a = k
end
section
variable {α : Type} {idf : α → Int} {src : α → Bool} {key : α → ByteArray} {c : CRows × CKeys} {all : List α}
theorem CR.nil : CR idf src key ([], []) [] := ⟨CI.nil, by simp, by simp [lookM, placeM]⟩
theorem mem_leftA {id : Int} {a : α} : a ∈ leftA idf all id ↔ a ∈ all ∧ idf a ≠ id := by simp [leftA]
theorem leftA_nd (h : (all.map idf).Nodup) (id : Int) : ((leftA idf all id).map idf).Nodup := h.sublist (List.filter_sublist.map _)
theorem CR.drop (h : CR idf src key c all) (id : Int) : CR idf src key (dropC c id) (leftA idf all id) := by
  refine ⟨h.ci.drop id, leftA_nd h.nd id, fun j k => ?_⟩
  rw [dropC_look h.ci]
  by_cases e : j = id
  · rw [if_pos e]
    simp only [reduceCtorEq, false_iff]
    rintro ⟨a, ha, e1, _⟩
    exact (mem_leftA.1 ha).2 (e1.trans e)
  · rw [if_neg e, h.look]
    constructor
    · rintro ⟨a, ha, e1, e2⟩
      exact ⟨a, mem_leftA.2 ⟨ha, fun e3 => e (e1 ▸ e3)⟩, e1, e2⟩
    · rintro ⟨a, ha, e1, e2⟩
      exact ⟨a, (mem_leftA.1 ha).1, e1, e2⟩
theorem CR.put (h : CR idf src key c all) (a : α) : CR idf src key (putC c (idf a) (src a) (key a)) (leftA idf all (idf a) ++ [a]) := by
  refine ⟨h.ci.put _ _ _, ?_, fun j k => ?_⟩
  · rw [List.map_append, List.nodup_append]
    refine ⟨leftA_nd h.nd _, by simp, fun x hx y hy e => ?_⟩
    simp only [List.map_cons, List.map_nil, List.mem_singleton] at hy
    obtain ⟨b, hb, e2⟩ := List.mem_map.1 hx
    exact (mem_leftA.1 hb).2 (e2.trans (e.trans hy))
  · rw [putC_look h.ci]
    by_cases e : j = idf a
    · subst e
      simp only [if_true]
      constructor
      · intro h1
        cases hs : src a with
        | false => rw [hs] at h1; simp at h1
        | true =>
          rw [hs] at h1
          simp only [if_true, Option.some.injEq] at h1
          exact ⟨a, by simp, rfl, hs, h1⟩
      · rintro ⟨b, hb, e1, e2, e3⟩
        rcases List.mem_append.1 hb with hb | hb
        · exact absurd e1 (mem_leftA.1 hb).2
        · rw [List.mem_singleton] at hb
          subst hb
          rw [if_pos e2, e3]
    · rw [if_neg e, h.look]
      constructor
      · rintro ⟨b, hb, e1, e2⟩
        exact ⟨b, List.mem_append_left _ (mem_leftA.2 ⟨hb, fun e3 => e (e1 ▸ e3)⟩), e1, e2⟩
      · rintro ⟨b, hb, e1, e2⟩
        rcases List.mem_append.1 hb with hb | hb
        · exact ⟨b, (mem_leftA.1 hb).1, e1, e2⟩
        · rw [List.mem_singleton] at hb
          exact absurd (hb ▸ e1).symm e
theorem keys_nil {l : CKeys} (h : ∀ j k, lookM l j ≠ some k) : l = [] := by
  cases l with
  | nil => rfl
  | cons t l => exact absurd (by rw [lookM_cons, if_pos rfl]) (h t.1 t.2)
theorem CI.empty (h : CI c) (h2 : c.2 = []) : c.1 = [] := by
  cases hc : c.1 with
  | nil => rfl
  | cons t l =>
    have ht : t ∈ c.1 := by rw [hc]; simp
    obtain ⟨_, hne⟩ := h.row t ht
    obtain ⟨j, hj⟩ := List.exists_mem_of_ne_nil _ hne
    have hl : lookM c.1 t.1 = some t.2 := (lookM_iff h.nr).2 ht
    have := (h.mem t.1 j).1 (by rw [hl]; exact hj)
    rw [h2] at this
    simp [lookM, placeM] at this
theorem CR.empty (h : CR idf src key c []) : c.1 = [] ∧ c.2 = [] := by
  have h2 : c.2 = [] := keys_nil fun j k e => by
    obtain ⟨a, ha, _⟩ := (h.look j k).1 e
    cases ha
  exact ⟨h.ci.empty h2, h2⟩
end
end Go.Proofs.YtnnmgfnhblbolaaGreatDoor
set_option linter.unusedVariables false
set_option linter.unusedSimpArgs false
set_option maxHeartbeats 1000000
set_option maxRecDepth 100000
namespace Go.Proofs.YtnnmgfnhblbolaaGreatDoor
open Go Go.X Go.Rex
structure CacheAt (M : Nat → Prop) (w : World) (p mr mk : Nat) (r : Ru) (c : CRows × CKeys) : Prop where
  blk : Blk w p 147 (ruC r ++ [.map (some mr), .map (some mk)])
  ne : mr ≠ mk
  ok : r.Ok M w
  rl : ∃ l : List (ByteArray × (List Int × Value)), l.map (fun t => (t.1, t.2.1)) = c.1 ∧ MapAt Value.string w mr (l.map fun t => (t.1, t.2.2)) ∧ ∀ t ∈ l, Sl M w t.2.2 1 t.2.1.length (ints t.2.1)
  kl : MapAt (Value.int .i64) w mk (c.2.map fun t => (t.1, Value.string t.2))
theorem CacheAt.mod {M M0 : Nat → Prop} {w w' : World} {p mr mk : Nat} {r : Ru} {c : CRows × CKeys} (h : CacheAt M w p mr mk r c) (hm : Mod M0 w w') (h0 : ∀ b, b < w.heap.size → M0 b → M b) (n1 : ¬ M0 p) (n2 : ¬ M0 mr) (n3 : ¬ M0 mk) : CacheAt M w' p mr mk r c := by
  obtain ⟨l, hl1, hl2, hl3⟩ := h.rl
  exact ⟨h.blk.mod hm n1, h.ne, h.ok.mod (hm.mono h0), ⟨l, hl1, hl2.mod hm n2, fun t ht => (hl3 t ht).mod (hm.mono h0)⟩, h.kl.mod hm n3⟩
theorem CacheAt.grow {M : Nat → Prop} {w w' : World} {p mr mk : Nat} {r : Ru} {c : CRows × CKeys} (h : CacheAt M w p mr mk r c) (hm : Grow w w') : CacheAt M w' p mr mk r c := h.mod hm (fun b _ e => e.elim) (fun h => h) (fun h => h) (fun h => h)
theorem CacheAt.off {M M' : Nat → Prop} {w : World} {p mr mk : Nat} {r : Ru} {c : CRows × CKeys} (h : CacheAt M w p mr mk r c) (hM : ∀ b, b < w.heap.size → M' b → M b) : CacheAt M' w p mr mk r c := by
  obtain ⟨l, hl1, hl2, hl3⟩ := h.rl
  exact ⟨h.blk, h.ne, ⟨h.ok.s.off (by omega) hM, h.ok.t.off (by omega) hM, h.ok.e.off (by omega) hM⟩, ⟨l, hl1, hl2, fun t ht => (hl3 t ht).off (by omega) hM⟩, h.kl⟩
end Go.Proofs.YtnnmgfnhblbolaaGreatDoor
set_option linter.unusedVariables false
set_option linter.unusedSimpArgs false
set_option maxHeartbeats 1600000
set_option maxRecDepth 100000
namespace Go.Proofs.YtnnmgfnhblbolaaGreatDoor
open Go Go.X
structure Slz where
  id : Int
  start : Int
  stop : Int
  ms : List Mt
  bd : Bd
def pubZ (a : Sil) : Slz := ⟨a.id, a.start, a.stop, a.ms, a.bd⟩
structure SS where
  ret : Int
  most : Int
  last : Int
  sl : List Slz
def ownS (p pl qu : Nat) (vp vq vs : Value) (b : Nat) : Prop := b = p ∨ b = pl ∨ b = qu ∨ vp.ownBlock = some b ∨ vq.ownBlock = some b ∨ vs.ownBlock = some b
structure ZA (w : World) (p : Nat) (s : SS) (M : Nat → Prop) (pl qu : Nat) (vp vq vs : Value) (al : List Sil) (q : List En) : Prop where
  blk : Blk w p 113 [pp pl, pp qu, .int .u64 s.ret, vs]
  pool : PoolAt w pl s.most s.last (al.map (·.id)) vp
  que : QAt w qu q vq
  row : Row w 197 8 vs al.length (al.flatMap silC)
  als : al.map pubZ = s.sl
  sms : ∀ a ∈ al, SlM M w a.mv a.ms
  sort : SortE q
  perm : q.Perm (al.map fun a => ⟨a.stop + s.ret, a.id⟩)
  ownM : ∀ b, ownS p pl qu vp vq vs b → M b
  ltM : ∀ b, M b → b < w.heap.size
def ZStore (O M : Nat → Prop) (w : World) (p : Nat) (s : SS) : Prop := ∃ pl qu vp vq vs al q, (∀ b, O b ↔ ownS p pl qu vp vq vs b) ∧ ZA w p s M pl qu vp vq vs al q
section
variable {w : World} {p : Nat} {s : SS} {M : Nat → Prop} {pl qu : Nat} {vp vq vs : Value} {al : List Sil} {q : List En}
theorem ZA.len (h : ZA w p s M pl qu vp vq vs al q) : al.length = s.sl.length := by rw [← h.als, List.length_map]
theorem ZA.ids (h : ZA w p s M pl qu vp vq vs al q) : al.map (·.id) = s.sl.map (·.id) := by rw [← h.als, List.map_map]; rfl
theorem ZA.own_lt (h : ZA w p s M pl qu vp vq vs al q) {b : Nat} (e : ownS p pl qu vp vq vs b) : b < w.heap.size := h.ltM b (h.ownM b e)
theorem ZA.grow {w' : World} (h : ZA w p s M pl qu vp vq vs al q) (hg : Grow w w') : ZA w' p s M pl qu vp vq vs al q :=
  ⟨h.blk.mod hg (fun h => h), ⟨h.pool.blk.mod hg (fun h => h), h.pool.row.mod hg (fun _ _ h => h), h.pool.ne⟩, h.que.grow hg, h.row.mod hg (fun _ _ h => h), h.als, fun a ha => (h.sms a ha).mod (Mod.any' hg), h.sort, h.perm, h.ownM, fun b hb => Nat.lt_of_lt_of_le (h.ltM b hb) hg.size⟩
end
theorem ZStore.grow {O M : Nat → Prop} {w w' : World} {p : Nat} {s : SS} (h : ZStore O M w p s) (hg : Grow w w') : ZStore O M w' p s := by
  obtain ⟨pl, qu, vp, vq, vs, al, q, hO, h⟩ := h
  exact ⟨pl, qu, vp, vq, vs, al, q, hO, h.grow hg⟩
theorem ZStore.lt {O M : Nat → Prop} {w : World} {p : Nat} {s : SS} (h : ZStore O M w p s) : ∀ b, O b → b < w.heap.size := by
  obtain ⟨pl, qu, vp, vq, vs, al, q, hO, h⟩ := h
  exact fun b hb => h.own_lt ((hO b).1 hb)
end Go.Proofs.YtnnmgfnhblbolaaGreatDoor
set_option linter.unusedVariables false
set_option linter.unusedSimpArgs false
set_option maxHeartbeats 1600000
set_option maxRecDepth 100000
namespace Go.Proofs.YtnnmgfnhblbolaaGreatDoor
open Go Go.X
def clampS (x lo hi : Int) : Int := if hi < (if lo > x then lo else x) then hi else (if lo > x then lo else x)
theorem newZ_ok (m r : Int) (w : World) : Fx Tryz.prog 21 [.int .i64 m, .int .u64 r] w (fun u w' => ∃ p O, u = pp p ∧ ZStore O O w' p ⟨clampS r 1 1048576, clampS m 1 12, 0, []⟩ ∧ Grow w w' ∧ ∀ b, O b → w.heap.size ≤ b) := by
  refine enter Tryz.func21 rfl rfl rfl _ (Pick.sub (l := [0, 1]) (.cons rfl (.cons rfl .nil))) ?_
  refine RK.seq ?_
  refine RK.region ?_
  refine RL.p rfl rfl ?_
  refine RL.done ?_
  refine RK.seq ?_
  refine RK.region ?_
  refine RL.p rfl rfl ?_
  refine RL.q (.free rfl) rfl rfl (Yld.max2 rfl rfl) ?_
  refine RL.q (.free rfl) rfl rfl (Yld.min2 rfl rfl) ?_
  refine RL.op (.free rfl) rfl rfl (Does.call rfl e23 (poolNew_ok _ _)) ?_
  rintro _ w1 ⟨pl, rfl, hpa, hp1, hg1, hz1⟩
  refine RL.op (.free rfl) rfl rfl (Does.call rfl e49 (reapNew_ok _)) ?_
  rintro _ w2 ⟨qu, rfl, hqa, hq2, hg2, hz2⟩
  refine RL.p rfl rfl ?_
  refine RL.q (.free rfl) rfl rfl (Yld.max2k rfl rfl) ?_
  refine RL.q (.free rfl) rfl rfl (Yld.min2k rfl rfl) ?_
  refine RL.q (.free rfl) rfl rfl (Yld.build (v := .agg #[pp pl, pp qu, .int .u64 (clampS r 1 1048576), .slice none 0 0]) rfl (fun w => by kernel_rfl)) ?_
  refine RL.op (.free rfl) rfl rfl (Does.box rfl) ?_
  rintro _ w3 ⟨b14, rfl, hn14⟩
  have hmost : (if 0 > clampS m 1 12 then 0 else clampS m 1 12) = clampS m 1 12 := by unfold clampS; split <;> split <;> (try split) <;> omega
  have hp3 : PoolAt w3 pl (clampS m 1 12) 0 [] (.slice none 0 0) := by
      have h1 : PoolAt w1 pl (clampS m 1 12) 0 [] (.slice none 0 0) := hmost ▸ hp1
      exact ⟨h1.blk.mod (hg2.trans hn14.grow) (fun h => h), h1.row.mod (hg2.trans hn14.grow) (fun _ _ h => h), h1.ne⟩
  have hlt : ∀ b, ownS b14 pl qu (.slice none 0 0) (.slice none 0 0) (.slice none 0 0) b → b < w3.heap.size ∧ w.heap.size ≤ b := fun b e => by
      have h1 := hn14.at_
      have h2 := hg1.size
      have h3 := hn14.blk.lt
      have h4 := hp3.blk.lt
      have h5 := (hq2.grow hn14.grow).blk.lt
      have h6 := hg2.size
      rcases e with e | e | e | e | e | e
      · omega
      · omega
      · omega
      · simp [Value.ownBlock] at e
      · simp [Value.ownBlock] at e
      · simp [Value.ownBlock] at e
  refine RL.p rfl rfl ?_
  refine RL.done ?_
  refine RK.ret_of Tryz.func21 (res1 rfl rfl) ?_ _
  exact ⟨_, rfl, b14, ownS b14 pl qu (.slice none 0 0) (.slice none 0 0) (.slice none 0 0), rfl, ⟨pl, qu, .slice none 0 0, .slice none 0 0, .slice none 0 0, [], [], fun _ => Iff.rfl, ⟨hn14.blk, hp3, hq2.grow hn14.grow, Row.nil _ _ _, rfl, fun a ha => (by cases ha), List.Pairwise.nil, List.Perm.nil, fun b e => e, fun b e => (hlt b e).1⟩⟩, (hg1.trans hg2).trans hn14.grow, fun b e => (hlt b e).2⟩
end Go.Proofs.YtnnmgfnhblbolaaGreatDoor
set_option linter.unusedVariables false
set_option linter.unusedSimpArgs false
set_option maxHeartbeats 6400000
set_option maxRecDepth 100000
namespace Go.Proofs.YtnnmgfnhblbolaaGreatDoor
open Go Go.X
theorem deskDo1_ok {w : World} {dk dr q tk pl : Nat} {tok tk0 : ByteArray} {clk : Nat} {dm tm pm : Int} {ds : List Value} {vt : Value} (h : DkAt w dk dr q tk pl tok (clk : Int) dm tm pm 0 (.slice none 0 0) [] ds vt 0 [] (.slice none 0 0)) (hclk : clk ≤ 1099511627776) (hdm : 1 ≤ dm) (hpm : 1 ≤ pm) (hK : KeysAt w) (hq0 : 0 < q) (hpl0 : 0 < pl) : Fx Tryz.prog 38 [pp dk, .agg (reqC tk0 1).toArray] w (fun u w' => u = .agg (respC 0 1 1 0).toArray ∧ (∃ v' cs' ds' vp', DkAt w' dk dr q tk pl tok (clk : Int) dm tm pm 1 v' cs' ds' vt 1 [1] vp') ∧ Mod (fun b => b = pl ∨ b = q) w w') := by
  have hpllt := h.pool.blk.lt
  have hqlt := h.door.ch.blk.lt
  refine enter Tryz.func38 rfl rfl rfl _ (Pick.sub (l := [0, 1]) (.cons rfl (.cons rfl .nil))) ?_
  refine RK.seq ?_
  refine RK.region ?_
  refine RL.op (.free rfl) rfl rfl (Does.box rfl) ?_
  rintro _ w1 ⟨b3, rfl, hn3⟩
  refine RL.op (.free rfl) rfl rfl (Does.alloc i46) ?_
  rintro _ w2 ⟨b4, rfl, hn4⟩
  have hB3 : Blk w1 b3 39 (reqC tk0 1) := hn3.blk
  have hB4 : Blk w2 b4 46 (respC 0 0 0 0) := hn4.blk
  have ha3 := hn3.at_
  have ha4 := hn4.at_
  have hz3 := hn3.size
  have hz4 := hn4.size
  have hG2 := hn3.grow.trans hn4.grow
  have hG2d := hG2.trans (Mod.drew No _)
  have h2 := h.grow hG2
  have h2d := h2.grow (Mod.drew No _)
  have hB3d := (hB3.mod hn4.grow (fun h => h)).mod (Mod.drew No _) (fun h => h)
  have hB4d := hB4.mod (Mod.drew No _) (fun h => h)
  refine RL.done ?_
  refine RK.seq ?_
  refine RK.drawM (fun b => b = pl ∨ b = q) [(0, false), (1, false), (2, false), (3, false), (4, false), (5, false), (6, false), (7, true), (8, true)] [8] mixed (by kernel_rfl) ?_
  iterate 2 refine DL.p rfl rfl rfl ?_
  refine DL.qf rfl (.free rfl) rfl rfl (Yld.fieldAddr fo151_0 rfl) ?_
  refine DL.q rfl (.free rfl) rfl rfl rfl (Yld.load p69 rfl (atM (h2d.blk.cell rfl) (fun e => e.elim (h2.blk.ty.ne h2.pool.blk.ty rfl) (h2.blk.ty.ne h2.door.ch.blk.ty rfl)))) (Mod.drew _ _) ?_
  refine DL.q rfl (.free rfl) rfl rfl rfl (Yld.loadN (cs := reqC tk0 1) a39 rfl (atNM (blkV hB3d) (fun e => e.elim (hB3d.ty.ne h2d.pool.blk.ty rfl) (hB3d.ty.ne h2d.door.ch.blk.ty rfl)))) (Mod.drew _ _) ?_
  iterate 2 refine DL.p rfl rfl rfl ?_
  refine DL.op rfl (.free rfl) rfl rfl (Does.call rfl e24 (doorDo1_ok h2d hclk hdm hpm (hK.grow hG2d) hq0 hpl0)) ?_
  rintro _ w3 ⟨rfl, ⟨v', cs', ds', vp', h3⟩, hm3⟩
  refine ⟨(Mod.drew _ _).trans hm3, ?_⟩
  have hB43 := hB4d.mod hm3 (fun e => e.elim (hB4d.ty.ne h2d.pool.blk.ty rfl) (hB4d.ty.ne h2d.door.ch.blk.ty rfl))
  refine DL.opT rfl (.free rfl) rfl rfl (Does.storeN i46 rfl rfl rfl rfl hB43 (Nat.le_of_ble_eq_true rfl)) ?_
  rintro _ w4 ⟨hb4, hm4, hs4⟩
  have hM3 : Mod (fun b => b = pl ∨ b = q) w w3 := (Mod.any' hG2d).trans hm3
  have hM4 : Mod (fun b => b = pl ∨ b = q) w w4 := hM3.then hm4 (fun x hx e => by have e' : x = b4 := e; omega)
  refine DL.done ?_
  refine RK.ret_of Tryz.func38 (resC (cs := respC 0 1 1 0) rfl rfl a46 hb4) ?_ _
  exact ⟨_, rfl, rfl, ⟨v', cs', ds', vp', h.upd hM4 ⟨h3.door.ch.blk.mod hm4 (fun e => by have e' : q = b4 := e; omega), h3.door.ch.row.mod hm4 (fun b e1 e2 => (h3.door.ch.row.ty e1).ne hB43.ty rfl e2), h3.door.ch.head⟩ ⟨h3.pool.blk.mod hm4 (fun e => by have e' : pl = b4 := e; omega), h3.pool.row.mod hm4 (fun b e1 e2 => (h3.pool.row.ty e1).ne hB43.ty rfl e2), h3.pool.ne⟩⟩, hM4⟩
theorem deskOwner_ok {w : World} {dk dr q tk pl : Nat} {tok : ByteArray} {now dm tm pm : Int} {n : Nat} {v : Value} {cs ds : List Value} {vt : Value} {last : Int} {out : List Int} {vp : Value} (h : DkAt w dk dr q tk pl tok now dm tm pm n v cs ds vt last out vp) (hs : tok.size ≤ 1000) : Fx Tryz.prog 36 [pp dk, .string tok] w (fun u w' => u = .tuple #[.int .i64 0, .bool true] ∧ Grow w w') := by
  refine enter Tryz.func36 rfl rfl rfl _ (Pick.sub (l := [0, 1]) (.cons rfl (.cons rfl .nil))) ?_
  refine RK.seq ?_
  refine RK.region ?_
  iterate 2 refine RL.p rfl rfl ?_
  refine RL.done ?_
  refine RK.seq ?_
  refine RK.region ?_
  iterate 2 refine RL.p rfl rfl ?_
  refine RL.q (.free rfl) rfl rfl (Yld.fieldAddr fo151_1 rfl) ?_
  refine RL.q (.free rfl) rfl rfl (Yld.load p148 rfl (at1 (h.blk.cell rfl))) ?_
  refine RL.p rfl rfl ?_
  refine RL.op (.free rfl) rfl rfl (Does.call rfl e82 (tokOwner1_ok h.tok hs)) ?_
  rintro _ w1 ⟨rfl, hg1⟩
  iterate 4 refine RL.p rfl rfl ?_
  refine RL.done ?_
  refine RK.ret_of Tryz.func36 (res2 rfl rfl rfl) ?_ _
  exact ⟨_, rfl, rfl, hg1⟩
theorem deskTokens1_ok {w : World} {dk dr q tk pl : Nat} {tok : ByteArray} {now dm tm pm : Int} {n : Nat} {v : Value} {cs ds : List Value} {vt : Value} {last : Int} {out : List Int} {vp : Value} (h : DkAt w dk dr q tk pl tok now dm tm pm n v cs ds vt last out vp) : Fx Tryz.prog 43 [pp dk, .int .i64 1] w (fun u w' => u = .slice none 0 0 ∧ Grow w w') := by
  refine enter Tryz.func43 rfl rfl rfl _ (Pick.sub (l := [0, 1]) (.cons rfl (.cons rfl .nil))) ?_
  refine RK.seq ?_
  refine RK.region ?_
  refine RL.p rfl rfl ?_
  refine RL.done ?_
  refine RK.seq ?_
  refine RK.region ?_
  iterate 2 refine RL.p rfl rfl ?_
  refine RL.q (.free rfl) rfl rfl (Yld.fieldAddr fo151_1 rfl) ?_
  refine RL.q (.free rfl) rfl rfl (Yld.load p148 rfl (at1 (h.blk.cell rfl))) ?_
  refine RL.p rfl rfl ?_
  refine RL.op (.free rfl) rfl rfl (Does.call rfl e93 (tokOf1_ok h.tok 1 (by decide))) ?_
  rintro _ w1 ⟨rfl, hg1⟩
  refine RL.p rfl rfl ?_
  refine RL.done ?_
  refine RK.ret_of Tryz.func43 (res1 rfl rfl) ?_ _
  exact ⟨_, rfl, rfl, hg1⟩
theorem deskRecs_ok {w : World} {dk dr q tk pl : Nat} {tok : ByteArray} {now dm tm pm : Int} {n : Nat} {v : Value} {cs ds : List Value} {vt : Value} {last : Int} {out : List Int} {vp : Value} (h : DkAt w dk dr q tk pl tok now dm tm pm n v cs ds vt last out vp) : Fx Tryz.prog 42 [pp dk] w (fun u w' => u = .int .i64 (n : Int) ∧ w = w') := by
  refine enter Tryz.func42 rfl rfl rfl _ (Pick.sub (l := [0]) (.cons rfl .nil)) ?_
  refine RK.seq ?_
  refine RK.region ?_
  refine RL.p rfl rfl ?_
  refine RL.done ?_
  refine RK.seq ?_
  refine RK.region ?_
  iterate 2 refine RL.p rfl rfl ?_
  refine RL.q (.free rfl) rfl rfl (Yld.fieldAddr fo151_0 rfl) ?_
  refine RL.q (.free rfl) rfl rfl (Yld.load p69 rfl (at1 (h.blk.cell rfl))) ?_
  refine RL.op (.free rfl) rfl rfl (Does.call rfl e28 (doorRecs_ok h.door)) ?_
  rintro _ _ ⟨rfl, rfl⟩
  refine RL.p rfl rfl ?_
  refine RL.done ?_
  refine RK.ret_of Tryz.func42 (res1 rfl rfl) ?_ _
  exact ⟨_, rfl, rfl, rfl⟩
theorem deskTick_ok {w : World} {dk dr q tk pl : Nat} {tok : ByteArray} {now dm tm pm : Int} {n : Nat} {v : Value} {cs ds : List Value} {vt : Value} {last : Int} {out : List Int} {vp : Value} (h : DkAt w dk dr q tk pl tok now dm tm pm n v cs ds vt last out vp) (t : Int) (h1 : now < t) (h2 : t ≤ 1099511627776) : Fx Tryz.prog 40 [pp dk, .int .u64 t] w (fun u w' => DkAt w' dk dr q tk pl tok t dm tm pm n v cs ds vt last out vp ∧ Mod (· = dr) w w') := by
  refine enter Tryz.func40 rfl rfl rfl _ (Pick.sub (l := [0, 1]) (.cons rfl (.cons rfl .nil))) ?_
  refine RK.region ?_
  iterate 2 refine RL.p rfl rfl ?_
  refine RL.q (.free rfl) rfl rfl (Yld.fieldAddr fo151_0 rfl) ?_
  refine RL.q (.free rfl) rfl rfl (Yld.load p69 rfl (at1 (h.blk.cell rfl))) ?_
  refine RL.p rfl rfl ?_
  refine RL.op (.free rfl) rfl rfl (Does.call rfl e91 (doorTick_ok h.door t h1 h2)) ?_
  rintro _ w1 ⟨rfl, hD, hm1⟩
  refine RL.done ?_
  refine RK.end_of Tryz.func40 (res0 rfl) ?_
  exact ⟨_, rfl, ⟨h.blk.mod hm1 (h.blk.ty.ne h.door.blk.ty rfl), hD, ⟨h.tok.blk.mod hm1 (h.tok.blk.ty.ne h.door.blk.ty rfl), h.tok.row.mod hm1 (fun b e1 e2 => (h.tok.row.ty e1).ne h.door.blk.ty rfl e2)⟩, ⟨h.pool.blk.mod hm1 (h.pool.blk.ty.ne h.door.blk.ty rfl), h.pool.row.mod hm1 (fun b e1 e2 => (h.pool.row.ty e1).ne h.door.blk.ty rfl e2), h.pool.ne⟩⟩, hm1⟩
structure PtE (base : Nat) (w : World) (pt dr q sl al ix mr : Nat) : Prop where
  fr : base ≤ pt ∧ base ≤ dr ∧ base ≤ q ∧ base ≤ sl ∧ base ≤ al ∧ base ≤ ix ∧ base ≤ mr
  blk : ∃ ids, Blk w pt 79 [pp dr, pp sl, pp al, pp ids, .slice none 0 0]
  door : ∃ x y, Blk w dr 109 [x, y, pp q]
  ch : ∃ x ds, Blk w q 171 (x :: .slice none 0 0 :: ds)
  sil : ∃ x y z ad c, Blk w sl 113 [x, y, z, .slice ad 0 c]
  alr : ∃ x ad c, Blk w al 118 [x, pp ix, .slice ad 0 c]
  idx : ∃ x, Blk w ix 178 [x, .map (some mr)]
  mp : MapAt pairV w mr []
theorem PtE.mod {base : Nat} {w w' : World} {M : Nat → Prop} {pt dr q sl al ix mr : Nat} (h : PtE base w pt dr q sl al ix mr) (hm : Mod M w w') (hM : ∀ b, base ≤ b → ¬ M b) : PtE base w' pt dr q sl al ix mr := by
  obtain ⟨h1, h2, h3, h4, h5, h6, h7⟩ := h.fr
  obtain ⟨ids, hb⟩ := h.blk
  obtain ⟨x1, y1, hd⟩ := h.door
  obtain ⟨x2, ds, hc⟩ := h.ch
  obtain ⟨x3, y3, z3, a3, c3, hs⟩ := h.sil
  obtain ⟨x4, a4, c4, ha⟩ := h.alr
  obtain ⟨x5, hi⟩ := h.idx
  exact ⟨h.fr, ⟨ids, hb.mod hm (hM _ h1)⟩, ⟨x1, y1, hd.mod hm (hM _ h2)⟩, ⟨x2, ds, hc.mod hm (hM _ h3)⟩, ⟨x3, y3, z3, a3, c3, hs.mod hm (hM _ h4)⟩, ⟨x4, a4, c4, ha.mod hm (hM _ h5)⟩, ⟨x5, hi.mod hm (hM _ h6)⟩, h.mp.mod hm (hM _ h7)⟩
theorem PtE.grow {base : Nat} {w w' : World} {pt dr q sl al ix mr : Nat} (h : PtE base w pt dr q sl al ix mr) (hg : Grow w w') : PtE base w' pt dr q sl al ix mr := h.mod hg (fun _ _ h => h)
theorem eLenA_ok {base : Nat} {w : World} {pt dr q sl al ix mr : Nat} (h : PtE base w pt dr q sl al ix mr) : Fx Tryz.prog 26 [pp al] w (fun u w' => u = .int .i64 0 ∧ w = w') := by
  obtain ⟨x4, a4, c4, ha⟩ := h.alr
  refine enter Tryz.func26 rfl rfl rfl _ (Pick.sub (l := [0]) (.cons rfl .nil)) ?_
  refine RK.seq ?_
  refine RK.region ?_
  refine RL.p rfl rfl ?_
  refine RL.done ?_
  refine RK.seq ?_
  refine RK.region ?_
  iterate 2 refine RL.p rfl rfl ?_
  refine RL.q (.free rfl) rfl rfl (Yld.fieldAddr fo118_2 rfl) ?_
  refine RL.q (.free rfl) rfl rfl (Yld.load p116 rfl (at1 (ha.cell rfl))) ?_
  refine RL.q (.free rfl) rfl rfl (Yld.lenSl u116 rfl) ?_
  refine RL.p rfl rfl ?_
  refine RL.done ?_
  refine RK.ret_of Tryz.func26 (res1 rfl rfl) ?_ _
  exact ⟨_, rfl, rfl, rfl⟩
theorem eIdx_ok {w : World} {ix mr : Nat} {x : Value} (hi : Blk w ix 178 [x, .map (some mr)]) (hm : MapAt pairV w mr []) : Fx Tryz.prog 73 [pp ix] w (fun u w' => u = .int .i64 0 ∧ w = w') := by
  refine enter Tryz.func73 rfl rfl rfl _ (Pick.sub (l := [0]) (.cons rfl .nil)) ?_
  refine RK.seq ?_
  refine RK.region ?_
  refine RL.p rfl rfl ?_
  refine RL.done ?_
  refine RK.seq ?_
  refine RK.region ?_
  iterate 2 refine RL.p rfl rfl ?_
  refine RL.q (.free rfl) rfl rfl (Yld.fieldAddr fo178_1 rfl) ?_
  refine RL.q (.free rfl) rfl rfl (Yld.load p176 rfl (at1 (hi.cell rfl))) ?_
  refine RL.q (.free rfl) rfl rfl (Yld.lenMap Tryz.underlying176 rfl (fun w' e => e ▸ hm)) ?_
  refine RL.p rfl rfl ?_
  refine RL.done ?_
  refine RK.ret_of Tryz.func73 (res1 rfl rfl) ?_ _
  exact ⟨_, rfl, rfl, rfl⟩
theorem ePosts_ok {base : Nat} {w : World} {pt dr q sl al ix mr : Nat} (h : PtE base w pt dr q sl al ix mr) : Fx Tryz.prog 29 [pp al] w (fun u w' => u = .int .i64 0 ∧ w = w') := by
  obtain ⟨x4, a4, c4, ha⟩ := h.alr
  obtain ⟨x5, hi⟩ := h.idx
  refine enter Tryz.func29 rfl rfl rfl _ (Pick.sub (l := [0]) (.cons rfl .nil)) ?_
  refine RK.seq ?_
  refine RK.region ?_
  refine RL.p rfl rfl ?_
  refine RL.done ?_
  refine RK.seq ?_
  refine RK.region ?_
  iterate 2 refine RL.p rfl rfl ?_
  refine RL.q (.free rfl) rfl rfl (Yld.fieldAddr fo118_1 rfl) ?_
  refine RL.q (.free rfl) rfl rfl (Yld.load p114 rfl (at1 (ha.cell rfl))) ?_
  refine RL.op (.free rfl) rfl rfl (Does.call rfl e73 (eIdx_ok hi h.mp)) ?_
  rintro _ _ ⟨rfl, rfl⟩
  refine RL.p rfl rfl ?_
  refine RL.done ?_
  refine RK.ret_of Tryz.func29 (res1 rfl rfl) ?_ _
  exact ⟨_, rfl, rfl, rfl⟩
theorem eLenS_ok {base : Nat} {w : World} {pt dr q sl al ix mr : Nat} (h : PtE base w pt dr q sl al ix mr) : Fx Tryz.prog 27 [pp sl] w (fun u w' => u = .int .i64 0 ∧ w = w') := by
  obtain ⟨x3, y3, z3, a3, c3, hs⟩ := h.sil
  refine enter Tryz.func27 rfl rfl rfl _ (Pick.sub (l := [0]) (.cons rfl .nil)) ?_
  refine RK.seq ?_
  refine RK.region ?_
  refine RL.p rfl rfl ?_
  refine RL.done ?_
  refine RK.seq ?_
  refine RK.region ?_
  iterate 2 refine RL.p rfl rfl ?_
  refine RL.q (.free rfl) rfl rfl (Yld.fieldAddr fo113_3 rfl) ?_
  refine RL.q (.free rfl) rfl rfl (Yld.load p42 rfl (at1 (hs.cell rfl))) ?_
  refine RL.q (.free rfl) rfl rfl (Yld.lenSl u42 rfl) ?_
  refine RL.p rfl rfl ?_
  refine RL.done ?_
  refine RK.ret_of Tryz.func27 (res1 rfl rfl) ?_ _
  exact ⟨_, rfl, rfl, rfl⟩
theorem eLenC_ok {base : Nat} {w : World} {pt dr q sl al ix mr : Nat} (h : PtE base w pt dr q sl al ix mr) : Fx Tryz.prog 72 [pp q] w (fun u w' => u = .int .i64 0 ∧ w = w') := by
  obtain ⟨x2, ds, hc⟩ := h.ch
  refine enter Tryz.func72 rfl rfl rfl _ (Pick.sub (l := [0]) (.cons rfl .nil)) ?_
  refine RK.seq ?_
  refine RK.region ?_
  refine RL.p rfl rfl ?_
  refine RL.done ?_
  refine RK.seq ?_
  refine RK.region ?_
  iterate 2 refine RL.p rfl rfl ?_
  refine RL.q (.free rfl) rfl rfl (Yld.fieldAddr fo171_1 rfl) ?_
  refine RL.q (.free rfl) rfl rfl (Yld.load p169 rfl (at1 (hc.cell rfl))) ?_
  refine RL.q (.free rfl) rfl rfl (Yld.lenSl u169 rfl) ?_
  refine RL.p rfl rfl ?_
  refine RL.done ?_
  refine RK.ret_of Tryz.func72 (res1 rfl rfl) ?_ _
  exact ⟨_, rfl, rfl, rfl⟩
theorem eRecs_ok {base : Nat} {w : World} {pt dr q sl al ix mr : Nat} (h : PtE base w pt dr q sl al ix mr) : Fx Tryz.prog 28 [pp dr] w (fun u w' => u = .int .i64 0 ∧ w = w') := by
  obtain ⟨x1, y1, hd⟩ := h.door
  refine enter Tryz.func28 rfl rfl rfl _ (Pick.sub (l := [0]) (.cons rfl .nil)) ?_
  refine RK.seq ?_
  refine RK.region ?_
  refine RL.p rfl rfl ?_
  refine RL.done ?_
  refine RK.seq ?_
  refine RK.region ?_
  iterate 2 refine RL.p rfl rfl ?_
  refine RL.q (.free rfl) rfl rfl (Yld.fieldAddr fo109_2 rfl) ?_
  refine RL.q (.free rfl) rfl rfl (Yld.load p106 rfl (at1 (hd.cell rfl))) ?_
  refine RL.op (.free rfl) rfl rfl (Does.call rfl e72 (eLenC_ok h)) ?_
  rintro _ _ ⟨rfl, rfl⟩
  refine RL.p rfl rfl ?_
  refine RL.done ?_
  refine RK.ret_of Tryz.func28 (res1 rfl rfl) ?_ _
  exact ⟨_, rfl, rfl, rfl⟩
@[reducible] def cnt0 : List Value := [.int .i64 0, .int .i64 0, .int .i64 0, .int .i64 0, .int .i64 0, .int .i64 0, .int .i64 0]
theorem partCounts0_ok {base : Nat} {w : World} {pt dr q sl al ix mr : Nat} (h : PtE base w pt dr q sl al ix mr) : Fx Tryz.prog 9 [pp pt] w (fun u w' => u = .agg cnt0.toArray ∧ Grow w w') := by
  obtain ⟨ids, hb⟩ := h.blk
  refine enter Tryz.func9 rfl rfl rfl _ (Pick.sub (l := [0]) (.cons rfl .nil)) ?_
  refine RK.seq ?_
  refine RK.region ?_
  refine RL.op (.free rfl) rfl rfl (Does.alloc i49) ?_
  rintro _ w1 ⟨b2, rfl, hn2⟩
  have hB2 : Blk w1 b2 49 cnt0 := hn2.blk
  have ha2 := hn2.at_
  have hz2 := hn2.size
  have h1d := (h.grow hn2.grow).grow (Mod.drew No _)
  have hb1 := hb.mod hn2.grow (fun h => h)
  have hb1d := hb1.mod (Mod.drew No _) (fun h => h)
  refine RL.done ?_
  refine RK.seq ?_
  refine RK.cutS (fun b3 : Nat => [(0, pp pt), (2, pp b2), (3, pp b3)]) (fun b3 w' => Blk w' b3 49 cnt0 ∧ Grow w1 w' ∧ w1.heap.size ≤ b3) (fun b3 w3 hQ => ?_) (fun hj => ?_)
  · obtain ⟨hB3, hg3, hle3⟩ := hQ
    iterate 2 refine RK.seq ?_
    refine RK.region ?_
    iterate 2 refine RL.p rfl rfl ?_
    refine RL.q (.free rfl) rfl rfl (Yld.fieldAddr fo79_4 rfl) ?_
    refine RL.q (.free rfl) rfl rfl (Yld.load p77 rfl (at1 ((hb1.mod hg3 (fun h => h)).cell rfl))) ?_
    refine RL.q (.free rfl) rfl rfl (Yld.lenSl u77 rfl) ?_
    refine RL.p rfl rfl ?_
    refine RL.done ?_
    refine RK.block ?_
    refine RK.loop (fun _ : Unit => [(2, pp b2), (3, pp b3), (35, .slice none 0 0), (36, .int .i64 0), (37, .int .i64 0)]) (fun _ w' => w3 = w') (fun _ => 0) () ⟨rfl, rfl, rfl, rfl, rfl, trivial⟩ rfl (fun _ w' hI ih => ?_)
    subst hI
    refine RK.seq ?_
    refine RK.region ?_
    refine RL.p rfl rfl ?_
    refine RL.done ?_
    refine RK.seq ?_
    refine RK.condF (hcF rfl (rfl)) ?_
    refine RK.exit rfl ?_
    refine RK.seq ?_
    refine RK.region ?_
    refine RL.q (.free rfl) rfl rfl (Yld.loadN (cs := cnt0) a49 rfl (atN (blkV hB3))) ?_
    refine RL.op' (.free rfl) rfl (Does.storeN i49 rfl rfl rfl rfl (hB2.mod hg3 (fun h => h)) (Nat.le_of_ble_eq_true rfl)) ?_
    rintro _ w4 ⟨hb4, hm4, hs4⟩
    refine RL.done ?_
    refine RK.ret_of Tryz.func9 (resC (cs := cnt0) rfl rfl a49 hb4) ?_ _
    exact ⟨_, rfl, rfl, (hn2.grow.trans hg3).then hm4 (fun x hx e => by have e' : x = b2 := e; omega)⟩
  · refine RK.drawT No (.op 0 false (.op 1 false (.op 2 false (.op 3 false (.op 5 false (.op 6 false (.op 7 false (.op 8 false (.op 10 false (.op 11 false (.op 12 false (.op 13 false (.op 14 false (.op 15 false (.op 16 false (.op 17 false (.op 18 false (.op 20 false (.op 21 false (.op 22 false (.op 23 false (.fork 4 (.fork 9 (.fork 19 (.fork 24 (.op 25 false (.op 26 true (.op 27 true .nil))) 26 (.op 24 true (.op 25 false (.op 27 true .nil)))) 26 (.op 19 true (.op 24 true (.op 25 false (.op 27 true .nil))))) 26 (.op 9 true (.op 19 true (.op 24 true (.op 25 false (.op 27 true .nil)))))) 26 (.op 4 true (.op 9 true (.op 19 true (.op 24 true (.op 25 false (.op 27 true .nil)))))))))))))))))))))))))))) [] mixed (by kernel_rfl) ?_
    iterate 2 refine DT.p rfl rfl rfl ?_
    refine DT.qf rfl (.free rfl) rfl rfl (Yld.fieldAddr fo79_2 rfl) ?_
    refine DT.q rfl (.free rfl) rfl rfl rfl (Yld.load p73 rfl (atM (hb1d.cell rfl) id)) (Mod.drew _ _) ?_
    iterate 2 refine DT.p rfl rfl rfl ?_
    refine DT.qf rfl (.free rfl) rfl rfl (Yld.fieldAddr fo79_1 rfl) ?_
    refine DT.q rfl (.free rfl) rfl rfl rfl (Yld.load p71 rfl (atM (hb1d.cell rfl) id)) (Mod.drew _ _) ?_
    iterate 2 refine DT.p rfl rfl rfl ?_
    refine DT.qf rfl (.free rfl) rfl rfl (Yld.fieldAddr fo79_4 rfl) ?_
    refine DT.q rfl (.free rfl) rfl rfl rfl (Yld.load p77 rfl (atM (hb1d.cell rfl) id)) (Mod.drew _ _) ?_
    refine DT.q rfl (.free rfl) rfl rfl rfl (Yld.lenSl u77 rfl) (Mod.drew _ _) ?_
    iterate 2 refine DT.p rfl rfl rfl ?_
    refine DT.qf rfl (.free rfl) rfl rfl (Yld.fieldAddr fo79_0 rfl) ?_
    refine DT.q rfl (.free rfl) rfl rfl rfl (Yld.load p69 rfl (atM (hb1d.cell rfl) id)) (Mod.drew _ _) ?_
    iterate 2 refine DT.p rfl rfl rfl ?_
    refine DT.qf rfl (.free rfl) rfl rfl (Yld.fieldAddr fo79_2 rfl) ?_
    refine DT.q rfl (.free rfl) rfl rfl rfl (Yld.load p73 rfl (atM (hb1d.cell rfl) id)) (Mod.drew _ _) ?_
    refine DT.fork ?_ ?_
    · refine DT.op rfl (.free rfl) rfl rfl (Does.call rfl e26 (eLenA_ok h1d)) ?_
      rintro _ _ ⟨rfl, rfl⟩
      refine ⟨Mod.drew No _, ?_⟩
      refine DT.fork ?_ ?_
      · refine DT.op rfl (.free rfl) rfl rfl (Does.call rfl e27 (eLenS_ok h1d)) ?_
        rintro _ _ ⟨rfl, rfl⟩
        refine ⟨Mod.drew No _, ?_⟩
        refine DT.fork ?_ ?_
        · refine DT.op rfl (.free rfl) rfl rfl (Does.call rfl e28 (eRecs_ok h1d)) ?_
          rintro _ _ ⟨rfl, rfl⟩
          refine ⟨Mod.drew No _, ?_⟩
          refine DT.fork ?_ ?_
          · refine DT.op rfl (.free rfl) rfl rfl (Does.call rfl e29 (ePosts_ok h1d)) ?_
            rintro _ _ ⟨rfl, rfl⟩
            refine ⟨Mod.drew No _, ?_⟩
            refine DT.qf rfl (.free rfl) rfl rfl (Yld.build (v := .agg cnt0.toArray) rfl (fun w => by kernel_rfl)) ?_
            refine DT.op rfl (.free rfl) rfl rfl (Does.alloc i49) ?_
            rintro _ wN ⟨bN, rfl, hnN⟩
            refine ⟨(Mod.drew No _).trans hnN.grow, ?_⟩
            refine DT.op' rfl (.free rfl) rfl (Does.storeN i49 rfl rfl rfl rfl hnN.blk (Nat.le_of_ble_eq_true rfl)) ?_
            rintro _ wS ⟨hbS, hmS, hsS⟩
            have hGS : Grow w1 wS := ((Mod.drew No _).trans hnN.grow).then hmS (fun x hx e => by have e' : x = bN := e; have haN := hnN.at_; simp only [World.drew] at haN; omega)
            refine ⟨hGS, ?_⟩
            refine DT.done ?_
            exact RK.back (hj bN _ ⟨hbS, hGS, by have haN := hnN.at_; simp only [World.drew] at haN; omega⟩) ⟨rfl, rfl, rfl, trivial⟩
          · refine DT.op rfl (.free rfl) rfl rfl (Does.alloc i49) ?_
            rintro _ wN ⟨bN, rfl, hnN⟩
            refine ⟨(Mod.drew No _).trans hnN.grow, ?_⟩
            refine DT.op rfl (.free rfl) rfl rfl (Does.call rfl e29 (ePosts_ok (h1d.grow hnN.grow))) ?_
            rintro _ _ ⟨rfl, rfl⟩
            refine ⟨(Mod.drew No _).trans hnN.grow, ?_⟩
            refine DT.qf rfl (.free rfl) rfl rfl (Yld.build (v := .agg cnt0.toArray) rfl (fun w => by kernel_rfl)) ?_
            refine DT.op' rfl (.free rfl) rfl (Does.storeN i49 rfl rfl rfl rfl hnN.blk (Nat.le_of_ble_eq_true rfl)) ?_
            rintro _ wS ⟨hbS, hmS, hsS⟩
            have hGS : Grow w1 wS := ((Mod.drew No _).trans hnN.grow).then hmS (fun x hx e => by have e' : x = bN := e; have haN := hnN.at_; simp only [World.drew] at haN; omega)
            refine ⟨hGS, ?_⟩
            refine DT.done ?_
            exact RK.back (hj bN _ ⟨hbS, hGS, by have haN := hnN.at_; simp only [World.drew] at haN; omega⟩) ⟨rfl, rfl, rfl, trivial⟩
        · refine DT.op rfl (.free rfl) rfl rfl (Does.alloc i49) ?_
          rintro _ wN ⟨bN, rfl, hnN⟩
          refine ⟨(Mod.drew No _).trans hnN.grow, ?_⟩
          refine DT.op rfl (.free rfl) rfl rfl (Does.call rfl e28 (eRecs_ok (h1d.grow hnN.grow))) ?_
          rintro _ _ ⟨rfl, rfl⟩
          refine ⟨(Mod.drew No _).trans hnN.grow, ?_⟩
          refine DT.op rfl (.free rfl) rfl rfl (Does.call rfl e29 (ePosts_ok (h1d.grow hnN.grow))) ?_
          rintro _ _ ⟨rfl, rfl⟩
          refine ⟨(Mod.drew No _).trans hnN.grow, ?_⟩
          refine DT.qf rfl (.free rfl) rfl rfl (Yld.build (v := .agg cnt0.toArray) rfl (fun w => by kernel_rfl)) ?_
          refine DT.op' rfl (.free rfl) rfl (Does.storeN i49 rfl rfl rfl rfl hnN.blk (Nat.le_of_ble_eq_true rfl)) ?_
          rintro _ wS ⟨hbS, hmS, hsS⟩
          have hGS : Grow w1 wS := ((Mod.drew No _).trans hnN.grow).then hmS (fun x hx e => by have e' : x = bN := e; have haN := hnN.at_; simp only [World.drew] at haN; omega)
          refine ⟨hGS, ?_⟩
          refine DT.done ?_
          exact RK.back (hj bN _ ⟨hbS, hGS, by have haN := hnN.at_; simp only [World.drew] at haN; omega⟩) ⟨rfl, rfl, rfl, trivial⟩
      · refine DT.op rfl (.free rfl) rfl rfl (Does.alloc i49) ?_
        rintro _ wN ⟨bN, rfl, hnN⟩
        refine ⟨(Mod.drew No _).trans hnN.grow, ?_⟩
        refine DT.op rfl (.free rfl) rfl rfl (Does.call rfl e27 (eLenS_ok (h1d.grow hnN.grow))) ?_
        rintro _ _ ⟨rfl, rfl⟩
        refine ⟨(Mod.drew No _).trans hnN.grow, ?_⟩
        refine DT.op rfl (.free rfl) rfl rfl (Does.call rfl e28 (eRecs_ok (h1d.grow hnN.grow))) ?_
        rintro _ _ ⟨rfl, rfl⟩
        refine ⟨(Mod.drew No _).trans hnN.grow, ?_⟩
        refine DT.op rfl (.free rfl) rfl rfl (Does.call rfl e29 (ePosts_ok (h1d.grow hnN.grow))) ?_
        rintro _ _ ⟨rfl, rfl⟩
        refine ⟨(Mod.drew No _).trans hnN.grow, ?_⟩
        refine DT.qf rfl (.free rfl) rfl rfl (Yld.build (v := .agg cnt0.toArray) rfl (fun w => by kernel_rfl)) ?_
        refine DT.op' rfl (.free rfl) rfl (Does.storeN i49 rfl rfl rfl rfl hnN.blk (Nat.le_of_ble_eq_true rfl)) ?_
        rintro _ wS ⟨hbS, hmS, hsS⟩
        have hGS : Grow w1 wS := ((Mod.drew No _).trans hnN.grow).then hmS (fun x hx e => by have e' : x = bN := e; have haN := hnN.at_; simp only [World.drew] at haN; omega)
        refine ⟨hGS, ?_⟩
        refine DT.done ?_
        exact RK.back (hj bN _ ⟨hbS, hGS, by have haN := hnN.at_; simp only [World.drew] at haN; omega⟩) ⟨rfl, rfl, rfl, trivial⟩
    · refine DT.op rfl (.free rfl) rfl rfl (Does.alloc i49) ?_
      rintro _ wN ⟨bN, rfl, hnN⟩
      refine ⟨(Mod.drew No _).trans hnN.grow, ?_⟩
      refine DT.op rfl (.free rfl) rfl rfl (Does.call rfl e26 (eLenA_ok (h1d.grow hnN.grow))) ?_
      rintro _ _ ⟨rfl, rfl⟩
      refine ⟨(Mod.drew No _).trans hnN.grow, ?_⟩
      refine DT.op rfl (.free rfl) rfl rfl (Does.call rfl e27 (eLenS_ok (h1d.grow hnN.grow))) ?_
      rintro _ _ ⟨rfl, rfl⟩
      refine ⟨(Mod.drew No _).trans hnN.grow, ?_⟩
      refine DT.op rfl (.free rfl) rfl rfl (Does.call rfl e28 (eRecs_ok (h1d.grow hnN.grow))) ?_
      rintro _ _ ⟨rfl, rfl⟩
      refine ⟨(Mod.drew No _).trans hnN.grow, ?_⟩
      refine DT.op rfl (.free rfl) rfl rfl (Does.call rfl e29 (ePosts_ok (h1d.grow hnN.grow))) ?_
      rintro _ _ ⟨rfl, rfl⟩
      refine ⟨(Mod.drew No _).trans hnN.grow, ?_⟩
      refine DT.qf rfl (.free rfl) rfl rfl (Yld.build (v := .agg cnt0.toArray) rfl (fun w => by kernel_rfl)) ?_
      refine DT.op' rfl (.free rfl) rfl (Does.storeN i49 rfl rfl rfl rfl hnN.blk (Nat.le_of_ble_eq_true rfl)) ?_
      rintro _ wS ⟨hbS, hmS, hsS⟩
      have hGS : Grow w1 wS := ((Mod.drew No _).trans hnN.grow).then hmS (fun x hx e => by have e' : x = bN := e; have haN := hnN.at_; simp only [World.drew] at haN; omega)
      refine ⟨hGS, ?_⟩
      refine DT.done ?_
      exact RK.back (hj bN _ ⟨hbS, hGS, by have haN := hnN.at_; simp only [World.drew] at haN; omega⟩) ⟨rfl, rfl, rfl, trivial⟩
theorem partNew_ok (tok : ByteArray) (a b c d e f g r : Int) (hf1 : 1 ≤ f) (hf2 : f ≤ 200) (ow now : Int) (hnow : now ≤ 1099511627776) (w : World) (hK : KeysAt w) : Fx Tryz.prog 6 [.agg (cfgC tok a b c d e f g r).toArray, .int .i64 ow, .int .u64 now] w (fun u w' => ∃ pt dr q sl al ix mr, u = pp pt ∧ PtE w.heap.size w' pt dr q sl al ix mr ∧ Grow w w') := by
  refine enter Tryz.func6 rfl rfl rfl _ (Pick.sub (l := [0, 1, 2]) (.cons rfl (.cons rfl (.cons rfl .nil)))) ?_
  refine RK.seq ?_
  refine RK.region ?_
  refine RL.op (.free rfl) rfl rfl (Does.box rfl) ?_
  rintro _ w2 ⟨b3, rfl, hn3⟩
  have hB : Blk w2 b3 26 (cfgC tok a b c d e f g r) := hn3.blk
  have hBd := hB.mod (Mod.drew No _) (fun h => h)
  have hz2 := hn3.size
  refine RL.p rfl rfl ?_
  refine RL.done ?_
  refine RK.seq ?_
  refine RK.drawM No [(0, false), (1, false), (2, false), (3, false), (5, false), (6, false), (7, false), (8, false), (10, false), (11, false), (13, false), (14, false), (15, false), (16, false), (4, true), (9, true), (12, true), (17, true), (18, false), (19, true), (20, false)] [] mixed (by kernel_rfl) ?_
  refine DL.p rfl rfl rfl ?_
  refine DL.qf rfl (.free rfl) rfl rfl (Yld.fieldAddr fo26_6 rfl) ?_
  refine DL.q rfl (.free rfl) rfl rfl rfl (Yld.load p3 rfl (atM (hBd.cell rfl) id)) (Mod.drew _ _) ?_
  refine DL.p rfl rfl rfl ?_
  refine DL.qf rfl (.free rfl) rfl rfl (Yld.fieldAddr fo26_4 rfl) ?_
  refine DL.q rfl (.free rfl) rfl rfl rfl (Yld.load p3 rfl (atM (hBd.cell rfl) id)) (Mod.drew _ _) ?_
  refine DL.qf rfl (.free rfl) rfl rfl (Yld.fieldAddr fo26_8 rfl) ?_
  refine DL.q rfl (.free rfl) rfl rfl rfl (Yld.load p24 rfl (atM (hBd.cell rfl) id)) (Mod.drew _ _) ?_
  refine DL.qf rfl (.free rfl) rfl rfl (Yld.fieldAddr fo26_3 rfl) ?_
  refine DL.q rfl (.free rfl) rfl rfl rfl (Yld.load p3 rfl (atM (hBd.cell rfl) id)) (Mod.drew _ _) ?_
  refine DL.qf rfl (.free rfl) rfl rfl (Yld.fieldAddr fo26_5 rfl) ?_
  refine DL.q rfl (.free rfl) rfl rfl rfl (Yld.load p3 rfl (atM (hBd.cell rfl) id)) (Mod.drew _ _) ?_
  refine DL.q rfl (.free rfl) rfl rfl rfl (Yld.max2 rfl rfl) (Mod.drew _ _) ?_
  refine DL.q rfl (.free rfl) rfl rfl rfl (Yld.min2 rfl rfl) (Mod.drew _ _) ?_
  refine DL.op rfl (.free rfl) rfl rfl (Does.call rfl e20 (doorNew_ok ow f now hnow hf1 hf2 _ (hK.grow (hn3.grow.trans (Mod.drew No _))))) ?_
  rintro _ w3 ⟨dr, q, ds, rfl, hdr, hq, hD3, hg3⟩
  refine ⟨(Mod.drew _ _).trans hg3, ?_⟩
  refine DL.op rfl (.free rfl) rfl rfl (Does.call rfl e21 (newZ_ok d r _)) ?_
  rintro _ w4 ⟨sl, O4, rfl, hZ4, hg4, hO4⟩
  refine ⟨((Mod.drew _ _).trans hg3).trans hg4, ?_⟩
  refine DL.op rfl (.free rfl) rfl rfl (Does.call rfl e22 (alertNew_ok c _)) ?_
  rintro _ w5 ⟨al, M5, rfl, hA5, hM5, hg5⟩
  refine ⟨(((Mod.drew _ _).trans hg3).trans hg4).trans hg5, ?_⟩
  refine DL.op rfl (.free rfl) rfl rfl (Does.call rfl e23 (poolNew_ok _ _)) ?_
  rintro _ w6 ⟨ids, rfl, hid, hP6, hg6, hs6⟩
  refine ⟨((((Mod.drew _ _).trans hg3).trans hg4).trans hg5).trans hg6, ?_⟩
  refine DL.qf rfl (.free rfl) rfl rfl (Yld.build (v := .agg #[pp dr, pp sl, pp al, pp ids, .slice none 0 0]) rfl (fun w => by kernel_rfl)) ?_
  refine DL.op rfl (.free rfl) rfl rfl (Does.box rfl) ?_
  rintro _ w7 ⟨pt, rfl, hn7⟩
  refine ⟨(((((Mod.drew _ _).trans hg3).trans hg4).trans hg5).trans hg6).trans hn7.grow, ?_⟩
  have hz3 := hg3.size
  have hz4 := hg4.size
  have hz5 := hg5.size
  have hz6 := hg6.size
  have hk7 := hn7.at_
  simp only [World.drew] at hdr hq hz3
  obtain ⟨zpl, zqu, zvp, zvq, zvs, zal, zq, hO, hZ⟩ := hZ4
  obtain ⟨aq, ix, mh, mr, avo, avl, aal, hMo, hA⟩ := hA5
  obtain ⟨az, cz, hvs⟩ := hZ.row.slice
  have hzl : zal = [] := by have := hZ.als; simpa using this
  obtain ⟨aa, ca, hva⟩ := hA.row.slice
  have hal : aal = [] := by have := hA.als; simpa [St.new] using this
  obtain ⟨ir, hir1, hir2, _⟩ := hA.idx.rl
  have hir : ir = [] := by simpa [St.new] using hir1
  subst hzl hal hir hvs hva
  have hslf := hO4 sl ((hO sl).2 (.inl rfl))
  have half := hM5 al ((hMo al).2 (.inl rfl))
  have hixf := hM5 ix ((hMo ix).2 (.inr (.inr (.inr (.inr (.inr (.inr rfl)))))))
  have hmrf := hM5 mr ((hMo mr).2 (.inr (.inr (.inr (.inl rfl)))))
  have g57 := hg6.trans hn7.grow
  have g47 := hg5.trans g57
  have g37 := hg4.trans g47
  refine DL.p rfl rfl rfl ?_
  refine DL.done ?_
  refine RK.ret_of Tryz.func6 (res1 rfl rfl) ?_ _
  exact ⟨_, rfl, pt, dr, q, sl, al, ix, mr, rfl, ⟨⟨by omega, by omega, by omega, by omega, by omega, by omega, by omega⟩, ⟨ids, hn7.blk⟩, ⟨_, _, hD3.blk.mod g37 (fun h => h)⟩, ⟨_, ds, hD3.ch.blk.mod g37 (fun h => h)⟩, ⟨_, _, _, az, cz, hZ.blk.mod g47 (fun h => h)⟩, ⟨_, aa, ca, hA.blk.mod g57 (fun h => h)⟩, ⟨_, hA.idx.blk.mod g57 (fun h => h)⟩, hir2.mod g57 (fun h => h)⟩, ((hn3.grow.trans (Mod.drew _ _)).trans hg3).trans g37⟩
end Go.Proofs.YtnnmgfnhblbolaaGreatDoor
set_option linter.unusedVariables false
set_option linter.unusedSimpArgs false
set_option maxHeartbeats 6400000
set_option maxRecDepth 100000
namespace Go.Proofs.YtnnmgfnhblbolaaGreatDoor
open Go Go.X
theorem svIn_ok (n most : Int) (w : World) : Fx Tryz.prog 46 [.int .i64 n, .int .i64 most] w (fun u w' => u = .bool (decide (1 ≤ n ∧ n ≤ most)) ∧ w = w') := by
  refine enter Tryz.func46 rfl rfl rfl _ (Pick.sub (l := [0, 1]) (.cons rfl (.cons rfl .nil))) ?_
  refine RK.seq ?_
  refine RK.region ?_
  refine RL.p rfl rfl ?_
  refine RL.done ?_
  refine RK.seq ?_
  refine RK.region ?_
  iterate 3 refine RL.p rfl rfl ?_
  first | refine RL.splitD (d := 7) rfl rfl (fun h7 => ?_) (fun h7 => ?_) | refine RL.splitN (d := 7) rfl rfl (fun h7 => ?_) (fun h7 => ?_) | refine RL.split (d := 7) rfl rfl (fun h7 => ?_) (fun h7 => ?_)
  · iterate 3 refine RL.q (.yes rfl rfl rfl) rfl rfl (Yld.pure rfl) ?_
    iterate 2 refine RL.p rfl rfl ?_
    refine RL.done ?_
    refine RK.ret_of Tryz.func46 (res1 rfl rfl) ?_ _
    exact ⟨_, rfl, congrArg Value.bool (by have h7' : 1 ≤ n := h7; simp [h7']), rfl⟩
  · iterate 3 refine RL.no (.no rfl rfl rfl rfl) rfl rfl ?_
    iterate 2 refine RL.p rfl rfl ?_
    refine RL.done ?_
    refine RK.ret_of Tryz.func46 (res1 rfl rfl) ?_ _
    exact ⟨_, rfl, congrArg Value.bool (by have h7' : ¬ 1 ≤ n := h7; simp [h7']), rfl⟩
def svMayS (tok : ByteArray) (a b c d e f g r : Int) : Bool := decide ((4 ≤ tok.size ∧ tok.size ≤ 16) ∧ (1 ≤ a ∧ a ≤ 6) ∧ (1 ≤ b ∧ b ≤ 4) ∧ (1 ≤ c ∧ c ≤ 16) ∧ (1 ≤ d ∧ d ≤ 12) ∧ (1 ≤ e ∧ e ≤ 6) ∧ (1 ≤ f ∧ f ≤ 200) ∧ (1 ≤ g ∧ g ≤ 200) ∧ 1 ≤ r ∧ r ≤ 1048576)
theorem svMay_ok (tok : ByteArray) (a b c d e f g r : Int) (w : World) : Fx Tryz.prog 17 [.agg (cfgC tok a b c d e f g r).toArray] w (fun u w' => u = .bool (svMayS tok a b c d e f g r) ∧ Grow w w') := by
  refine enter Tryz.func17 rfl rfl rfl _ (Pick.sub (l := [0]) (.cons rfl .nil)) ?_
  refine RK.seq ?_
  refine RK.region ?_
  refine RL.op (.free rfl) rfl rfl (Does.box rfl) ?_
  rintro _ w1 ⟨b1, rfl, hn1⟩
  have hB : Blk w1 b1 26 (cfgC tok a b c d e f g r) := hn1.blk
  refine RL.p rfl rfl ?_
  refine RL.done ?_
  refine RK.seq ?_
  refine RK.region ?_
  refine RL.q (.free rfl) rfl rfl (Yld.fieldAddr fo26_0 rfl) ?_
  refine RL.q (.free rfl) rfl rfl (Yld.load p9 rfl (at1 (hB.cell rfl))) ?_
  refine RL.op (.free rfl) rfl rfl (Does.call rfl e45 (tokenIs_ok _ _)) ?_
  rintro _ _ ⟨rfl, rfl⟩
  refine RL.p rfl rfl ?_
  first | refine RL.splitD (d := 6) rfl rfl (fun h6 => ?_) (fun h6 => ?_) | refine RL.splitN (d := 6) rfl rfl (fun h6 => ?_) (fun h6 => ?_) | refine RL.split (d := 6) rfl rfl (fun h6 => ?_) (fun h6 => ?_)
  · refine RL.q (.yes rfl rfl rfl) rfl rfl (Yld.fieldAddr fo26_1 rfl) ?_
    refine RL.q (.yes rfl rfl rfl) rfl rfl (Yld.load p3 rfl (at1 (hB.cell rfl))) ?_
    refine RL.op (.yes rfl rfl rfl) rfl rfl (Does.call rfl e46 (svIn_ok a 6 _)) ?_
    rintro _ _ ⟨rfl, rfl⟩
    iterate 2 refine RL.p rfl rfl ?_
    first | refine RL.splitD (d := 11) rfl rfl (fun h11 => ?_) (fun h11 => ?_) | refine RL.splitN (d := 11) rfl rfl (fun h11 => ?_) (fun h11 => ?_) | refine RL.split (d := 11) rfl rfl (fun h11 => ?_) (fun h11 => ?_)
    · refine RL.q (.yes rfl rfl rfl) rfl rfl (Yld.fieldAddr fo26_2 rfl) ?_
      refine RL.q (.yes rfl rfl rfl) rfl rfl (Yld.load p3 rfl (at1 (hB.cell rfl))) ?_
      refine RL.op (.yes rfl rfl rfl) rfl rfl (Does.call rfl e46 (svIn_ok b 4 _)) ?_
      rintro _ _ ⟨rfl, rfl⟩
      iterate 2 refine RL.p rfl rfl ?_
      first | refine RL.splitD (d := 16) rfl rfl (fun h16 => ?_) (fun h16 => ?_) | refine RL.splitN (d := 16) rfl rfl (fun h16 => ?_) (fun h16 => ?_) | refine RL.split (d := 16) rfl rfl (fun h16 => ?_) (fun h16 => ?_)
      · refine RL.q (.yes rfl rfl rfl) rfl rfl (Yld.fieldAddr fo26_3 rfl) ?_
        refine RL.q (.yes rfl rfl rfl) rfl rfl (Yld.load p3 rfl (at1 (hB.cell rfl))) ?_
        refine RL.op (.yes rfl rfl rfl) rfl rfl (Does.call rfl e46 (svIn_ok c 16 _)) ?_
        rintro _ _ ⟨rfl, rfl⟩
        iterate 2 refine RL.p rfl rfl ?_
        first | refine RL.splitD (d := 21) rfl rfl (fun h21 => ?_) (fun h21 => ?_) | refine RL.splitN (d := 21) rfl rfl (fun h21 => ?_) (fun h21 => ?_) | refine RL.split (d := 21) rfl rfl (fun h21 => ?_) (fun h21 => ?_)
        · refine RL.q (.yes rfl rfl rfl) rfl rfl (Yld.fieldAddr fo26_4 rfl) ?_
          refine RL.q (.yes rfl rfl rfl) rfl rfl (Yld.load p3 rfl (at1 (hB.cell rfl))) ?_
          refine RL.op (.yes rfl rfl rfl) rfl rfl (Does.call rfl e46 (svIn_ok d 12 _)) ?_
          rintro _ _ ⟨rfl, rfl⟩
          iterate 2 refine RL.p rfl rfl ?_
          first | refine RL.splitD (d := 26) rfl rfl (fun h26 => ?_) (fun h26 => ?_) | refine RL.splitN (d := 26) rfl rfl (fun h26 => ?_) (fun h26 => ?_) | refine RL.split (d := 26) rfl rfl (fun h26 => ?_) (fun h26 => ?_)
          · refine RL.q (.yes rfl rfl rfl) rfl rfl (Yld.fieldAddr fo26_5 rfl) ?_
            refine RL.q (.yes rfl rfl rfl) rfl rfl (Yld.load p3 rfl (at1 (hB.cell rfl))) ?_
            refine RL.op (.yes rfl rfl rfl) rfl rfl (Does.call rfl e46 (svIn_ok e 6 _)) ?_
            rintro _ _ ⟨rfl, rfl⟩
            iterate 2 refine RL.p rfl rfl ?_
            first | refine RL.splitD (d := 31) rfl rfl (fun h31 => ?_) (fun h31 => ?_) | refine RL.splitN (d := 31) rfl rfl (fun h31 => ?_) (fun h31 => ?_) | refine RL.split (d := 31) rfl rfl (fun h31 => ?_) (fun h31 => ?_)
            · refine RL.q (.yes rfl rfl rfl) rfl rfl (Yld.fieldAddr fo26_6 rfl) ?_
              refine RL.q (.yes rfl rfl rfl) rfl rfl (Yld.load p3 rfl (at1 (hB.cell rfl))) ?_
              refine RL.op (.yes rfl rfl rfl) rfl rfl (Does.call rfl e46 (svIn_ok f 200 _)) ?_
              rintro _ _ ⟨rfl, rfl⟩
              iterate 2 refine RL.p rfl rfl ?_
              first | refine RL.splitD (d := 36) rfl rfl (fun h36 => ?_) (fun h36 => ?_) | refine RL.splitN (d := 36) rfl rfl (fun h36 => ?_) (fun h36 => ?_) | refine RL.split (d := 36) rfl rfl (fun h36 => ?_) (fun h36 => ?_)
              · refine RL.q (.yes rfl rfl rfl) rfl rfl (Yld.fieldAddr fo26_7 rfl) ?_
                refine RL.q (.yes rfl rfl rfl) rfl rfl (Yld.load p3 rfl (at1 (hB.cell rfl))) ?_
                refine RL.op (.yes rfl rfl rfl) rfl rfl (Does.call rfl e46 (svIn_ok g 200 _)) ?_
                rintro _ _ ⟨rfl, rfl⟩
                iterate 2 refine RL.p rfl rfl ?_
                first | refine RL.splitD (d := 41) rfl rfl (fun h41 => ?_) (fun h41 => ?_) | refine RL.splitN (d := 41) rfl rfl (fun h41 => ?_) (fun h41 => ?_) | refine RL.split (d := 41) rfl rfl (fun h41 => ?_) (fun h41 => ?_)
                · refine RL.q (.yes rfl rfl rfl) rfl rfl (Yld.fieldAddr fo26_8 rfl) ?_
                  refine RL.q (.yes rfl rfl rfl) rfl rfl (Yld.load p24 rfl (at1 (hB.cell rfl))) ?_
                  refine RL.q (.yes rfl rfl rfl) rfl rfl (Yld.pure rfl) ?_
                  iterate 2 refine RL.p rfl rfl ?_
                  first | refine RL.splitD (d := 46) rfl rfl (fun h46 => ?_) (fun h46 => ?_) | refine RL.splitN (d := 46) rfl rfl (fun h46 => ?_) (fun h46 => ?_) | refine RL.split (d := 46) rfl rfl (fun h46 => ?_) (fun h46 => ?_)
                  · refine RL.q (.yes rfl rfl rfl) rfl rfl (Yld.fieldAddr fo26_8 rfl) ?_
                    refine RL.q (.yes rfl rfl rfl) rfl rfl (Yld.load p24 rfl (at1 (hB.cell rfl))) ?_
                    refine RL.q (.yes rfl rfl rfl) rfl rfl (Yld.pure rfl) ?_
                    iterate 2 refine RL.p rfl rfl ?_
                    refine RL.done ?_
                    refine RK.ret_of Tryz.func17 (res1 rfl rfl) ?_ _
                    exact ⟨_, rfl, congrArg Value.bool (by have h46' : 1 ≤ r := h46; unfold svMayS; simp [h6, h11, h16, h21, h26, h31, h36, h41, h46']), hn1.grow⟩
                  · iterate 3 refine RL.no (.no rfl rfl rfl rfl) rfl rfl ?_
                    iterate 2 refine RL.p rfl rfl ?_
                    refine RL.done ?_
                    refine RK.ret_of Tryz.func17 (res1 rfl rfl) ?_ _
                    exact ⟨_, rfl, congrArg Value.bool (by have h46' : ¬ 1 ≤ r := h46; unfold svMayS; simp [h6, h11, h16, h21, h26, h31, h36, h41, h46']), hn1.grow⟩
                · iterate 3 refine RL.no (.no rfl rfl rfl rfl) rfl rfl ?_
                  iterate 2 refine RL.p rfl rfl ?_
                  iterate 3 refine RL.no (.no rfl rfl rfl rfl) rfl rfl ?_
                  iterate 2 refine RL.p rfl rfl ?_
                  refine RL.done ?_
                  refine RK.ret_of Tryz.func17 (res1 rfl rfl) ?_ _
                  exact ⟨_, rfl, congrArg Value.bool (by unfold svMayS; simp [h6, h11, h16, h21, h26, h31, h36, h41]), hn1.grow⟩
              · iterate 3 refine RL.no (.no rfl rfl rfl rfl) rfl rfl ?_
                iterate 2 refine RL.p rfl rfl ?_
                iterate 3 refine RL.no (.no rfl rfl rfl rfl) rfl rfl ?_
                iterate 2 refine RL.p rfl rfl ?_
                iterate 3 refine RL.no (.no rfl rfl rfl rfl) rfl rfl ?_
                iterate 2 refine RL.p rfl rfl ?_
                refine RL.done ?_
                refine RK.ret_of Tryz.func17 (res1 rfl rfl) ?_ _
                exact ⟨_, rfl, congrArg Value.bool (by unfold svMayS; simp [h6, h11, h16, h21, h26, h31, h36]), hn1.grow⟩
            · iterate 3 refine RL.no (.no rfl rfl rfl rfl) rfl rfl ?_
              iterate 2 refine RL.p rfl rfl ?_
              iterate 3 refine RL.no (.no rfl rfl rfl rfl) rfl rfl ?_
              iterate 2 refine RL.p rfl rfl ?_
              iterate 3 refine RL.no (.no rfl rfl rfl rfl) rfl rfl ?_
              iterate 2 refine RL.p rfl rfl ?_
              iterate 3 refine RL.no (.no rfl rfl rfl rfl) rfl rfl ?_
              iterate 2 refine RL.p rfl rfl ?_
              refine RL.done ?_
              refine RK.ret_of Tryz.func17 (res1 rfl rfl) ?_ _
              exact ⟨_, rfl, congrArg Value.bool (by unfold svMayS; simp [h6, h11, h16, h21, h26, h31]), hn1.grow⟩
          · iterate 3 refine RL.no (.no rfl rfl rfl rfl) rfl rfl ?_
            iterate 2 refine RL.p rfl rfl ?_
            iterate 3 refine RL.no (.no rfl rfl rfl rfl) rfl rfl ?_
            iterate 2 refine RL.p rfl rfl ?_
            iterate 3 refine RL.no (.no rfl rfl rfl rfl) rfl rfl ?_
            iterate 2 refine RL.p rfl rfl ?_
            iterate 3 refine RL.no (.no rfl rfl rfl rfl) rfl rfl ?_
            iterate 2 refine RL.p rfl rfl ?_
            iterate 3 refine RL.no (.no rfl rfl rfl rfl) rfl rfl ?_
            iterate 2 refine RL.p rfl rfl ?_
            refine RL.done ?_
            refine RK.ret_of Tryz.func17 (res1 rfl rfl) ?_ _
            exact ⟨_, rfl, congrArg Value.bool (by unfold svMayS; simp [h6, h11, h16, h21, h26]), hn1.grow⟩
        · iterate 3 refine RL.no (.no rfl rfl rfl rfl) rfl rfl ?_
          iterate 2 refine RL.p rfl rfl ?_
          iterate 3 refine RL.no (.no rfl rfl rfl rfl) rfl rfl ?_
          iterate 2 refine RL.p rfl rfl ?_
          iterate 3 refine RL.no (.no rfl rfl rfl rfl) rfl rfl ?_
          iterate 2 refine RL.p rfl rfl ?_
          iterate 3 refine RL.no (.no rfl rfl rfl rfl) rfl rfl ?_
          iterate 2 refine RL.p rfl rfl ?_
          iterate 3 refine RL.no (.no rfl rfl rfl rfl) rfl rfl ?_
          iterate 2 refine RL.p rfl rfl ?_
          iterate 3 refine RL.no (.no rfl rfl rfl rfl) rfl rfl ?_
          iterate 2 refine RL.p rfl rfl ?_
          refine RL.done ?_
          refine RK.ret_of Tryz.func17 (res1 rfl rfl) ?_ _
          exact ⟨_, rfl, congrArg Value.bool (by unfold svMayS; simp [h6, h11, h16, h21]), hn1.grow⟩
      · iterate 3 refine RL.no (.no rfl rfl rfl rfl) rfl rfl ?_
        iterate 2 refine RL.p rfl rfl ?_
        iterate 3 refine RL.no (.no rfl rfl rfl rfl) rfl rfl ?_
        iterate 2 refine RL.p rfl rfl ?_
        iterate 3 refine RL.no (.no rfl rfl rfl rfl) rfl rfl ?_
        iterate 2 refine RL.p rfl rfl ?_
        iterate 3 refine RL.no (.no rfl rfl rfl rfl) rfl rfl ?_
        iterate 2 refine RL.p rfl rfl ?_
        iterate 3 refine RL.no (.no rfl rfl rfl rfl) rfl rfl ?_
        iterate 2 refine RL.p rfl rfl ?_
        iterate 3 refine RL.no (.no rfl rfl rfl rfl) rfl rfl ?_
        iterate 2 refine RL.p rfl rfl ?_
        iterate 3 refine RL.no (.no rfl rfl rfl rfl) rfl rfl ?_
        iterate 2 refine RL.p rfl rfl ?_
        refine RL.done ?_
        refine RK.ret_of Tryz.func17 (res1 rfl rfl) ?_ _
        exact ⟨_, rfl, congrArg Value.bool (by unfold svMayS; simp [h6, h11, h16]), hn1.grow⟩
    · iterate 3 refine RL.no (.no rfl rfl rfl rfl) rfl rfl ?_
      iterate 2 refine RL.p rfl rfl ?_
      iterate 3 refine RL.no (.no rfl rfl rfl rfl) rfl rfl ?_
      iterate 2 refine RL.p rfl rfl ?_
      iterate 3 refine RL.no (.no rfl rfl rfl rfl) rfl rfl ?_
      iterate 2 refine RL.p rfl rfl ?_
      iterate 3 refine RL.no (.no rfl rfl rfl rfl) rfl rfl ?_
      iterate 2 refine RL.p rfl rfl ?_
      iterate 3 refine RL.no (.no rfl rfl rfl rfl) rfl rfl ?_
      iterate 2 refine RL.p rfl rfl ?_
      iterate 3 refine RL.no (.no rfl rfl rfl rfl) rfl rfl ?_
      iterate 2 refine RL.p rfl rfl ?_
      iterate 3 refine RL.no (.no rfl rfl rfl rfl) rfl rfl ?_
      iterate 2 refine RL.p rfl rfl ?_
      iterate 3 refine RL.no (.no rfl rfl rfl rfl) rfl rfl ?_
      iterate 2 refine RL.p rfl rfl ?_
      refine RL.done ?_
      refine RK.ret_of Tryz.func17 (res1 rfl rfl) ?_ _
      exact ⟨_, rfl, congrArg Value.bool (by unfold svMayS; simp [h6, h11]), hn1.grow⟩
  · iterate 3 refine RL.no (.no rfl rfl rfl rfl) rfl rfl ?_
    iterate 2 refine RL.p rfl rfl ?_
    iterate 3 refine RL.no (.no rfl rfl rfl rfl) rfl rfl ?_
    iterate 2 refine RL.p rfl rfl ?_
    iterate 3 refine RL.no (.no rfl rfl rfl rfl) rfl rfl ?_
    iterate 2 refine RL.p rfl rfl ?_
    iterate 3 refine RL.no (.no rfl rfl rfl rfl) rfl rfl ?_
    iterate 2 refine RL.p rfl rfl ?_
    iterate 3 refine RL.no (.no rfl rfl rfl rfl) rfl rfl ?_
    iterate 2 refine RL.p rfl rfl ?_
    iterate 3 refine RL.no (.no rfl rfl rfl rfl) rfl rfl ?_
    iterate 2 refine RL.p rfl rfl ?_
    iterate 3 refine RL.no (.no rfl rfl rfl rfl) rfl rfl ?_
    iterate 2 refine RL.p rfl rfl ?_
    iterate 3 refine RL.no (.no rfl rfl rfl rfl) rfl rfl ?_
    iterate 2 refine RL.p rfl rfl ?_
    iterate 3 refine RL.no (.no rfl rfl rfl rfl) rfl rfl ?_
    iterate 2 refine RL.p rfl rfl ?_
    refine RL.done ?_
    refine RK.ret_of Tryz.func17 (res1 rfl rfl) ?_ _
    exact ⟨_, rfl, congrArg Value.bool (by unfold svMayS; simp [h6]), hn1.grow⟩
@[reducible] def serC (tok : ByteArray) (a b c d e f g r now : Int) (dk m : Nat) : List Value := [.string tok, .int .i64 a, .int .i64 b, .int .i64 c, .int .i64 d, .int .i64 e, .int .i64 f, .int .i64 g, .int .u64 r, .int .u64 now, pp dk, .map (some m)]
theorem svNew_ok (tok : ByteArray) (a b c d e f g r : Int) (hm : svMayS tok a b c d e f g r = true) (w : World) (hK : KeysAt w) : Fx Tryz.prog 10 [.agg (cfgC tok a b c d e f g r).toArray] w (fun u w' => ∃ p dk dr q tk pl m ds vt, u = pp p ∧ (w.heap.size ≤ p ∧ w.heap.size ≤ dr ∧ w.heap.size ≤ q ∧ w.heap.size ≤ pl ∧ w.heap.size ≤ m) ∧ Blk w' p 89 (serC tok a b c d e f g r 0 dk m) ∧ DkAt w' dk dr q tk pl tok 0 g b a 0 (.slice none 0 0) [] ds vt 0 [] (.slice none 0 0) ∧ MapAt (Value.int .i64) w' m [] ∧ Grow w w') := by
  have hmm := hm
  unfold svMayS at hmm
  obtain ⟨⟨ht1, ht2⟩, ⟨ha1, ha2⟩, ⟨hb1, hb2⟩, _, _, _, ⟨hf1, hf2⟩, ⟨hg1', hg2'⟩, _, _⟩ := of_decide_eq_true hmm
  refine enter Tryz.func10 rfl rfl rfl _ (Pick.sub (l := [0]) (.cons rfl .nil)) ?_
  refine RK.seq ?_
  refine RK.region ?_
  refine RL.op (.free rfl) rfl rfl (Does.box rfl) ?_
  rintro _ w1 ⟨b1, rfl, hn1⟩
  have hB : Blk w1 b1 26 (cfgC tok a b c d e f g r) := hn1.blk
  have hz1 := hn1.size
  refine RL.p rfl rfl ?_
  refine RL.done ?_
  iterate 2 refine RK.seq ?_
  refine RK.region ?_
  refine RL.q (.free rfl) rfl rfl (Yld.loadN (cs := cfgC tok a b c d e f g r) a26 rfl (atN (blkV hB))) ?_
  refine RL.op (.free rfl) rfl rfl (Does.call rfl e17 (svMay_ok tok a b c d e f g r _)) ?_
  rintro _ w2 ⟨rfl, hg2⟩
  have hG2 := hn1.grow.trans hg2
  have hBd := (hB.mod hg2 (fun h => h)).mod (Mod.drew No _) (fun h => h)
  have hz2 := hG2.size
  refine RL.p rfl rfl ?_
  refine RL.done ?_
  refine RK.condF (hcF rfl (by rw [hm]; rfl)) ?_
  refine RK.skip ?_
  refine RK.seq ?_
  refine RK.drawF No [(0, false), (1, false)] 2 3 [(3, true), (4, false), (5, true), (6, false)] [(2, true), (4, false), (5, true), (6, false)] [] mixed (by kernel_rfl) ?_
  iterate 2 refine DL.q rfl (.free rfl) rfl rfl rfl (Yld.loadN (cs := cfgC tok a b c d e f g r) a26 rfl (atNM (blkV hBd) id)) (Mod.drew _ _) ?_
  refine DL.fork ?_ ?_
  · refine DL.op rfl (.free rfl) rfl rfl (Does.call rfl e31 (deskNew_ok tok a b c d e f g r ht1 ht2 ha1 ha2 hb1 hb2 hg1' hg2' _ (hK.grow (hG2.trans (Mod.drew No _))))) ?_
    rintro _ w3 ⟨dk, dr, q, tk, pl, ds, vt, rfl, hD3, hfr, hg3⟩
    refine ⟨(Mod.drew _ _).trans hg3, ?_⟩
    refine DL.op rfl (.free rfl) rfl rfl (Does.makeMap (Value.int .i64)) ?_
    rintro _ w4 ⟨m, rfl, hm4, hM4, hg4, hs4⟩
    refine ⟨((Mod.drew _ _).trans hg3).trans hg4, ?_⟩
    refine DL.qf rfl (.free rfl) rfl rfl (Yld.build (v := .agg (serC tok a b c d e f g r 0 dk m).toArray) rfl (fun w => by kernel_rfl)) ?_
    refine DL.op rfl (.free rfl) rfl rfl (Does.box rfl) ?_
    rintro _ w5 ⟨p, rfl, hn5⟩
    refine ⟨(((Mod.drew _ _).trans hg3).trans hg4).trans hn5.grow, ?_⟩
    have hz3 := hg3.size
    have ha5 := hn5.at_
    simp only [World.drew] at hz3 hfr
    refine DL.p rfl rfl rfl ?_
    refine DL.done ?_
    refine RK.ret_of Tryz.func10 (res1 rfl rfl) ?_ _
    exact ⟨_, rfl, p, dk, dr, q, tk, pl, m, ds, vt, rfl, ⟨by omega, by omega, by omega, by omega, by omega⟩, hn5.blk, (hD3.grow hg4).grow hn5.grow, hM4.mod hn5.grow (fun h => h), hG2.trans ((((Mod.drew _ _).trans hg3).trans hg4).trans hn5.grow)⟩
  · refine DL.op rfl (.free rfl) rfl rfl (Does.makeMap (Value.int .i64)) ?_
    rintro _ w4 ⟨m, rfl, hm4, hM4, hg4, hs4⟩
    refine ⟨(Mod.drew _ _).trans hg4, ?_⟩
    refine DL.op rfl (.free rfl) rfl rfl (Does.call rfl e31 (deskNew_ok tok a b c d e f g r ht1 ht2 ha1 ha2 hb1 hb2 hg1' hg2' _ (hK.grow ((hG2.trans (Mod.drew No _)).trans hg4)))) ?_
    rintro _ w3 ⟨dk, dr, q, tk, pl, ds, vt, rfl, hD3, hfr, hg3⟩
    refine ⟨((Mod.drew _ _).trans hg4).trans hg3, ?_⟩
    refine DL.qf rfl (.free rfl) rfl rfl (Yld.build (v := .agg (serC tok a b c d e f g r 0 dk m).toArray) rfl (fun w => by kernel_rfl)) ?_
    refine DL.op rfl (.free rfl) rfl rfl (Does.box rfl) ?_
    rintro _ w5 ⟨p, rfl, hn5⟩
    refine ⟨(((Mod.drew _ _).trans hg4).trans hg3).trans hn5.grow, ?_⟩
    have hz3 := hg3.size
    have ha5 := hn5.at_
    simp only [World.drew] at hm4 hs4
    refine DL.p rfl rfl rfl ?_
    refine DL.done ?_
    refine RK.ret_of Tryz.func10 (res1 rfl rfl) ?_ _
    exact ⟨_, rfl, p, dk, dr, q, tk, pl, m, ds, vt, rfl, ⟨by omega, by omega, by omega, by omega, by omega⟩, hn5.blk, hD3.grow hn5.grow, (hM4.mod hg3 (fun h => h)).mod hn5.grow (fun h => h), hG2.trans ((((Mod.drew _ _).trans hg4).trans hg3).trans hn5.grow)⟩
theorem svDo9_ok (p : Nat) (ad : Option Addr) (c : Nat) (w : World) (hv : Sl No w (.slice ad 1 c) 1 1 (bytesV [9])) (hcap : 1 ≤ c) : Fx Tryz.prog 12 [pp p, .slice ad 1 c] w (fun u w' => Row w' 5 1 u 1 (bytesV [1]) ∧ Fresh w.heap.size u ∧ Grow w w') := by
  refine enter Tryz.func12 rfl rfl rfl _ (Pick.sub (l := [0, 1]) (.cons rfl (.cons rfl .nil))) ?_
  refine RK.seq ?_
  refine RK.region ?_
  refine RL.p rfl rfl ?_
  refine RL.done ?_
  refine RK.seq ?_
  refine RK.region ?_
  refine RL.p rfl rfl ?_
  refine RL.op (.free rfl) rfl rfl (Does.call rfl e34 (reqRd0_ok _ ad c hv hcap)) ?_
  rintro _ w1 ⟨rfl, hg1⟩
  iterate 3 refine RL.p rfl rfl ?_
  refine RL.op (.free rfl) rfl rfl (Does.alloc i39) ?_
  rintro _ w2 ⟨b5, rfl, hn5⟩
  have ha5 := hn5.at_
  have hz1 := hg1.size
  have hz5 := hn5.size
  refine RL.op' (.free rfl) rfl (Does.storeN i39 rfl rfl rfl rfl hn5.blk (Nat.le_refl 19)) ?_
  rintro _ w3 ⟨hb3, hm3, hs3⟩
  refine RL.p rfl rfl ?_
  refine RL.done ?_
  iterate 2 refine RK.seq ?_
  refine RK.region ?_
  iterate 2 refine RL.p rfl rfl ?_
  refine RL.done ?_
  refine RK.condT (hcT rfl (rfl)) ?_
  refine RK.seq ?_
  refine RK.region ?_
  refine RL.op (.free rfl) rfl rfl (Does.call rfl e35 (refused1_ok _)) ?_
  rintro u4 w4 ⟨hr4, hf4, hg4⟩
  refine RL.p rfl rfl ?_
  refine RL.done ?_
  refine RK.ret_of Tryz.func12 (res1 rfl rfl) ?_ _
  exact ⟨_, rfl, hr4, fun b e => by have := hf4 b e; omega, ((hg1.trans hn5.grow).then hm3 (fun x hx e => by have e' : x = b5 := e; omega)).trans hg4⟩
theorem svTick_ok {w : World} {p dk dr q tk pl m : Nat} {tok : ByteArray} {a b c d e f g r dm tm pm : Int} {n : Nat} {v : Value} {cs ds : List Value} {vt : Value} {last : Int} {out : List Int} {vp : Value} (hb : Blk w p 89 (serC tok a b c d e f g r 0 dk m)) (h : DkAt w dk dr q tk pl tok 0 dm tm pm n v cs ds vt last out vp) (hm : MapAt (Value.int .i64) w m []) : Fx Tryz.prog 13 [pp p, .int .u64 300] w (fun u w' => (∃ c, Row w' 5 1 u c (bytesV ([0, 0] ++ putB 300))) ∧ Fresh w.heap.size u ∧ Blk w' p 89 (serC tok a b c d e f g r 300 dk m) ∧ DkAt w' dk dr q tk pl tok 300 dm tm pm n v cs ds vt last out vp ∧ MapAt (Value.int .i64) w' m [] ∧ Mod (fun b => b = p ∨ b = dr) w w') := by
  have hplt := hb.lt
  have hdlt := h.door.blk.lt
  refine enter Tryz.func13 rfl rfl rfl _ (Pick.sub (l := [0, 1]) (.cons rfl (.cons rfl .nil))) ?_
  refine RK.seq ?_
  refine RK.region ?_
  refine RL.p rfl rfl ?_
  refine RL.done ?_
  refine RK.seq ?_
  refine RK.region ?_
  iterate 2 refine RL.p rfl rfl ?_
  refine RL.q (.free rfl) rfl rfl (Yld.fieldAddr fo89_1 rfl) ?_
  refine RL.q (.free rfl) rfl rfl (Yld.load p24 rfl (at1 (hb.cell rfl))) ?_
  refine RL.p rfl rfl ?_
  refine RL.op (.free rfl) rfl rfl (Does.call rfl e39 (clockTick_ok 0 300 (by decide) (by decide) (by decide) _)) ?_
  rintro _ _ ⟨rfl, rfl⟩
  iterate 5 refine RL.p rfl rfl ?_
  refine RL.done ?_
  iterate 2 refine RK.seq ?_
  refine RK.region ?_
  iterate 2 refine RL.p rfl rfl ?_
  refine RL.done ?_
  refine RK.condF (hcF rfl (rfl)) ?_
  refine RK.skip ?_
  refine RK.seq ?_
  refine RK.region ?_
  iterate 3 refine RL.p rfl rfl ?_
  refine RL.q (.free rfl) rfl rfl (Yld.fieldAddr fo89_1 rfl) ?_
  refine RL.op' (.free rfl) rfl (Does.storeN (o := 9) i24 rfl rfl rfl rfl hb (Nat.le_of_ble_eq_true rfl)) ?_
  rintro _ w1 ⟨hb1, hm1, hs1⟩
  have hB1 : Blk w1 p 89 (serC tok a b c d e f g r 300 dk m) := hb1
  have h1 : DkAt w1 dk dr q tk pl tok 0 dm tm pm n v cs ds vt last out vp := ⟨h.blk.mod hm1 (h.blk.ty.ne hb.ty rfl), ⟨h.door.blk.mod hm1 (h.door.blk.ty.ne hb.ty rfl), ⟨h.door.ch.blk.mod hm1 (h.door.ch.blk.ty.ne hb.ty rfl), h.door.ch.row.mod hm1 (fun b e1 e2 => (h.door.ch.row.ty e1).ne hb.ty rfl e2), h.door.ch.head⟩⟩, ⟨h.tok.blk.mod hm1 (h.tok.blk.ty.ne hb.ty rfl), h.tok.row.mod hm1 (fun b e1 e2 => (h.tok.row.ty e1).ne hb.ty rfl e2)⟩, ⟨h.pool.blk.mod hm1 (h.pool.blk.ty.ne hb.ty rfl), h.pool.row.mod hm1 (fun b e1 e2 => (h.pool.row.ty e1).ne hb.ty rfl e2), h.pool.ne⟩⟩
  have hM1 := hm.mod hm1 (fun e => hb.ty.nem hm.mp e.symm)
  refine RL.done ?_
  refine RK.seq ?_
  refine RK.region ?_
  iterate 2 refine RL.p rfl rfl ?_
  refine RL.q (.free rfl) rfl rfl (Yld.fieldAddr fo89_2 rfl) ?_
  refine RL.q (.free rfl) rfl rfl (Yld.load p85 rfl (at1 (hB1.cell rfl))) ?_
  refine RL.p rfl rfl ?_
  refine RL.op (.free rfl) rfl rfl (Does.call rfl e40 (deskTick_ok h1 300 (by decide) (by decide))) ?_
  rintro _ w2 ⟨h2, hm2⟩
  have hB2 := hB1.mod hm2 (hB1.ty.ne h1.door.blk.ty rfl)
  have hM2 := hM1.mod hm2 (fun e => h1.door.blk.ty.nem hM1.mp e.symm)
  have hz1 := hm1.size
  have hz2 := hm2.size
  refine RL.done ?_
  iterate 2 refine RK.seq ?_
  refine RK.region ?_
  iterate 2 refine RL.p rfl rfl ?_
  refine RL.q (.free rfl) rfl rfl (Yld.fieldAddr fo89_3 rfl) ?_
  refine RL.q (.free rfl) rfl rfl (Yld.load p87 rfl (at1 (hB2.cell rfl))) ?_
  refine RL.op (.free rfl) rfl rfl (Does.range Tryz.underlying87 rfl hM2) ?_
  rintro _ w3 ⟨rr, rfl, hit, hg3, hrr⟩
  have hne : rr ≠ m := by have := hM2.lt; omega
  have hz3 := hg3.size
  refine RL.done ?_
  refine RK.block ?_
  refine RK.loop (fun _ : Unit => [(5, .int .u64 300), (35, pp rr)]) (fun _ w' => w3 = w') (fun _ => 0) () ⟨rfl, rfl, trivial⟩ rfl (fun _ w' hI ih => ?_)
  subst hI
  refine RK.seq ?_
  refine RK.region ?_
  refine RL.op (.free rfl) rfl rfl (Does.next rfl hit hne) ?_
  rintro _ w4 ⟨o, rfl, hm4, hno, hyes⟩
  obtain rfl : o = none := by
      cases o with
      | none => rfl
      | some x => obtain ⟨i, h1, _⟩ := hyes x rfl; simp at h1
  refine RL.q (.free rfl) rfl rfl (Yld.nextOk rfl) ?_
  refine RL.done ?_
  refine RK.seq ?_
  refine RK.condF (hcF rfl (rfl)) ?_
  refine RK.exit rfl ?_
  refine RK.seq ?_
  refine RK.region ?_
  refine RL.p rfl rfl ?_
  refine RL.q (.free rfl) rfl rfl (Yld.build (v := .agg (respC 0 0 0 300).toArray) rfl (fun w => by kernel_rfl)) ?_
  refine RL.op (.free rfl) rfl rfl (Does.call rfl e37 (bytesT_ok 300 (by decide) _)) ?_
  rintro u5 w5 ⟨c5, hr5, hf5, hg5⟩
  have hG24 : Grow w2 w4 := hg3.then hm4 (fun x hx e => by have e' : x = rr := e; omega)
  have hG25 := hG24.trans hg5
  have hM15 : Mod (fun b => b = p ∨ b = dr) w w5 := ((hm1.mono fun b _ e => .inl e).trans (hm2.mono fun b _ e => .inr e)).trans (Mod.any' hG25)
  have hz4 := hG24.size
  refine RL.p rfl rfl ?_
  refine RL.done ?_
  refine RK.ret_of Tryz.func13 (res1 rfl rfl) ?_ _
  exact ⟨_, rfl, ⟨c5, hr5⟩, fun b e => by have := hf5 b e; omega, hB2.mod hG25 (fun h => h), h2.grow hG25, hM2.mod hG25 (fun h => h), hM15⟩
theorem svNow_ok {w : World} {p dk m : Nat} {tok : ByteArray} {a b c d e f g r now : Int} (hb : Blk w p 89 (serC tok a b c d e f g r now dk m)) : Fx Tryz.prog 15 [pp p] w (fun u w' => u = .int .u64 now ∧ w = w') := by
  refine enter Tryz.func15 rfl rfl rfl _ (Pick.sub (l := [0]) (.cons rfl .nil)) ?_
  refine RK.seq ?_
  refine RK.region ?_
  refine RL.p rfl rfl ?_
  refine RL.done ?_
  refine RK.seq ?_
  refine RK.region ?_
  iterate 2 refine RL.p rfl rfl ?_
  refine RL.q (.free rfl) rfl rfl (Yld.fieldAddr fo89_1 rfl) ?_
  refine RL.q (.free rfl) rfl rfl (Yld.load p24 rfl (at1 (hb.cell rfl))) ?_
  refine RL.p rfl rfl ?_
  refine RL.done ?_
  refine RK.ret_of Tryz.func15 (res1 rfl rfl) ?_ _
  exact ⟨_, rfl, rfl, rfl⟩
end Go.Proofs.YtnnmgfnhblbolaaGreatDoor
set_option linter.unusedVariables false
set_option linter.unusedSimpArgs false
set_option maxHeartbeats 6400000
set_option maxRecDepth 100000
namespace Go.Proofs.YtnnmgfnhblbolaaGreatDoor
open Go Go.X
theorem Does.convConst {P : Program} {n : Nat} {e : Env} {w : World} {d : Option Tmp} {t el : Nat} {x : Operand} {ty : TypeId} {pos : String} {af : Array Edge} {g : Option (Nat × Bool)} (hS : SlT P t el) (he : P.underlying el = some (.int .u8)) {b k c : Nat} {cs : List Value} (hx : ev e x = some (.slice (some ⟨b, 0, none⟩) k c)) (hb : Blk w b el cs) :
    Does P n e w ⟨d, .convert t t x, ty, pos, af, g⟩ (fun u w' => u = .slice (some ⟨b, 0, none⟩) k c ∧ (∀ j v, cs[j]? = some v → w'.cell? ⟨b, 0 + j, none⟩ = some v) ∧ Mod (· = b) w w' ∧ w'.heap.size = w.heap.size) := by
  have hb' : w.heap[b]? = some (.cells cs.toArray el (0, 0)) := hb
  have hlt := hb.lt
  have hsh : w.shape? b = some (el, cs.length) := by unfold World.shape?; rw [hb']; simp
  have hat : (w.freeze ⟨b, cs.length, none⟩ 1).heap[b]? = some (.cells cs.toArray el (cs.length, cs.length + 1)) := by
    unfold World.freeze
    rw [if_neg (by decide)]
    simp only [Array.getElem?_modify, hb', if_true, Option.map_some]
    rfl
  refine Does.of_run (w' := w.freeze ⟨b, cs.length, none⟩ 1) (v := .slice (some ⟨b, 0, none⟩) k c) (fun a ha => ?_) ⟨rfl, fun j v hj => ?_, ⟨?_, ?_, ?_, ?_, fun i hi hn => ?_⟩, ?_⟩
  · simp [execOp, ha.ev hx, convert, run_underlying hS, run_underlying he, markStringish, hsh]
  · rw [Nat.zero_add]
    unfold World.cell?
    simp only [hat]
    simp [hj]
  · unfold World.freeze; rw [if_neg (by decide)]
  · unfold World.freeze; rw [if_neg (by decide)]
  · unfold World.freeze; rw [if_neg (by decide)]
  · unfold World.freeze; rw [if_neg (by decide)]; simp
  · unfold World.freeze
    rw [if_neg (by decide)]
    have hn' : ¬ b = i := fun e => hn e.symm
    simp only [Array.getElem?_modify, if_neg hn']
  · unfold World.freeze; rw [if_neg (by decide)]; simp
end Go.Proofs.YtnnmgfnhblbolaaGreatDoor
set_option linter.unusedVariables false
set_option linter.unusedSimpArgs false
set_option maxHeartbeats 6400000
set_option maxRecDepth 100000
namespace Go.Proofs.YtnnmgfnhblbolaaGreatDoor
open Go Go.X
theorem svDo1_ok {w : World} {p dk dr q tk pl m : Nat} {a b c d e f g r dm tm pm : Int} {ds : List Value} {vt : Value} (hb : Blk w p 89 (serC root0 a b c d e f g r 300 dk m)) (h : DkAt w dk dr q tk pl root0 300 dm tm pm 0 (.slice none 0 0) [] ds vt 0 [] (.slice none 0 0)) (hm : MapAt (Value.int .i64) w m []) (hdm : 1 ≤ dm) (hpm : 1 ≤ pm) (hf1 : 1 ≤ f) (hf2 : f ≤ 200) (hK : KeysAt w) (hq0 : 0 < q) (hpl0 : 0 < pl) (hm0 : 0 < m) (ad : Option Addr) (cc : Nat) (hv : Sl No w (.slice ad 7 cc) 1 7 (bytesV [5, 114, 111, 111, 116, 48, 1])) (hcap : 7 ≤ cc) : Fx Tryz.prog 12 [pp p, .slice ad 7 cc] w (fun u w' => (∃ c', Row w' 5 1 u c' (bytesV ([0, 1] ++ putB 1))) ∧ Fresh w.heap.size u ∧ (∃ pt dr' q' sl al ix mr, MapAt (Value.int .i64) w' m [(1, pp pt)] ∧ PtE w.heap.size w' pt dr' q' sl al ix mr) ∧ Blk w' p 89 (serC root0 a b c d e f g r 300 dk m) ∧ (∃ v' cs' ds' vp', DkAt w' dk dr q tk pl root0 300 dm tm pm 1 v' cs' ds' vt 1 [1] vp') ∧ Mod (fun b => b = pl ∨ b = q ∨ b = m) w w') := by
  have hpllt := h.pool.blk.lt
  have hqlt := h.door.ch.blk.lt
  have hmlt := hm.lt
  have hplt := hb.lt
  refine enter Tryz.func12 rfl rfl rfl _ (Pick.sub (l := [0, 1]) (.cons rfl (.cons rfl .nil))) ?_
  refine RK.seq ?_
  refine RK.region ?_
  refine RL.p rfl rfl ?_
  refine RL.done ?_
  refine RK.seq ?_
  refine RK.region ?_
  refine RL.p rfl rfl ?_
  refine RL.op (.free rfl) rfl rfl (Does.call rfl e34 (reqRdR_ok _ ad cc hv hcap)) ?_
  rintro _ w1 ⟨rfl, hg1⟩
  iterate 3 refine RL.p rfl rfl ?_
  refine RL.op (.free rfl) rfl rfl (Does.alloc i39) ?_
  rintro _ w2 ⟨b5, rfl, hn5⟩
  have ha5 := hn5.at_
  have hz1 := hg1.size
  have hz5 := hn5.size
  refine RL.op' (.free rfl) rfl (Does.storeN i39 rfl rfl rfl rfl hn5.blk (Nat.le_refl 19)) ?_
  rintro _ w3 ⟨hb3, hm3, hs3⟩
  have hB3 : Blk w3 b5 39 (reqC root0 1) := hb3
  have hG3 : Grow w w3 := (hg1.trans hn5.grow).then hm3 (fun x hx e => by have e' : x = b5 := e; omega)
  have hbd := (hb.mod hG3 (fun h => h)).mod (Mod.drew No _) (fun h => h)
  have hB3d := hB3.mod (Mod.drew No _) (fun h => h)
  have h3d := (h.grow hG3).grow (Mod.drew No _)
  refine RL.p rfl rfl ?_
  refine RL.done ?_
  iterate 2 refine RK.seq ?_
  refine RK.region ?_
  iterate 2 refine RL.p rfl rfl ?_
  refine RL.done ?_
  refine RK.condF (hcF rfl (rfl)) ?_
  refine RK.skip ?_
  refine RK.seq ?_
  refine RK.drawM No [(0, false), (1, false), (2, false), (3, false), (4, false), (5, false), (6, true), (7, false), (8, false), (9, false), (10, false), (11, false)] [] mixed (by kernel_rfl) ?_
  iterate 2 refine DL.p rfl rfl rfl ?_
  refine DL.qf rfl (.free rfl) rfl rfl (Yld.fieldAddr fo89_2 rfl) ?_
  refine DL.q rfl (.free rfl) rfl rfl rfl (Yld.load p85 rfl (atM (hbd.cell rfl) id)) (Mod.drew _ _) ?_
  refine DL.qf rfl (.free rfl) rfl rfl (Yld.fieldAddr fo39_0 rfl) ?_
  refine DL.q rfl (.free rfl) rfl rfl rfl (Yld.load p9 rfl (atM (hB3d.cell rfl) id)) (Mod.drew _ _) ?_
  refine DL.op rfl (.free rfl) rfl rfl (Does.call rfl e36 (deskOwner_ok h3d (by decide))) ?_
  rintro _ w4 ⟨rfl, hg4⟩
  refine ⟨(Mod.drew _ _).trans hg4, ?_⟩
  have hg34 : Grow w3 w4 := (Mod.drew _ _).trans hg4
  have hG4 := hG3.trans hg34
  have hz4 := hG4.size
  have hb4 := hb.mod hG4 (fun h => h)
  have hb4d := hb4.mod (Mod.drew No _) (fun h => h)
  have hB4 := hB3.mod hg34 (fun h => h)
  have hB4d := hB4.mod (Mod.drew No _) (fun h => h)
  have hz34 := hg34.size
  have hb5lt : b5 < w4.heap.size := hB4.lt
  have h4 := h.grow hG4
  have h4d := h4.grow (Mod.drew No _)
  have hK4d := (hK.grow hG4).grow (Mod.drew No _)
  iterate 5 refine DL.p rfl rfl rfl ?_
  refine DL.done ?_
  iterate 2 refine RK.seq ?_
  refine RK.region ?_
  iterate 2 refine RL.p rfl rfl ?_
  refine RL.done ?_
  refine RK.condF (hcF rfl (rfl)) ?_
  refine RK.skip ?_
  iterate 2 refine RK.seq ?_
  refine RK.region ?_
  iterate 2 refine RL.p rfl rfl ?_
  refine RL.done ?_
  refine RK.condF (hcF rfl (rfl)) ?_
  refine RK.skip ?_
  refine RK.seq ?_
  refine RK.cutS (fun s : Nat => [(0, pp p), (5, pp b5), (8, pp s)]) (fun s w' => Blk w' s 46 (respC 0 1 1 0) ∧ w4.heap.size ≤ s ∧ (∃ v' cs' ds' vp', DkAt w' dk dr q tk pl root0 300 dm tm pm 1 v' cs' ds' vt 1 [1] vp') ∧ Mod (fun b => b = pl ∨ b = q) w4 w') (fun b8 w5 hQ => ?_) (fun hj => ?_)
  · obtain ⟨hB8, hle8, ⟨v', cs', ds', vp', h5⟩, hm5⟩ := hQ
    have hpp : ∀ {w' : World} {x t : Nat} {xs : List Value}, Blk w4 x t xs → Nat.beq t 120 = false → Nat.beq t 171 = false → ¬ (x = pl ∨ x = q) := fun hx e1 e2 e => e.elim (hx.ty.ne h4.pool.blk.ty e1) (hx.ty.ne h4.door.ch.blk.ty e2)
    have hb5 := hb4.mod hm5 (hpp (w' := w4) hb4 rfl rfl)
    have hB55 := hB4.mod hm5 (hpp (w' := w4) hB4 rfl rfl)
    have hM5 := (hm.mod hG4 (fun h => h)).mod hm5 (fun e => e.elim (fun e => h4.pool.blk.ty.nem (hm.mod hG4 (fun h => h)).mp e.symm) (fun e => h4.door.ch.blk.ty.nem (hm.mod hG4 (fun h => h)).mp e.symm))
    have hK5 : KeysAt w5 := (hK.grow hG4).mod hm5 (fun e => by rcases e with e | e <;> omega)
    have hz5' := hm5.size
    have hb5d := hb5.mod (Mod.drew No _) (fun h => h)
    have hB8d := hB8.mod (Mod.drew No _) (fun h => h)
    refine RK.seq ?_
    refine RK.block ?_
    refine RK.seq ?_
    refine RK.region ?_
    refine RL.q (.free rfl) rfl rfl (Yld.fieldAddr fo46_0 rfl) ?_
    refine RL.q (.free rfl) rfl rfl (Yld.load p40 rfl (at1 (hB8.cell rfl))) ?_
    iterate 2 refine RL.p rfl rfl ?_
    refine RL.done ?_
    refine RK.condF (hcF rfl (rfl)) ?_
    refine RK.seq ?_
    refine RK.region ?_
    refine RL.q (.free rfl) rfl rfl (Yld.fieldAddr fo39_1 rfl) ?_
    refine RL.q (.free rfl) rfl rfl (Yld.load p3 rfl (at1 (hB55.cell rfl))) ?_
    iterate 2 refine RL.p rfl rfl ?_
    refine RL.done ?_
    refine RK.condT (hcT rfl (rfl)) ?_
    refine RK.drawM (· = m) [(0, false), (1, false), (2, false), (3, false), (4, false), (5, false), (6, false), (7, false), (8, false), (9, false), (10, false), (11, false), (12, false), (13, false), (14, false), (15, false), (16, true), (17, true)] [17] mixed (by kernel_rfl) ?_
    iterate 2 refine DL.p rfl rfl rfl ?_
    refine DL.qf rfl (.free rfl) rfl rfl (Yld.fieldAddr fo89_3 rfl) ?_
    refine DL.q rfl (.free rfl) rfl rfl rfl (Yld.load p87 rfl (atM (hb5d.cell rfl) (fun e => hb5.ty.nem hM5.mp e))) (Mod.drew _ _) ?_
    refine DL.qf rfl (.free rfl) rfl rfl (Yld.fieldAddr fo46_2 rfl) ?_
    refine DL.q rfl (.free rfl) rfl rfl rfl (Yld.load p3 rfl (atM (hB8d.cell rfl) (fun e => hB8.ty.nem hM5.mp e))) (Mod.drew _ _) ?_
    iterate 2 refine DL.p rfl rfl rfl ?_
    refine DL.qf rfl (.free rfl) rfl rfl (Yld.fieldAddr fo89_0 rfl) ?_
    refine DL.q rfl (.free rfl) rfl rfl rfl (Yld.loadN (cs := cfgC root0 a b c d e f g r) a26 rfl (atNM (fldV hb5d 0 9) (fun e => hb5.ty.nem hM5.mp e))) (Mod.drew _ _) ?_
    refine DL.qf rfl (.free rfl) rfl rfl (Yld.fieldAddr fo46_2 rfl) ?_
    refine DL.q rfl (.free rfl) rfl rfl rfl (Yld.load p3 rfl (atM (hB8d.cell rfl) (fun e => hB8.ty.nem hM5.mp e))) (Mod.drew _ _) ?_
    iterate 2 refine DL.p rfl rfl rfl ?_
    refine DL.qf rfl (.free rfl) rfl rfl (Yld.fieldAddr fo89_1 rfl) ?_
    refine DL.q rfl (.free rfl) rfl rfl rfl (Yld.load p24 rfl (atM (hb5d.cell rfl) (fun e => hb5.ty.nem hM5.mp e))) (Mod.drew _ _) ?_
    refine DL.op rfl (.free rfl) rfl rfl (Does.call rfl e6 (partNew_ok root0 a b c d e f g r hf1 hf2 1 300 (by decide) _ (hK5.grow (Mod.drew No _)))) ?_
    rintro _ w6 ⟨pt, dr', q', sl, al, ix, mr, rfl, hP6, hg6⟩
    refine ⟨Mod.any' ((Mod.drew _ _).trans hg6), ?_⟩
    have hg56 : Grow w5 w6 := (Mod.drew _ _).trans hg6
    have hM6 := hM5.mod hg56 (fun h => h)
    refine DL.opT rfl (.free rfl) rfl rfl (Does.mapUpdate Tryz.underlying87 key3 (k := (1 : Int)) rfl rfl rfl hM6) ?_
    rintro _ w7 ⟨hM7, hm7, hs7⟩
    have hz6 := hg56.size
    have hB86 := hB8.mod hg56 (fun h => h)
    have hB87 := hB86.mod hm7 (fun e => hB86.ty.nem hM6.mp e)
    refine DL.done ?_
    refine RK.inBlock ?_
    refine RK.seq ?_
    refine RK.region ?_
    refine RL.q (.free rfl) rfl rfl (Yld.loadN (cs := respC 0 1 1 0) a46 rfl (atN (blkV hB87))) ?_
    refine RL.op (.free rfl) rfl rfl (Does.call rfl e37 (bytesI_ok _)) ?_
    rintro u8 w8 ⟨c8, hr8, hf8, hg8⟩
    have h6 := h5.grow hg56
    have h7 : DkAt w7 dk dr q tk pl root0 300 dm tm pm 1 v' cs' ds' vt 1 [1] vp' := ⟨h6.blk.mod hm7 (h6.blk.ty.nem hM6.mp), ⟨h6.door.blk.mod hm7 (h6.door.blk.ty.nem hM6.mp), ⟨h6.door.ch.blk.mod hm7 (h6.door.ch.blk.ty.nem hM6.mp), h6.door.ch.row.mod hm7 (fun b e1 e2 => (h6.door.ch.row.ty e1).nem hM6.mp e2), h6.door.ch.head⟩⟩, ⟨h6.tok.blk.mod hm7 (h6.tok.blk.ty.nem hM6.mp), h6.tok.row.mod hm7 (fun b e1 e2 => (h6.tok.row.ty e1).nem hM6.mp e2)⟩, ⟨h6.pool.blk.mod hm7 (h6.pool.blk.ty.nem hM6.mp), h6.pool.row.mod hm7 (fun b e1 e2 => (h6.pool.row.ty e1).nem hM6.mp e2), h6.pool.ne⟩⟩
    have hP7 : PtE w.heap.size w7 pt dr' q' sl al ix mr := (show PtE w.heap.size w6 pt dr' q' sl al ix mr from ⟨by have := hP6.fr; simp only [World.drew] at this; omega, hP6.blk, hP6.door, hP6.ch, hP6.sil, hP6.alr, hP6.idx, hP6.mp⟩).mod hm7 (fun b hb e => by have e' : b = m := e; omega)
    have hb7 := (hb5.mod hg56 (fun h => h)).mod hm7 (fun e => by
        have hh := hb5.mod hg56 (fun h => h)
        exact hh.ty.nem hM6.mp e)
    have hsz7 := hm7.size
    refine RL.p rfl rfl ?_
    refine RL.done ?_
    refine RK.ret_of Tryz.func12 (res1 rfl rfl) ?_ _
    exact ⟨_, rfl, ⟨c8, hr8⟩, fun b e => by have := hf8 b e; omega, ⟨pt, dr', q', sl, al, ix, mr, hM7.mod hg8 (fun h => h), hP7.grow hg8⟩, hb7.mod hg8 (fun h => h), ⟨v', cs', ds', vp', h7.grow hg8⟩, ((((Mod.any' hG4).trans (hm5.mono fun b _ e => e.elim .inl (fun e => .inr (.inl e)))).trans (Mod.any' hg56)).trans (hm7.mono fun b _ e => .inr (.inr e))).trans (Mod.any' hg8)⟩
  · refine RK.drawF (fun b => b = pl ∨ b = q) [(0, false), (1, false), (2, false), (3, false), (4, false)] 5 6 [(6, true), (7, true)] [(5, true), (7, true)] [7] mixed (by kernel_rfl) ?_
    iterate 2 refine DL.p rfl rfl rfl ?_
    refine DL.qf rfl (.free rfl) rfl rfl (Yld.fieldAddr fo89_2 rfl) ?_
    refine DL.q rfl (.free rfl) rfl rfl rfl (Yld.load p85 rfl (atM (hb4d.cell rfl) (fun e => e.elim (hb4.ty.ne h4.pool.blk.ty rfl) (hb4.ty.ne h4.door.ch.blk.ty rfl)))) (Mod.drew _ _) ?_
    refine DL.q rfl (.free rfl) rfl rfl rfl (Yld.loadN (cs := reqC root0 1) a39 rfl (atNM (blkV hB4d) (fun e => e.elim (hB4.ty.ne h4.pool.blk.ty rfl) (hB4.ty.ne h4.door.ch.blk.ty rfl)))) (Mod.drew _ _) ?_
    refine DL.fork ?_ ?_
    · refine DL.op rfl (.free rfl) rfl rfl (Does.call rfl e38 (deskDo1_ok (clk := 300) h4d (by decide) hdm hpm hK4d hq0 hpl0)) ?_
      rintro _ w5 ⟨rfl, ⟨v', cs', ds', vp', h5⟩, hm5⟩
      refine ⟨(Mod.drew _ _).trans hm5, ?_⟩
      refine DL.op rfl (.free rfl) rfl rfl (Does.alloc i46) ?_
      rintro _ w6 ⟨b8, rfl, hn8⟩
      refine ⟨((Mod.drew _ _).trans hm5).trans (Mod.any' hn8.grow), ?_⟩
      have ha8 := hn8.at_
      have hz5' := hm5.size
      simp only [World.drew] at hz5'
      have hM6 : Mod (fun b => b = pl ∨ b = q) w4 w6 := ((Mod.drew _ _).trans hm5).trans (Mod.any' hn8.grow)
      refine DL.opT rfl (.free rfl) rfl rfl (Does.storeN i46 rfl rfl rfl rfl hn8.blk (Nat.le_of_ble_eq_true rfl)) ?_
      rintro _ w7 ⟨hb7, hm7, hs7⟩
      have hM7 := hM6.then hm7 (fun x hx e => by have e' : x = b8 := e; omega)
      have h6 := h5.grow hn8.grow
      refine DL.done ?_
      exact RK.back (hj b8 _ ⟨hb7, by omega, ⟨v', cs', ds', vp', h4.upd hM7 ⟨h6.door.ch.blk.mod hm7 (h6.door.ch.blk.ty.ne hn8.blk.ty rfl), h6.door.ch.row.mod hm7 (fun b e1 e2 => (h6.door.ch.row.ty e1).ne hn8.blk.ty rfl e2), h6.door.ch.head⟩ ⟨h6.pool.blk.mod hm7 (h6.pool.blk.ty.ne hn8.blk.ty rfl), h6.pool.row.mod hm7 (fun b e1 e2 => (h6.pool.row.ty e1).ne hn8.blk.ty rfl e2), h6.pool.ne⟩⟩, hM7⟩) ⟨rfl, rfl, rfl, trivial⟩
    · refine DL.op rfl (.free rfl) rfl rfl (Does.alloc i46) ?_
      rintro _ w6 ⟨b8, rfl, hn8⟩
      refine ⟨(Mod.drew _ _).trans (Mod.any' hn8.grow), ?_⟩
      have h4n := h4d.grow hn8.grow
      refine DL.op rfl (.free rfl) rfl rfl (Does.call rfl e38 (deskDo1_ok (clk := 300) h4n (by decide) hdm hpm (hK4d.grow hn8.grow) hq0 hpl0)) ?_
      rintro _ w5 ⟨rfl, ⟨v', cs', ds', vp', h6⟩, hm5⟩
      refine ⟨((Mod.drew _ _).trans (Mod.any' hn8.grow)).trans hm5, ?_⟩
      have ha8 := hn8.at_
      simp only [World.drew] at ha8
      have hM6 : Mod (fun b => b = pl ∨ b = q) w4 w5 := ((Mod.drew _ _).trans (Mod.any' hn8.grow)).trans hm5
      have hB85 := hn8.blk.mod hm5 (fun e => e.elim (hn8.blk.ty.ne h4n.pool.blk.ty rfl) (hn8.blk.ty.ne h4n.door.ch.blk.ty rfl))
      refine DL.opT rfl (.free rfl) rfl rfl (Does.storeN i46 rfl rfl rfl rfl hB85 (Nat.le_of_ble_eq_true rfl)) ?_
      rintro _ w7 ⟨hb7, hm7, hs7⟩
      have hM7 := hM6.then hm7 (fun x hx e => by have e' : x = b8 := e; omega)
      refine DL.done ?_
      exact RK.back (hj b8 _ ⟨hb7, by omega, ⟨v', cs', ds', vp', h4.upd hM7 ⟨h6.door.ch.blk.mod hm7 (h6.door.ch.blk.ty.ne hB85.ty rfl), h6.door.ch.row.mod hm7 (fun b e1 e2 => (h6.door.ch.row.ty e1).ne hB85.ty rfl e2), h6.door.ch.head⟩ ⟨h6.pool.blk.mod hm7 (h6.pool.blk.ty.ne hB85.ty rfl), h6.pool.row.mod hm7 (fun b e1 e2 => (h6.pool.row.ty e1).ne hB85.ty rfl e2), h6.pool.ne⟩⟩, hM7⟩) ⟨rfl, rfl, rfl, trivial⟩
end Go.Proofs.YtnnmgfnhblbolaaGreatDoor
set_option linter.unusedVariables false
set_option linter.unusedSimpArgs false
set_option maxHeartbeats 6400000
set_option maxRecDepth 100000
namespace Go.Proofs.YtnnmgfnhblbolaaGreatDoor
open Go Go.X
theorem svCounts1_ok {base : Nat} {w : World} {p dk dr q tk pl m pt dr' q' sl al ix mr : Nat} {tok : ByteArray} {a b c d e f g r now dnow dm tm pm : Int} {n : Nat} {v : Value} {cs ds : List Value} {vt : Value} {last : Int} {out : List Int} {vp : Value} (hb : Blk w p 89 (serC tok a b c d e f g r now dk m)) (h : DkAt w dk dr q tk pl tok dnow dm tm pm n v cs ds vt last out vp) (hm : MapAt (Value.int .i64) w m [(1, pp pt)]) (hp : PtE base w pt dr' q' sl al ix mr) : Fx Tryz.prog 14 [pp p, .int .i64 1] w (fun u w' => u = .tuple #[.agg cnt0.toArray, .bool true] ∧ Grow w w') := by
  refine enter Tryz.func14 rfl rfl rfl _ (Pick.sub (l := [0, 1]) (.cons rfl (.cons rfl .nil))) ?_
  refine RK.seq ?_
  refine RK.region ?_
  refine RL.op (.free rfl) rfl rfl (Does.alloc i49) ?_
  rintro _ w1 ⟨b4, rfl, hn4⟩
  have hB4 : Blk w1 b4 49 cnt0 := hn4.blk
  have ha4 := hn4.at_
  have hz4 := hn4.size
  refine RL.p rfl rfl ?_
  refine RL.done ?_
  refine RK.seq ?_
  refine RK.region ?_
  iterate 2 refine RL.p rfl rfl ?_
  refine RL.q (.free rfl) rfl rfl (Yld.fieldAddr fo89_2 rfl) ?_
  refine RL.q (.free rfl) rfl rfl (Yld.load p85 rfl (at1 ((hb.mod hn4.grow (fun h => h)).cell rfl))) ?_
  refine RL.op (.free rfl) rfl rfl (Does.call rfl e42 (deskRecs_ok (h.grow hn4.grow))) ?_
  rintro _ _ ⟨rfl, rfl⟩
  refine RL.q (.free rfl) rfl rfl (Yld.build (v := .agg #[.int .i64 0, .int .i64 0, .int .i64 0, .int .i64 0, .int .i64 (n : Int), .int .i64 0, .int .i64 0]) rfl (fun w => by kernel_rfl)) ?_
  refine RL.op (.free rfl) rfl rfl (Does.alloc i49) ?_
  rintro _ w2 ⟨b6, rfl, hn6⟩
  have ha6 := hn6.at_
  have hz6 := hn6.size
  refine RL.op' (.free rfl) rfl (Does.storeN i49 rfl rfl rfl rfl hn6.blk (Nat.le_of_ble_eq_true rfl)) ?_
  rintro _ w3 ⟨hb3, hm3, hs3⟩
  have hg13 : Grow w1 w3 := hn6.grow.then hm3 (fun x hx e => by have e' : x = b6 := e; omega)
  have hG3 := hn4.grow.trans hg13
  refine RL.done ?_
  iterate 2 refine RK.seq ?_
  refine RK.region ?_
  iterate 2 refine RL.p rfl rfl ?_
  refine RL.done ?_
  refine RK.condT (hcT rfl (rfl)) ?_
  refine RK.seq ?_
  refine RK.region ?_
  iterate 2 refine RL.p rfl rfl ?_
  refine RL.q (.free rfl) rfl rfl (Yld.fieldAddr fo89_3 rfl) ?_
  refine RL.q (.free rfl) rfl rfl (Yld.load p87 rfl (at1 ((hb.mod hG3 (fun h => h)).cell rfl))) ?_
  refine RL.p rfl rfl ?_
  refine RL.q (.free rfl) rfl rfl (Yld.lookup Tryz.underlying87 key3 i22 (k := (1 : Int)) rfl rfl (fun w' e => e ▸ hm.mod hG3 (fun h => h))) ?_
  iterate 5 refine RL.p rfl rfl ?_
  refine RL.done ?_
  iterate 2 refine RK.seq ?_
  refine RK.region ?_
  iterate 2 refine RL.p rfl rfl ?_
  refine RL.done ?_
  refine RK.condF (hcF rfl (rfl)) ?_
  refine RK.skip ?_
  refine RK.region ?_
  refine RL.p rfl rfl ?_
  refine RL.op (.free rfl) rfl rfl (Does.call rfl e9 (partCounts0_ok (hp.grow hG3))) ?_
  rintro _ w4 ⟨rfl, hg4⟩
  have hB64 := (show Blk w3 b6 49 [.int .i64 0, .int .i64 0, .int .i64 0, .int .i64 0, .int .i64 (n : Int), .int .i64 0, .int .i64 0] from hb3).mod hg4 (fun h => h)
  refine RL.op' (.free rfl) rfl (Does.storeN i49 rfl rfl rfl rfl hB64 (Nat.le_of_ble_eq_true rfl)) ?_
  rintro _ w5 ⟨hb5, hm5, hs5⟩
  have hB5 : Blk w5 b6 49 cnt0 := hb5
  have hg15 : Grow w1 w5 := (hg13.trans hg4).then hm5 (fun x hx e => by have e' : x = b6 := e; omega)
  have hG5 := hn4.grow.trans hg15
  refine RL.done ?_
  refine RK.seq ?_
  refine RK.region ?_
  iterate 2 refine RL.p rfl rfl ?_
  refine RL.q (.free rfl) rfl rfl (Yld.fieldAddr fo89_2 rfl) ?_
  refine RL.q (.free rfl) rfl rfl (Yld.load p85 rfl (at1 ((hb.mod hG5 (fun h => h)).cell rfl))) ?_
  refine RL.p rfl rfl ?_
  refine RL.op (.free rfl) rfl rfl (Does.call rfl e43 (deskTokens1_ok (h.grow hG5))) ?_
  rintro _ w6 ⟨rfl, hg6⟩
  have hB6 := hB5.mod hg6 (fun h => h)
  refine RL.q (.free rfl) rfl rfl (Yld.lenSl u34 rfl) ?_
  refine RL.q (.free rfl) rfl rfl (Yld.fieldAddr fo49_0 rfl) ?_
  refine RL.op' (.free rfl) rfl (Does.store i3 rfl rfl rfl hB6 (.z)) ?_
  rintro _ w7 ⟨hb7, hm7, hs7⟩
  have hB7 : Blk w7 b6 49 cnt0 := hb7
  have hg17 : Grow w1 w7 := (hg15.trans hg6).then hm7 (fun x hx e => by have e' : x = b6 := e; omega)
  refine RL.done ?_
  refine RK.seq ?_
  refine RK.region ?_
  refine RL.q (.free rfl) rfl rfl (Yld.loadN (cs := cnt0) a49 rfl (atN (blkV hB7))) ?_
  refine RL.op' (.free rfl) rfl (Does.storeN i49 rfl rfl rfl rfl (hB4.mod hg17 (fun h => h)) (Nat.le_of_ble_eq_true rfl)) ?_
  rintro _ w8 ⟨hb8, hm8, hs8⟩
  refine RL.p rfl rfl ?_
  refine RL.done ?_
  refine RK.ret_of Tryz.func14 (resCT (cs := cnt0) rfl rfl a49 hb8 rfl) ?_ _
  exact ⟨_, rfl, rfl, (hn4.grow.trans hg17).then hm8 (fun x hx e => by have e' : x = b4 := e; omega)⟩
theorem inK (n lo hi z : Int) (h : lo ≤ hi) (h1 : -1000 ≤ lo) (h2 : hi ≤ 1000) (hz : inS n lo hi = z) (w : World) : Fx Tryz.prog 33 [.int .i64 n, .int .i64 lo, .int .i64 hi] w (fun u w' => u = .int .i64 z ∧ w = w') := hz ▸ in_ok n lo hi h h1 h2 w
theorem tok0K_ok (w : World) : Fx Tryz.prog 32 [.int .i64 0] w (fun u w' => u = .string root0 ∧ w = w') := by
  refine enter Tryz.func32 rfl rfl rfl _ (Pick.sub (l := [0]) (.cons rfl .nil)) ?_
  refine RK.seq ?_
  refine RK.region ?_
  refine RL.p rfl rfl ?_
  refine RL.done ?_
  refine RK.seq ?_
  refine RK.region ?_
  refine RL.q (.free rfl) rfl rfl (Yld.build (v := .agg #[.string root0, .string ⟨#[116, 111, 107, 49]⟩, .string ⟨#[116, 111, 107, 50]⟩, .string ⟨#[116, 111, 107, 51]⟩, .string ⟨#[0, 1, 2, 3]⟩, .string ⟨#[48, 49, 50, 51, 52, 53, 54, 55, 56, 57, 97, 98, 99, 100, 101, 102]⟩, .string ⟨#[116, 111, 107, 54]⟩, .string ⟨#[116, 111, 107]⟩]) rfl (fun w => by kernel_rfl)) ?_
  refine RL.p rfl rfl ?_
  refine RL.op (.free rfl) rfl rfl (Does.call rfl e33 (inK 0 0 7 ((0 : Nat) : Int) (by decide) (by decide) (by decide) (by decide) _)) ?_
  rintro _ _ ⟨rfl, rfl⟩
  refine RL.q (.free rfl) rfl rfl (Yld.idxArr Tryz.underlying153 i9 p9 rfl rfl (by decide) rfl) ?_
  refine RL.p rfl rfl ?_
  refine RL.done ?_
  refine RK.ret_of Tryz.func32 (res1 rfl rfl) ?_ _
  exact ⟨_, rfl, rfl, rfl⟩
@[reducible] def confC : List Value := [.int .i64 2, .int .i64 2, .int .i64 2, .int .i64 2, .int .i64 2, .int .i64 9, .int .i64 9, .int .u64 0]
theorem config_ok (w : World) : Fx Tryz.prog 11 [.agg confC.toArray] w (fun u w' => u = .agg (cfgC root0 2 2 2 2 2 9 9 1).toArray ∧ Grow w w') := by
  refine enter Tryz.func11 rfl rfl rfl _ (Pick.sub (l := [0]) (.cons rfl .nil)) ?_
  refine RK.seq ?_
  refine RK.region ?_
  refine RL.op (.free rfl) rfl rfl (Does.box rfl) ?_
  rintro _ w1 ⟨b1, rfl, hn1⟩
  refine RL.op (.free rfl) rfl rfl (Does.alloc i26) ?_
  rintro _ w2 ⟨b2, rfl, hn2⟩
  have hB : Blk w1 b1 55 confC := hn1.blk
  have ha2 := hn2.at_
  have hz1 := hn1.size
  have hBd := (hB.mod hn2.grow (fun h => h)).mod (Mod.drew No _) (fun h => h)
  refine RL.done ?_
  refine RK.seq ?_
  refine RK.drawM No [(1, false), (2, false), (4, false), (5, false), (7, false), (8, false), (10, false), (11, false), (13, false), (14, false), (16, false), (17, false), (19, false), (20, false), (22, false), (23, false), (24, false), (25, false), (0, true), (3, true), (6, true), (9, true), (12, true), (15, true), (18, true), (21, true), (26, false), (27, true)] [27] mixed (by kernel_rfl) ?_
  refine DL.qf rfl (.free rfl) rfl rfl (Yld.fieldAddr fo55_0 rfl) ?_
  refine DL.q rfl (.free rfl) rfl rfl rfl (Yld.load p3 rfl (atM (hBd.cell rfl) id)) (Mod.drew _ _) ?_
  refine DL.qf rfl (.free rfl) rfl rfl (Yld.fieldAddr fo55_1 rfl) ?_
  refine DL.q rfl (.free rfl) rfl rfl rfl (Yld.load p3 rfl (atM (hBd.cell rfl) id)) (Mod.drew _ _) ?_
  refine DL.qf rfl (.free rfl) rfl rfl (Yld.fieldAddr fo55_2 rfl) ?_
  refine DL.q rfl (.free rfl) rfl rfl rfl (Yld.load p3 rfl (atM (hBd.cell rfl) id)) (Mod.drew _ _) ?_
  refine DL.qf rfl (.free rfl) rfl rfl (Yld.fieldAddr fo55_3 rfl) ?_
  refine DL.q rfl (.free rfl) rfl rfl rfl (Yld.load p3 rfl (atM (hBd.cell rfl) id)) (Mod.drew _ _) ?_
  refine DL.qf rfl (.free rfl) rfl rfl (Yld.fieldAddr fo55_4 rfl) ?_
  refine DL.q rfl (.free rfl) rfl rfl rfl (Yld.load p3 rfl (atM (hBd.cell rfl) id)) (Mod.drew _ _) ?_
  refine DL.qf rfl (.free rfl) rfl rfl (Yld.fieldAddr fo55_5 rfl) ?_
  refine DL.q rfl (.free rfl) rfl rfl rfl (Yld.load p3 rfl (atM (hBd.cell rfl) id)) (Mod.drew _ _) ?_
  refine DL.qf rfl (.free rfl) rfl rfl (Yld.fieldAddr fo55_6 rfl) ?_
  refine DL.q rfl (.free rfl) rfl rfl rfl (Yld.load p3 rfl (atM (hBd.cell rfl) id)) (Mod.drew _ _) ?_
  refine DL.qf rfl (.free rfl) rfl rfl (Yld.fieldAddr fo55_7 rfl) ?_
  refine DL.q rfl (.free rfl) rfl rfl rfl (Yld.load p24 rfl (atM (hBd.cell rfl) id)) (Mod.drew _ _) ?_
  refine DL.qf rfl (.free rfl) rfl rfl (Yld.rem rfl rfl (by decide)) ?_
  refine DL.re (d := 27) rfl rfl (congrArg (Value.int .u64) (by decide : _ = (0 : Int))) ?_
  refine DL.p rfl rfl rfl ?_
  refine DL.re (d := 28) rfl rfl (congrArg (Value.int .u64) (by decide : _ = (1 : Int))) ?_
  refine DL.op rfl (.free rfl) rfl rfl (Does.call rfl e32 (tok0K_ok _)) ?_
  rintro _ _ ⟨rfl, rfl⟩
  refine ⟨Mod.drew _ _, ?_⟩
  refine DL.op rfl (.free rfl) rfl rfl (Does.call rfl e33 (inK 2 1 6 2 (by decide) (by decide) (by decide) (by decide) _)) ?_
  rintro _ _ ⟨rfl, rfl⟩
  refine ⟨Mod.drew _ _, ?_⟩
  refine DL.op rfl (.free rfl) rfl rfl (Does.call rfl e33 (inK 2 1 4 2 (by decide) (by decide) (by decide) (by decide) _)) ?_
  rintro _ _ ⟨rfl, rfl⟩
  refine ⟨Mod.drew _ _, ?_⟩
  refine DL.op rfl (.free rfl) rfl rfl (Does.call rfl e33 (inK 2 1 16 2 (by decide) (by decide) (by decide) (by decide) _)) ?_
  rintro _ _ ⟨rfl, rfl⟩
  refine ⟨Mod.drew _ _, ?_⟩
  refine DL.op rfl (.free rfl) rfl rfl (Does.call rfl e33 (inK 2 1 12 2 (by decide) (by decide) (by decide) (by decide) _)) ?_
  rintro _ _ ⟨rfl, rfl⟩
  refine ⟨Mod.drew _ _, ?_⟩
  refine DL.op rfl (.free rfl) rfl rfl (Does.call rfl e33 (inK 2 1 6 2 (by decide) (by decide) (by decide) (by decide) _)) ?_
  rintro _ _ ⟨rfl, rfl⟩
  refine ⟨Mod.drew _ _, ?_⟩
  refine DL.op rfl (.free rfl) rfl rfl (Does.call rfl e33 (inK 9 1 60 9 (by decide) (by decide) (by decide) (by decide) _)) ?_
  rintro _ _ ⟨rfl, rfl⟩
  refine ⟨Mod.drew _ _, ?_⟩
  refine DL.op rfl (.free rfl) rfl rfl (Does.call rfl e33 (inK 9 1 60 9 (by decide) (by decide) (by decide) (by decide) _)) ?_
  rintro _ _ ⟨rfl, rfl⟩
  refine ⟨Mod.drew _ _, ?_⟩
  refine DL.qf rfl (.free rfl) rfl rfl (Yld.build (v := .agg (cfgC root0 2 2 2 2 2 9 9 1).toArray) rfl (fun w => by kernel_rfl)) ?_
  refine DL.opT rfl (.free rfl) rfl rfl (Does.storeN i26 rfl rfl rfl rfl (hn2.blk.mod (Mod.drew No _) (fun h => h)) (Nat.le_of_ble_eq_true rfl)) ?_
  rintro _ w3 ⟨hb3, hm3, hs3⟩
  have hM : Mod (· = b2) w2 w3 := (Mod.drew _ _).trans hm3
  refine DL.done ?_
  refine RK.ret_of Tryz.func11 (resC (cs := cfgC root0 2 2 2 2 2 9 9 1) rfl rfl a26 hb3) ?_ _
  exact ⟨_, rfl, rfl, (hn1.grow.trans hn2.grow).then hM (fun x hx e => by have e' : x = b2 := e; omega)⟩
theorem svruns_ok (w : World) (hK : KeysAt w) : Fx Tryz.prog 4 [] w (fun u w' => u = .bool true ∧ Grow w w') := by
  have hp300 : ([0, 0] ++ putB 300 : List UInt8) = [0, 0, 172, 2] := by rw [putB, putB]; rfl
  have hp1 : ([0, 1] ++ putB 1 : List UInt8) = [0, 1, 1] := by rw [putB]; rfl
  have hpos := hK.pos
  refine enter Tryz.func4 rfl rfl rfl _ (Pick.sub (l := []) .nil) ?_
  refine RK.seq ?_
  refine RK.region ?_
  refine RL.p rfl rfl ?_
  refine RL.done ?_
  refine RK.seq ?_
  refine RK.region ?_
  refine RL.q (.free rfl) rfl rfl (Yld.build (v := .agg confC.toArray) rfl (fun w => by kernel_rfl)) ?_
  refine RL.op (.free rfl) rfl rfl (Does.call rfl e11 (config_ok _)) ?_
  rintro _ w1 ⟨rfl, hg1⟩
  have hz1 := hg1.size
  refine RL.op (.free rfl) rfl rfl (Does.call rfl e10 (svNew_ok root0 2 2 2 2 2 9 9 1 (by decide) _ (hK.grow hg1))) ?_
  rintro _ w2 ⟨p, dk, dr, q, tk, pl, m, ds, vt, rfl, hfr, hb2, hd2, hm2, hg2⟩
  obtain ⟨hf1, hf2, hf3, hf4, hf5⟩ := hfr
  refine RL.p rfl rfl ?_
  refine RL.done ?_
  iterate 2 refine RK.seq ?_
  refine RK.region ?_
  refine RL.p rfl rfl ?_
  refine RL.q (.free rfl) rfl rfl (Yld.eqPtr Tryz.underlying52 rfl rfl) ?_
  refine RL.done ?_
  refine RK.condF (hcF rfl (rfl)) ?_
  refine RK.skip ?_
  refine RK.seq ?_
  refine RK.region ?_
  refine RL.p rfl rfl ?_
  refine RL.op (.free rfl) rfl rfl (Does.slice1 u43 i5 rfl rfl rfl rfl rfl) ?_
  rintro _ w3 ⟨b13, rfl, hn13⟩
  refine RL.op (.free rfl) rfl rfl (Does.call rfl e12 (svDo9_ok p _ _ _ (Sl.new hn13 1 1 rfl (by decide) (fun h => h)) (by decide))) ?_
  rintro u4 w4 ⟨hr4, hf4', hg4⟩
  have hg24 := hn13.grow.trans hg4
  have hG4 := (hg1.trans hg2).trans hg24
  refine RL.p rfl rfl ?_
  refine RL.done ?_
  refine RK.seq ?_
  refine RK.region ?_
  refine RL.p rfl rfl ?_
  refine RL.op (.free rfl) rfl rfl (Does.call rfl e13 (svTick_ok (hb2.mod hg24 (fun h => h)) (hd2.grow hg24) (hm2.mod hg24 (fun h => h)))) ?_
  rintro u5 w5 ⟨⟨c5, hr5⟩, hf5', hb5, hd5, hm5, hM5⟩
  rw [hp300] at hr5
  obtain rfl : c5 = 4 := by have := hr5.1; simp [bytesV] at this; omega
  have hb4 := hb2.mod hg24 (fun h => h)
  have hd4 := hd2.grow hg24
  have hr45 := hr4.mod hM5 (fun b e1 e => e.elim ((hr4.ty e1).ne hb4.ty rfl) ((hr4.ty e1).ne hd4.door.blk.ty rfl))
  have hK5 : KeysAt w5 := (hK.grow hG4).mod hM5 (fun e => by rcases e with e | e <;> omega)
  refine RL.p rfl rfl ?_
  refine RL.done ?_
  refine RK.seq ?_
  refine RK.region ?_
  refine RL.p rfl rfl ?_
  refine RL.op (.free rfl) rfl rfl (Does.bslice (el := 5) ([.int .u8 5, .int .u8 114, .int .u8 111, .int .u8 111, .int .u8 116, .int .u8 48, .int .u8 1]) rfl (fun w => by kernel_rfl)) ?_
  rintro _ w6 ⟨b18, rfl, hn18⟩
  have ha18 := hn18.at_
  have hz18 := hn18.size
  have key57 : ∀ w7, Mod (· = b18) w6 w7 → Grow w5 w7 := fun w7 hm7 => hn18.grow.then hm7 (fun x hx e => by have e' : x = b18 := e; omega)
  have hz2 := hg2.size
  refine RL.op (.free rfl) rfl rfl (Does.convConst u43 Tryz.underlying5 rfl hn18.blk) ?_
  rintro _ w7 ⟨rfl, hc7, hm7, hs7⟩
  refine RL.op (.free rfl) rfl rfl (Does.call rfl e12 (svDo1_ok (hb5.mod (key57 _ hm7) (fun h => h)) (hd5.grow (key57 _ hm7)) (hm5.mod (key57 _ hm7) (fun h => h)) (by decide) (by decide) (by decide) (by decide) (hK5.grow (key57 _ hm7)) (by omega) (by omega) (by omega) (some ⟨b18, 0, none⟩) 7 (show Sl No w7 (.slice (some ⟨b18, 0, none⟩) 7 7) 1 7 (bytesV [5, 114, 111, 111, 116, 48, 1]) from ⟨rfl, by decide, _, _, rfl, fun _ => ⟨b18, 0, rfl, fun h => h, hc7⟩⟩) (by decide))) ?_
  rintro u8 w8 ⟨⟨c8, hr8⟩, hf8, ⟨pt, dr', q', sl, al, ix, mr, hm8, hP8⟩, hb8, ⟨v', cs', ds', vp', hd8⟩, hM8⟩
  have hg57 := key57 _ hm7
  rw [hp1] at hr8
  obtain rfl : c8 = 3 := by have := hr8.1; simp [bytesV] at this; omega
  have hd7 := hd5.grow hg57
  have hm7' := hm5.mod hg57 (fun h => h)
  have hr47 := hr45.mod hg57 (fun _ _ h => h)
  have hr57 := hr5.mod hg57 (fun _ _ h => h)
  have hr48 := hr47.mod hM8 (fun b e1 e => e.elim ((hr47.ty e1).ne hd7.pool.blk.ty rfl) (fun e => e.elim ((hr47.ty e1).ne hd7.door.ch.blk.ty rfl) ((hr47.ty e1).nem hm7'.mp)))
  have hr58 := hr57.mod hM8 (fun b e1 e => e.elim ((hr57.ty e1).ne hd7.pool.blk.ty rfl) (fun e => e.elim ((hr57.ty e1).ne hd7.door.ch.blk.ty rfl) ((hr57.ty e1).nem hm7'.mp)))
  refine RL.p rfl rfl ?_
  refine RL.done ?_
  refine RK.seq ?_
  refine RK.region ?_
  refine RL.p rfl rfl ?_
  refine RL.op (.free rfl) rfl rfl (Does.call rfl e14 (svCounts1_ok hb8 hd8 hm8 hP8)) ?_
  rintro _ w9 ⟨rfl, hg9⟩
  iterate 3 refine RL.p rfl rfl ?_
  refine RL.op (.free rfl) rfl rfl (Does.alloc i49) ?_
  rintro _ w10 ⟨b5, rfl, hn5⟩
  have ha5 := hn5.at_
  refine RL.op' (.free rfl) rfl (Does.storeN i49 rfl rfl rfl rfl hn5.blk (Nat.le_of_ble_eq_true rfl)) ?_
  rintro _ w11 ⟨hb11, hm11, hs11⟩
  have hB11 : Blk w11 b5 49 cnt0 := hb11
  have hz9 := hg9.size
  have hg811 : Grow w8 w11 := (hg9.trans hn5.grow).then hm11 (fun x hx e => by have e' : x = b5 := e; omega)
  refine RL.p rfl rfl ?_
  refine RL.done ?_
  refine RK.seq ?_
  refine RK.region ?_
  refine RL.p rfl rfl ?_
  refine RL.q (.free rfl) rfl rfl (Yld.bytesSl (l := [1]) u43 Tryz.underlying5 Tryz.underlying9 rfl (fun w9 h9 => h9 ▸ Sl.own (hr48.mod hg811 (fun _ _ h => h)) (fun _ _ h => h))) ?_
  iterate 2 refine RL.p rfl rfl ?_
  refine RL.knownT (d := 29) rfl rfl (by first | rfl | decide) ?_
  refine RL.q (.yes rfl rfl rfl) rfl rfl (Yld.pure rfl) ?_
  refine RL.q (.yes rfl rfl rfl) rfl rfl (Yld.bytesSl (l := [0, 0, 172, 2]) u43 Tryz.underlying5 Tryz.underlying9 rfl (fun w9 h9 => h9 ▸ Sl.own (hr58.mod hg811 (fun _ _ h => h)) (fun _ _ h => h))) ?_
  refine RL.q (.yes rfl rfl rfl) rfl rfl (Yld.pure rfl) ?_
  iterate 2 refine RL.p rfl rfl ?_
  refine RL.knownT (d := 34) rfl rfl (by first | rfl | decide) ?_
  refine RL.q (.yes rfl rfl rfl) rfl rfl (Yld.pure rfl) ?_
  refine RL.q (.yes rfl rfl rfl) rfl rfl (Yld.bytesSl (l := [0, 1, 1]) u43 Tryz.underlying5 Tryz.underlying9 rfl (fun w9 h9 => h9 ▸ Sl.own (hr8.mod hg811 (fun _ _ h => h)) (fun _ _ h => h))) ?_
  refine RL.q (.yes rfl rfl rfl) rfl rfl (Yld.pure rfl) ?_
  iterate 2 refine RL.p rfl rfl ?_
  refine RL.knownT (d := 39) rfl rfl (by first | rfl | decide) ?_
  refine RL.q (.yes rfl rfl rfl) rfl rfl (Yld.pure rfl) ?_
  iterate 2 refine RL.p rfl rfl ?_
  refine RL.knownT (d := 42) rfl rfl (rfl) ?_
  refine RL.q (.yes rfl rfl rfl) rfl rfl (Yld.loadN (cs := cnt0) a49 rfl (atN (blkV hB11))) ?_
  refine RL.q (.yes rfl rfl rfl) rfl rfl (Yld.build (v := .agg cnt0.toArray) rfl (fun w => by kernel_rfl)) ?_
  refine RL.q (.yes rfl rfl rfl) rfl rfl (Yld.eqK (v := .bool true) rfl rfl (fun w => by kernel_rfl)) ?_
  iterate 2 refine RL.p rfl rfl ?_
  refine RL.knownT (d := 47) rfl rfl (rfl) ?_
  refine RL.q (.yes rfl rfl rfl) rfl rfl (Yld.pure rfl) ?_
  refine RL.op (.yes rfl rfl rfl) rfl rfl (Does.call rfl e15 (svNow_ok (hb8.mod hg811 (fun h => h)))) ?_
  rintro _ _ ⟨rfl, rfl⟩
  have hz5' := hM5.size
  have hz24 := hg24.size
  have hz57 := hg57.size
  refine RL.q (.yes rfl rfl rfl) rfl rfl (Yld.pure rfl) ?_
  iterate 2 refine RL.p rfl rfl ?_
  refine RL.done ?_
  refine RK.ret_of Tryz.func4 (res1 rfl rfl) ?_ _
  exact ⟨_, rfl, rfl, (((hG4.then hM5 (fun x hx e => by rcases e with e | e <;> omega)).trans hg57).then hM8 (fun x hx e => by rcases e with e | e | e <;> omega)).trans hg811⟩
end Go.Proofs.YtnnmgfnhblbolaaGreatDoor
