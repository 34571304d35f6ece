/- What the claim stands on, part 5. Of own lemmas only those that it reaches. -/
import Derived.Test.YtnnmgfnhblbolaaGreatDoorKb4
set_option linter.unusedVariables false
set_option linter.unusedSimpArgs false
set_option maxHeartbeats 6400000
set_option maxRecDepth 100000
namespace Go.Proofs.YtnnmgfnhblbolaaGreatDoor
open Go Go.X
theorem Yld.sliceArr {P : Program} {n : Nat} {e : Env} {C : World → Prop} {d : Option Tmp} {t len el : Nat} {x : Operand} {ty : TypeId} {pos : String} {af : Array Edge} {g : Option (Nat × Bool)} (hT : P.underlying t = some (.array len el)) {z : Value} {sz by' : Nat} (hE : TI P el z sz by') {a : Addr} (hx : ev e x = some (.pointer (some a))) :
    Yld P n C e ⟨d, .slice t x none none none, ty, pos, af, g⟩ (.slice (some a) len len) := by
  intro ac ha w _
  by_cases h : len = 0 <;> simp [execOp, ha.ev hx, Instr.sliceAt, Instr.sureAddr, run_underlying hT, Instr.sliceBounds, Instr.sliceBound, hE.sizeOf w, add_zero_addr, h]
theorem nilB (w : World) : Sl No w (.slice none 0 0) 1 ([] : List UInt8).length (bytesV []) := Sl.own (Row.nil w 5 1) (fun _ _ h => h)
theorem putN0_ok (w : World) : Fx Tryz.prog 87 [.slice none 0 0] w (fun u w' => Grow w w') := by
  refine enter Tryz.func87 rfl rfl rfl _ (Pick.sub (l := [0]) (.cons rfl .nil)) ?_
  refine RK.seq ?_
  refine RK.region ?_
  refine RL.p rfl rfl ?_
  refine RL.done ?_
  refine RK.seq ?_
  refine RK.region ?_
  refine RL.p rfl rfl ?_
  refine RL.q (.free rfl) rfl rfl (Yld.lenSl u41 rfl) ?_
  refine RL.q (.free rfl) rfl rfl (Yld.convI Tryz.underlying3 Tryz.underlying24 rfl) ?_
  refine RL.op (.free rfl) rfl rfl (Does.call rfl e86 (vput_ok 0 (by decide) _)) ?_
  rintro u9 w9 ⟨hr9, hf9, hg9⟩
  refine RL.p rfl rfl ?_
  refine RL.done ?_
  iterate 2 refine RK.seq ?_
  refine RK.region ?_
  refine RL.p rfl rfl ?_
  refine RL.q (.free rfl) rfl rfl (Yld.lenSl u41 rfl) ?_
  refine RL.p rfl rfl ?_
  refine RL.done ?_
  refine RK.block ?_
  refine RK.loop (fun _ : Unit => [(10, .slice none 0 0), (11, .int .i64 0), (12, .int .i64 0), (3, u9)]) (fun _ w' => w9 = w') (fun _ => 0) () ⟨rfl, rfl, rfl, rfl, trivial⟩ rfl (fun _ w' hI ih => ?_)
  subst hI
  refine RK.seq ?_
  refine RK.region ?_
  refine RL.p rfl rfl ?_
  refine RL.done ?_
  refine RK.seq ?_
  refine RK.condF (hcF rfl (rfl)) ?_
  refine RK.exit rfl ?_
  refine RK.seq ?_
  refine RK.region ?_
  iterate 2 refine RL.p rfl rfl ?_
  refine RL.done ?_
  refine RK.ret_of Tryz.func87 (res1 rfl rfl) ?_ _
  exact ⟨_, rfl, hg9⟩
theorem putS0_ok (w : World) : Fx Tryz.prog 88 [.slice none 0 0] w (fun u w' => Grow w w') := by
  refine enter Tryz.func88 rfl rfl rfl _ (Pick.sub (l := [0]) (.cons rfl .nil)) ?_
  refine RK.seq ?_
  refine RK.region ?_
  refine RL.p rfl rfl ?_
  refine RL.done ?_
  refine RK.seq ?_
  refine RK.region ?_
  refine RL.p rfl rfl ?_
  refine RL.q (.free rfl) rfl rfl (Yld.lenSl u42 rfl) ?_
  refine RL.q (.free rfl) rfl rfl (Yld.convI Tryz.underlying3 Tryz.underlying24 rfl) ?_
  refine RL.op (.free rfl) rfl rfl (Does.call rfl e86 (vput_ok 0 (by decide) _)) ?_
  rintro u9 w9 ⟨hr9, hf9, hg9⟩
  refine RL.p rfl rfl ?_
  refine RL.done ?_
  iterate 2 refine RK.seq ?_
  refine RK.region ?_
  refine RL.p rfl rfl ?_
  refine RL.q (.free rfl) rfl rfl (Yld.lenSl u42 rfl) ?_
  refine RL.p rfl rfl ?_
  refine RL.done ?_
  refine RK.block ?_
  refine RK.loop (fun _ : Unit => [(10, .slice none 0 0), (11, .int .i64 0), (12, .int .i64 0), (3, u9)]) (fun _ w' => w9 = w') (fun _ => 0) () ⟨rfl, rfl, rfl, rfl, trivial⟩ rfl (fun _ w' hI ih => ?_)
  subst hI
  refine RK.seq ?_
  refine RK.region ?_
  refine RL.p rfl rfl ?_
  refine RL.done ?_
  refine RK.seq ?_
  refine RK.condF (hcF rfl (rfl)) ?_
  refine RK.exit rfl ?_
  refine RK.seq ?_
  refine RK.region ?_
  iterate 2 refine RL.p rfl rfl ?_
  refine RL.done ?_
  refine RK.ret_of Tryz.func88 (res1 rfl rfl) ?_ _
  exact ⟨_, rfl, hg9⟩
theorem layDo_ok (f field z : Int) (hz : IntKind.i64.wrap ((BitVec.ofInt IntKind.i64.bits f &&& BitVec.ofInt IntKind.i64.bits field).toNat : Int) = z) (h0 : 0 < z) (l : Value) {w : World} {b4 b3 n m : Nat} {v : Value} {cs ds : List Value} (h4 : Blk w b4 3 [.int .i64 f]) (h3 : Blk w b3 43 [v]) (hv : Row w 5 1 v n cs) (hne : v.ownBlock ≠ some b3) (hl : Sl No w l 1 m ds) (h1 : ds.all (·.oneCell') = true) (hb : n + m ≤ 100000) : Fx Tryz.prog 85 [.int .i64 field, l, pp b4, pp b3] w (fun u w' => ∃ v', Blk w' b3 43 [v'] ∧ Row w' 5 1 v' (n + m) (cs ++ ds) ∧ Mod (fun b => b = b3 ∨ v.ownBlock = some b) w w' ∧ (∀ b, v'.ownBlock = some b → v.ownBlock = some b ∨ w.heap.size ≤ b)) := by
  have hb3 := h3.lt
  refine enter Tryz.func85 rfl rfl rfl _ (Pick.sub (l := [0, 1, 2, 3]) (.cons rfl (.cons rfl (.cons rfl (.cons rfl .nil))))) ?_
  refine RK.seq ?_
  refine RK.region ?_
  refine RL.q (.free rfl) rfl rfl (Yld.load p3 rfl (at1 (h4.cell rfl))) ?_
  iterate 2 refine RL.p rfl rfl ?_
  refine RL.re (d := 8) rfl rfl (congrArg (Value.int .i64) hz) ?_
  refine RL.p rfl rfl ?_
  refine RL.done ?_
  refine RK.condT (hcT rfl (decide_eq_true h0)) ?_
  refine RK.region ?_
  refine RL.q (.free rfl) rfl rfl (Yld.load p43 rfl (at1 (h3.cell rfl))) ?_
  refine RL.p rfl rfl ?_
  refine RL.op (.free rfl) rfl rfl (Does.append u43 i5 rfl rfl rfl rfl rfl (hv) (hl) (h1) (by omega)) ?_
  rintro u4 w4 ⟨hr4, hm4, hu4⟩
  have hu4' : ∀ b, u4.ownBlock = some b → b ≠ b3 ∧ (v.ownBlock = some b ∨ w.heap.size ≤ b) := fun b e => by
      rcases hu4 with h | h
      · rw [h] at e; exact ⟨fun hh => hne (hh ▸ e), .inl e⟩
      · rw [h] at e; cases e; exact ⟨by omega, .inr (Nat.le_refl _)⟩
  obtain ⟨a4, c4, rfl⟩ := hr4.slice
  refine RL.op' (.free rfl) rfl (Does.store i43 rfl rfl rfl (h3.mod hm4 (fun e => hne e)) (.z)) ?_
  rintro _ w5 ⟨hb5, hm5, hs5⟩
  refine RL.done ?_
  refine RK.end_of Tryz.func85 (res0 rfl) ?_
  exact ⟨_, rfl, _, hb5, hr4.mod hm5 (fun b e1 e2 => (hu4' b e1).1 e2), (hm4.mono fun b _ h => .inr h).trans (hm5.mono fun b _ h => .inl h), fun b e => (hu4' b e).2⟩
theorem rZeroT_ok (now : Int) (w : World) : Fx Tryz.prog 162 [.agg (respC 0 0 0 now).toArray, .int .i64 1] w (fun u w' => u = .bool true ∧ Grow w w') := by
  refine enter Tryz.func162 rfl rfl rfl _ (Pick.sub (l := [0, 1]) (.cons rfl (.cons rfl .nil))) ?_
  refine RK.seq ?_
  refine RK.region ?_
  refine RL.op (.free rfl) rfl rfl (Does.box rfl) ?_
  rintro _ w1 ⟨b1, rfl, hn1⟩
  have hB : Blk w1 b1 46 (respC 0 0 0 now) := hn1.blk
  refine RL.p rfl rfl ?_
  refine RL.done ?_
  refine RK.seq ?_
  refine RK.region ?_
  iterate 4 refine RL.p rfl rfl ?_
  refine RL.knownT (d := 8) rfl rfl (by first | rfl | decide) ?_
  iterate 3 refine RL.no (.no rfl rfl rfl rfl) rfl rfl ?_
  iterate 2 refine RL.p rfl rfl ?_
  iterate 4 refine RL.q (.yes rfl rfl rfl) rfl rfl (Yld.pure rfl) ?_
  refine RL.knownF (d := 17) rfl rfl (by first | rfl | decide) ?_
  refine RL.q (.yes rfl rfl rfl) rfl rfl (Yld.fieldAddr fo46_2 rfl) ?_
  refine RL.q (.yes rfl rfl rfl) rfl rfl (Yld.load p3 rfl (at1 (hB.cell rfl))) ?_
  iterate 2 refine RL.q (.yes rfl rfl rfl) rfl rfl (Yld.pure rfl) ?_
  iterate 2 refine RL.p rfl rfl ?_
  refine RL.knownT (d := 23) rfl rfl (by first | rfl | decide) ?_
  iterate 4 refine RL.q (.yes rfl rfl rfl) rfl rfl (Yld.pure rfl) ?_
  refine RL.knownF (d := 27) rfl rfl (by first | rfl | decide) ?_
  refine RL.q (.yes rfl rfl rfl) rfl rfl (Yld.fieldAddr fo46_3 rfl) ?_
  refine RL.q (.yes rfl rfl rfl) rfl rfl (Yld.load p41 rfl (at1 (hB.cell rfl))) ?_
  refine RL.q (.yes rfl rfl rfl) rfl rfl (Yld.lenSl u41 rfl) ?_
  iterate 2 refine RL.q (.yes rfl rfl rfl) rfl rfl (Yld.pure rfl) ?_
  iterate 2 refine RL.p rfl rfl ?_
  refine RL.knownT (d := 34) rfl rfl (by first | rfl | decide) ?_
  iterate 4 refine RL.q (.yes rfl rfl rfl) rfl rfl (Yld.pure rfl) ?_
  refine RL.knownF (d := 38) rfl rfl (by first | rfl | decide) ?_
  refine RL.q (.yes rfl rfl rfl) rfl rfl (Yld.fieldAddr fo46_4 rfl) ?_
  refine RL.q (.yes rfl rfl rfl) rfl rfl (Yld.load p41 rfl (at1 (hB.cell rfl))) ?_
  refine RL.q (.yes rfl rfl rfl) rfl rfl (Yld.lenSl u41 rfl) ?_
  iterate 2 refine RL.q (.yes rfl rfl rfl) rfl rfl (Yld.pure rfl) ?_
  iterate 2 refine RL.p rfl rfl ?_
  refine RL.knownT (d := 45) rfl rfl (by first | rfl | decide) ?_
  iterate 4 refine RL.q (.yes rfl rfl rfl) rfl rfl (Yld.pure rfl) ?_
  refine RL.knownF (d := 49) rfl rfl (by first | rfl | decide) ?_
  refine RL.q (.yes rfl rfl rfl) rfl rfl (Yld.fieldAddr fo46_5 rfl) ?_
  refine RL.q (.yes rfl rfl rfl) rfl rfl (Yld.load p42 rfl (at1 (hB.cell rfl))) ?_
  refine RL.q (.yes rfl rfl rfl) rfl rfl (Yld.lenSl u42 rfl) ?_
  iterate 2 refine RL.q (.yes rfl rfl rfl) rfl rfl (Yld.pure rfl) ?_
  iterate 2 refine RL.p rfl rfl ?_
  refine RL.knownT (d := 56) rfl rfl (by first | rfl | decide) ?_
  iterate 4 refine RL.q (.yes rfl rfl rfl) rfl rfl (Yld.pure rfl) ?_
  refine RL.knownF (d := 60) rfl rfl (by first | rfl | decide) ?_
  refine RL.q (.yes rfl rfl rfl) rfl rfl (Yld.fieldAddr fo46_6 rfl) ?_
  refine RL.q (.yes rfl rfl rfl) rfl rfl (Yld.load p43 rfl (at1 (hB.cell rfl))) ?_
  refine RL.q (.yes rfl rfl rfl) rfl rfl (Yld.lenSl u43 rfl) ?_
  iterate 2 refine RL.q (.yes rfl rfl rfl) rfl rfl (Yld.pure rfl) ?_
  iterate 2 refine RL.p rfl rfl ?_
  refine RL.knownT (d := 67) rfl rfl (by first | rfl | decide) ?_
  iterate 4 refine RL.q (.yes rfl rfl rfl) rfl rfl (Yld.pure rfl) ?_
  refine RL.knownF (d := 71) rfl rfl (by first | rfl | decide) ?_
  refine RL.q (.yes rfl rfl rfl) rfl rfl (Yld.fieldAddr fo46_7 rfl) ?_
  refine RL.q (.yes rfl rfl rfl) rfl rfl (Yld.loadN (cs := head0) a44 rfl (atN (fldV hB 7 32))) ?_
  refine RL.q (.yes rfl rfl rfl) rfl rfl (Yld.build (v := .agg head0.toArray) rfl (fun w => by kernel_rfl)) ?_
  refine RL.q (.yes rfl rfl rfl) rfl rfl (Yld.eqK (v := .bool true) rfl rfl (fun w => by kernel_rfl)) ?_
  refine RL.q (.yes rfl rfl rfl) rfl rfl (Yld.pure rfl) ?_
  iterate 2 refine RL.p rfl rfl ?_
  refine RL.done ?_
  refine RK.ret_of Tryz.func162 (res1 rfl rfl) ?_ _
  exact ⟨_, rfl, rfl, hn1.grow⟩
theorem rIsT_ok (now : Int) (hn : now ≤ 1099511627776) (w : World) : Fx Tryz.prog 83 [.agg (respC 0 0 0 now).toArray] w (fun u w' => u = .bool true ∧ Grow w w') := by
  refine enter Tryz.func83 rfl rfl rfl _ (Pick.sub (l := [0]) (.cons rfl .nil)) ?_
  refine RK.seq ?_
  refine RK.region ?_
  refine RL.op (.free rfl) rfl rfl (Does.box rfl) ?_
  rintro _ w1 ⟨b1, rfl, hn1⟩
  have hB : Blk w1 b1 46 (respC 0 0 0 now) := hn1.blk
  refine RL.p rfl rfl ?_
  refine RL.done ?_
  iterate 2 refine RK.seq ?_
  refine RK.region ?_
  refine RL.q (.free rfl) rfl rfl (Yld.fieldAddr fo46_0 rfl) ?_
  refine RL.q (.free rfl) rfl rfl (Yld.load p40 rfl (at1 (hB.cell rfl))) ?_
  refine RL.p rfl rfl ?_
  refine RL.done ?_
  refine RK.condF (hcF rfl (rfl)) ?_
  refine RK.skip ?_
  refine RK.seq ?_
  refine RK.region ?_
  refine RL.q (.free rfl) rfl rfl (Yld.fieldAddr fo46_1 rfl) ?_
  refine RL.q (.free rfl) rfl rfl (Yld.load p3 rfl (at1 (hB.cell rfl))) ?_
  refine RL.op (.free rfl) rfl rfl (Does.call rfl e84 (rFields0_ok _)) ?_
  rintro _ _ ⟨rfl, rfl⟩
  iterate 5 refine RL.p rfl rfl ?_
  refine RL.done ?_
  iterate 2 refine RK.seq ?_
  refine RK.region ?_
  iterate 3 refine RL.p rfl rfl ?_
  refine RL.knownF (d := 34) rfl rfl (rfl) ?_
  refine RL.q (.yes rfl rfl rfl) rfl rfl (Yld.loadN (cs := respC 0 0 0 now) a46 rfl (atN (blkV hB))) ?_
  refine RL.q (.yes rfl rfl rfl) rfl rfl (Yld.pure rfl) ?_
  refine RL.op (.yes rfl rfl rfl) rfl rfl (Does.call rfl e162 (rZeroT_ok now _)) ?_
  rintro _ w2 ⟨rfl, hg2⟩
  have hB2 := hB.mod hg2 (fun h => h)
  refine RL.q (.yes rfl rfl rfl) rfl rfl (Yld.pure rfl) ?_
  iterate 2 refine RL.p rfl rfl ?_
  refine RL.knownF (d := 40) rfl rfl (rfl) ?_
  refine RL.q (.yes rfl rfl rfl) rfl rfl (Yld.fieldAddr fo46_8 rfl) ?_
  refine RL.q (.yes rfl rfl rfl) rfl rfl (Yld.load p24 rfl (at1 (hB2.cell rfl))) ?_
  refine RL.q (.yes rfl rfl rfl) rfl rfl (Yld.pure rfl) ?_
  iterate 2 refine RL.p rfl rfl ?_
  refine RL.knownF (d := 45) rfl rfl (decide_eq_false (by omega)) ?_
  iterate 4 refine RL.q (.yes rfl rfl rfl) rfl rfl (Yld.pure rfl) ?_
  refine RL.knownF (d := 49) rfl rfl (by first | rfl | decide) ?_
  iterate 4 refine RL.no (.no rfl rfl rfl rfl) rfl rfl ?_
  refine RL.q (.yes rfl rfl rfl) rfl rfl (Yld.pure rfl) ?_
  refine RL.p rfl rfl ?_
  refine RL.done ?_
  refine RK.condF rfl ?_
  refine RK.skip ?_
  refine RK.seq ?_
  refine RK.region ?_
  refine RL.p rfl rfl ?_
  refine RL.done ?_
  iterate 2 refine RK.seq ?_
  refine RK.region ?_
  refine RL.q (.free rfl) rfl rfl (Yld.fieldAddr fo46_1 rfl) ?_
  refine RL.q (.free rfl) rfl rfl (Yld.load p3 rfl (at1 (hB2.cell rfl))) ?_
  refine RL.p rfl rfl ?_
  refine RL.done ?_
  refine RK.condF (hcF rfl (rfl)) ?_
  refine RK.skip ?_
  refine RK.seq ?_
  refine RK.region ?_
  refine RL.q (.free rfl) rfl rfl (Yld.fieldAddr fo46_3 rfl) ?_
  refine RL.q (.free rfl) rfl rfl (Yld.load p41 rfl (at1 (hB2.cell rfl))) ?_
  refine RL.p rfl rfl ?_
  refine RL.q (.free rfl) rfl rfl (Yld.fieldAddr fo46_1 rfl) ?_
  refine RL.q (.free rfl) rfl rfl (Yld.load p3 rfl (at1 (hB2.cell rfl))) ?_
  refine RL.p rfl rfl ?_
  refine RL.op (.free rfl) rfl rfl (Does.call rfl e164 (numbers0_ok 16 _ _)) ?_
  rintro _ _ ⟨rfl, rfl⟩
  refine RL.p rfl rfl ?_
  refine RL.knownT (d := 66) rfl rfl (rfl) ?_
  refine RL.q (.yes rfl rfl rfl) rfl rfl (Yld.fieldAddr fo46_4 rfl) ?_
  refine RL.q (.yes rfl rfl rfl) rfl rfl (Yld.load p41 rfl (at1 (hB2.cell rfl))) ?_
  refine RL.op (.yes rfl rfl rfl) rfl rfl (Does.call rfl e164 (numbers0_ok 16 _ _)) ?_
  rintro _ _ ⟨rfl, rfl⟩
  iterate 2 refine RL.p rfl rfl ?_
  refine RL.knownT (d := 71) rfl rfl (rfl) ?_
  refine RL.q (.yes rfl rfl rfl) rfl rfl (Yld.fieldAddr fo46_5 rfl) ?_
  refine RL.q (.yes rfl rfl rfl) rfl rfl (Yld.load p42 rfl (at1 (hB2.cell rfl))) ?_
  refine RL.op (.yes rfl rfl rfl) rfl rfl (Does.call rfl e165 (silences0_ok _)) ?_
  rintro _ _ ⟨rfl, rfl⟩
  iterate 2 refine RL.p rfl rfl ?_
  refine RL.done ?_
  refine RK.ret_of Tryz.func83 (res1 rfl rfl) ?_ _
  exact ⟨_, rfl, rfl, hn1.grow.trans hg2⟩
theorem bytesT_ok (now : Nat) (hn : now ≤ 1099511627776) (w : World) : Fx Tryz.prog 37 [.agg (respC 0 0 0 (now : Int)).toArray] w (fun u w' => ∃ c, Row w' 5 1 u c (bytesV ([0, 0] ++ putB now)) ∧ Fresh w.heap.size u ∧ Grow w w') := by
  refine enter Tryz.func37 rfl rfl rfl _ (Pick.sub (l := [0]) (.cons rfl .nil)) ?_
  refine RK.seq ?_
  refine RK.region ?_
  refine RL.op (.free rfl) rfl rfl (Does.box rfl) ?_
  rintro _ w1 ⟨b1, rfl, hn1⟩
  have hB : Blk w1 b1 46 (respC 0 0 0 (now : Int)) := hn1.blk
  refine RL.p rfl rfl ?_
  refine RL.done ?_
  iterate 2 refine RK.seq ?_
  refine RK.region ?_
  refine RL.q (.free rfl) rfl rfl (Yld.loadN (cs := respC 0 0 0 (now : Int)) a46 rfl (atN (blkV hB))) ?_
  refine RL.op (.free rfl) rfl rfl (Does.call rfl e83 (rIsT_ok (now : Int) (by omega) _)) ?_
  rintro _ w2 ⟨rfl, hg2⟩
  have hB2 := hB.mod hg2 (fun h => h)
  refine RL.p rfl rfl ?_
  refine RL.done ?_
  refine RK.condF (hcF rfl (rfl)) ?_
  refine RK.skip ?_
  iterate 2 refine RK.seq ?_
  refine RK.region ?_
  refine RL.q (.free rfl) rfl rfl (Yld.fieldAddr fo46_0 rfl) ?_
  refine RL.q (.free rfl) rfl rfl (Yld.load p40 rfl (at1 (hB2.cell rfl))) ?_
  refine RL.p rfl rfl ?_
  refine RL.done ?_
  refine RK.condF (hcF rfl (rfl)) ?_
  refine RK.skip ?_
  refine RK.seq ?_
  refine RK.region ?_
  refine RL.q (.free rfl) rfl rfl (Yld.fieldAddr fo46_0 rfl) ?_
  refine RL.q (.free rfl) rfl rfl (Yld.load p40 rfl (at1 (hB2.cell rfl))) ?_
  refine RL.q (.free rfl) rfl rfl (Yld.convI Tryz.underlying40 Tryz.underlying5 rfl) ?_
  refine RL.q (.free rfl) rfl rfl (Yld.fieldAddr fo46_1 rfl) ?_
  refine RL.q (.free rfl) rfl rfl (Yld.load p3 rfl (at1 (hB2.cell rfl))) ?_
  refine RL.q (.free rfl) rfl rfl (Yld.convI Tryz.underlying3 Tryz.underlying5 rfl) ?_
  refine RL.op (.free rfl) rfl rfl (Does.bslice (el := 5) ([.int .u8 0, .int .u8 0]) rfl (fun w => by kernel_rfl)) ?_
  rintro _ w5 ⟨b5, rfl, hn5⟩
  refine RL.op (.free rfl) rfl rfl (Does.alloc i43) ?_
  rintro _ w6 ⟨b6, rfl, hn6⟩
  have ha1 := hn1.at_
  have hz1 := hn1.size
  have hz2 := hg2.size
  have ha5 := hn5.at_
  have hz5 := hn5.size
  have ha6 := hn6.at_
  have hz6 := hn6.size
  refine RL.op' (.free rfl) rfl (Does.store i43 rfl rfl rfl hn6.blk (.z)) ?_
  rintro _ w7 ⟨hb7, hm7, hs7⟩
  have hg57 : Grow w2 w7 := (hn5.grow.trans hn6.grow).then hm7 (fun x hx e => by have e' : x = b6 := e; omega)
  have hB7 := hB2.mod hg57 (fun h => h)
  have hr7 : Row w7 5 1 (.slice (some ⟨b5, 0, none⟩) 2 2) 2 (bytesV [0, 0]) := ((Row.new hn5 1 2 rfl (by omega)).mod hn6.grow (fun _ _ h => h)).mod hm7 (fun b e1 e2 => by simp [Value.ownBlock] at e1; have e' : b = b6 := e2; omega)
  refine RL.done ?_
  refine RK.seq ?_
  refine RK.region ?_
  refine RL.q (.free rfl) rfl rfl (Yld.fieldAddr fo46_1 rfl) ?_
  refine RL.q (.free rfl) rfl rfl (Yld.load p3 rfl (at1 (hB7.cell rfl))) ?_
  refine RL.op (.free rfl) rfl rfl (Does.call rfl e84 (rFields0_ok _)) ?_
  rintro _ _ ⟨rfl, rfl⟩
  iterate 3 refine RL.p rfl rfl ?_
  refine RL.op (.free rfl) rfl rfl (Does.alloc i3) ?_
  rintro _ w8 ⟨b8, rfl, hn8⟩
  have ha8 := hn8.at_
  have hz8 := hn8.size
  refine RL.op' (.free rfl) rfl (Does.store i3 rfl rfl rfl hn8.blk (.z)) ?_
  rintro _ w9 ⟨hb9, hm9, hs9⟩
  have hg79 : Grow w7 w9 := hn8.grow.then hm9 (fun x hx e => by have e' : x = b8 := e; omega)
  have hb79 := hb7.mod hg79 (fun h => h)
  have hr79 := hr7.mod hg79 (fun _ _ h => h)
  have hB9 := hB7.mod hg79 (fun h => h)
  have hg09 : Grow w w9 := ((hn1.grow.trans hg2).trans hg57).trans hg79
  refine RL.p rfl rfl ?_
  refine RL.done ?_
  refine RK.seq ?_
  refine RK.region ?_
  iterate 2 refine RL.p rfl rfl ?_
  refine RL.done ?_
  refine RK.seq ?_
  refine RK.region ?_
  refine RL.p rfl rfl ?_
  refine RL.q (.free rfl) rfl rfl (Yld.fieldAddr fo46_8 rfl) ?_
  refine RL.q (.free rfl) rfl rfl (Yld.load p24 rfl (at1 (hB9.cell rfl))) ?_
  refine RL.op (.free rfl) rfl rfl (Does.call rfl e86 (vput_ok now (by omega) _)) ?_
  rintro u10 w10 ⟨hr10, hf10, hg10⟩
  have hBB10 := hB9.mod hg10 (fun h => h)
  have hbb10 := hb79.mod hg10 (fun h => h)
  have hrr10 := hr79.mod hg10 (fun _ _ h => h)
  have hff10 := hb9.mod hg10 (fun h => h)
  have hgg10 := hg09.trans hg10
  have hsz11 := hgg10.size
  refine RL.op (.free rfl) rfl rfl (Does.callv rfl rfl e85 (layDo_ok 1 1 1 (by decide) (by decide) _ hff10 hbb10 hrr10 (fun e => by simp [Value.ownBlock] at e; omega) (Sl.own hr10 (fun _ _ h => h)) (bytesV_one _) (by have := putB_len now (by omega); omega))) ?_
  rintro _ w11 ⟨v11, hb11, hr11, hm11, hu11⟩
  have hlt1 := hBB10.lt
  have hlt4 := hff10.lt
  have hBB11 := hBB10.mod hm11 (fun e => by rcases e with e | e; omega; simp [Value.ownBlock] at e; omega)
  have hff11 := hff10.mod hm11 (fun e => by rcases e with e | e; omega; simp [Value.ownBlock] at e; omega)
  have hgg11 := hgg10.then hm11 (fun x hx e => by rcases e with e | e; omega; simp [Value.ownBlock] at e; omega)
  have huu11 : Fresh w.heap.size v11 := fun b e => by
      rcases hu11 b e with e | e
      · simp [Value.ownBlock] at e; omega
      · have := hgg10.size; omega
  refine RL.done ?_
  refine RK.seq ?_
  refine RK.region ?_
  refine RL.p rfl rfl ?_
  refine RL.q (.free rfl) rfl rfl (Yld.fieldAddr fo46_2 rfl) ?_
  refine RL.q (.free rfl) rfl rfl (Yld.load p3 rfl (at1 (hBB11.cell rfl))) ?_
  refine RL.q (.free rfl) rfl rfl (Yld.convI Tryz.underlying3 Tryz.underlying24 rfl) ?_
  refine RL.op (.free rfl) rfl rfl (Does.call rfl e86 (vput_ok 0 (by omega) _)) ?_
  rintro u12 w12 ⟨hr12, hf12, hg12⟩
  have hBB12 := hBB11.mod hg12 (fun h => h)
  have hbb12 := hb11.mod hg12 (fun h => h)
  have hrr12 := hr11.mod hg12 (fun _ _ h => h)
  have hff12 := hff11.mod hg12 (fun h => h)
  have hgg12 := hgg11.trans hg12
  refine RL.op (.free rfl) rfl rfl (Does.callv rfl rfl e85 (laySkip_ok 1 2 (by decide) _ hff12)) ?_
  rintro _ _ rfl
  refine RL.done ?_
  refine RK.seq ?_
  refine RK.region ?_
  refine RL.p rfl rfl ?_
  refine RL.q (.free rfl) rfl rfl (Yld.fieldAddr fo46_3 rfl) ?_
  refine RL.q (.free rfl) rfl rfl (Yld.load p41 rfl (at1 (hBB12.cell rfl))) ?_
  refine RL.op (.free rfl) rfl rfl (Does.call rfl e87 (putN0_ok _)) ?_
  rintro _ w13 hg13
  have hBB13 := hBB12.mod hg13 (fun h => h)
  have hbb13 := hbb12.mod hg13 (fun h => h)
  have hrr13 := hrr12.mod hg13 (fun _ _ h => h)
  have hff13 := hff12.mod hg13 (fun h => h)
  have hgg13 := hgg12.trans hg13
  refine RL.op (.free rfl) rfl rfl (Does.callv rfl rfl e85 (laySkip_ok 1 4 (by decide) _ hff13)) ?_
  rintro _ _ rfl
  refine RL.done ?_
  refine RK.seq ?_
  refine RK.region ?_
  refine RL.p rfl rfl ?_
  refine RL.q (.free rfl) rfl rfl (Yld.fieldAddr fo46_4 rfl) ?_
  refine RL.q (.free rfl) rfl rfl (Yld.load p41 rfl (at1 (hBB13.cell rfl))) ?_
  refine RL.op (.free rfl) rfl rfl (Does.call rfl e87 (putN0_ok _)) ?_
  rintro _ w14 hg14
  have hBB14 := hBB13.mod hg14 (fun h => h)
  have hbb14 := hbb13.mod hg14 (fun h => h)
  have hrr14 := hrr13.mod hg14 (fun _ _ h => h)
  have hff14 := hff13.mod hg14 (fun h => h)
  have hgg14 := hgg13.trans hg14
  refine RL.op (.free rfl) rfl rfl (Does.callv rfl rfl e85 (laySkip_ok 1 8 (by decide) _ hff14)) ?_
  rintro _ _ rfl
  refine RL.done ?_
  refine RK.seq ?_
  refine RK.region ?_
  refine RL.p rfl rfl ?_
  refine RL.q (.free rfl) rfl rfl (Yld.fieldAddr fo46_5 rfl) ?_
  refine RL.q (.free rfl) rfl rfl (Yld.load p42 rfl (at1 (hBB14.cell rfl))) ?_
  refine RL.op (.free rfl) rfl rfl (Does.call rfl e88 (putS0_ok _)) ?_
  rintro _ w15 hg15
  have hBB15 := hBB14.mod hg15 (fun h => h)
  have hbb15 := hbb14.mod hg15 (fun h => h)
  have hrr15 := hrr14.mod hg15 (fun _ _ h => h)
  have hff15 := hff14.mod hg15 (fun h => h)
  have hgg15 := hgg14.trans hg15
  refine RL.op (.free rfl) rfl rfl (Does.callv rfl rfl e85 (laySkip_ok 1 16 (by decide) _ hff15)) ?_
  rintro _ _ rfl
  refine RL.done ?_
  refine RK.seq ?_
  refine RK.region ?_
  refine RL.p rfl rfl ?_
  refine RL.q (.free rfl) rfl rfl (Yld.fieldAddr fo46_6 rfl) ?_
  refine RL.q (.free rfl) rfl rfl (Yld.load p43 rfl (at1 (hBB15.cell rfl))) ?_
  refine RL.q (.free rfl) rfl rfl (Yld.bytesSl (l := []) u43 Tryz.underlying5 Tryz.underlying9 rfl (fun w9 h9 => nilB w9)) ?_
  refine RL.op (.free rfl) rfl rfl (Does.call rfl e89 (putT_ok _ (by decide) _)) ?_
  rintro _ w16 ⟨_, _, hg16⟩
  have hBB16 := hBB15.mod hg16 (fun h => h)
  have hbb16 := hbb15.mod hg16 (fun h => h)
  have hrr16 := hrr15.mod hg16 (fun _ _ h => h)
  have hff16 := hff15.mod hg16 (fun h => h)
  have hgg16 := hgg15.trans hg16
  refine RL.op (.free rfl) rfl rfl (Does.callv rfl rfl e85 (laySkip_ok 1 32 (by decide) _ hff16)) ?_
  rintro _ _ rfl
  refine RL.done ?_
  refine RK.seq ?_
  refine RK.region ?_
  refine RL.p rfl rfl ?_
  refine RL.q (.free rfl) rfl rfl (Yld.fieldAddr fo46_7 rfl) ?_
  refine RL.q (.free rfl) rfl rfl (Yld.sliceArr Tryz.underlying44 i5 rfl) ?_
  refine RL.op (.free rfl) rfl rfl (Does.callv rfl rfl e85 (laySkip_ok 1 64 (by decide) _ hff16)) ?_
  rintro _ _ rfl
  refine RL.done ?_
  refine RK.seq ?_
  refine RK.region ?_
  refine RL.q (.free rfl) rfl rfl (Yld.load p43 rfl (at1 (hbb16.cell rfl))) ?_
  refine RL.p rfl rfl ?_
  refine RL.done ?_
  refine RK.ret_of Tryz.func37 (res1 rfl rfl) ?_ _
  exact ⟨_, rfl, _, by simpa only [bytesV, List.map_append] using hrr16, huu11, hgg16⟩
theorem bytesI_ok (w : World) : Fx Tryz.prog 37 [.agg (respC 0 1 1 0).toArray] w (fun u w' => ∃ c, Row w' 5 1 u c (bytesV ([0, 1] ++ putB 1)) ∧ Fresh w.heap.size u ∧ Grow w w') := by
  refine enter Tryz.func37 rfl rfl rfl _ (Pick.sub (l := [0]) (.cons rfl .nil)) ?_
  refine RK.seq ?_
  refine RK.region ?_
  refine RL.op (.free rfl) rfl rfl (Does.box rfl) ?_
  rintro _ w1 ⟨b1, rfl, hn1⟩
  have hB : Blk w1 b1 46 (respC 0 1 1 0) := hn1.blk
  refine RL.p rfl rfl ?_
  refine RL.done ?_
  iterate 2 refine RK.seq ?_
  refine RK.region ?_
  refine RL.q (.free rfl) rfl rfl (Yld.loadN (cs := respC 0 1 1 0) a46 rfl (atN (blkV hB))) ?_
  refine RL.op (.free rfl) rfl rfl (Does.call rfl e83 (rIsI_ok _)) ?_
  rintro _ w2 ⟨rfl, hg2⟩
  have hB2 := hB.mod hg2 (fun h => h)
  refine RL.p rfl rfl ?_
  refine RL.done ?_
  refine RK.condF (hcF rfl (rfl)) ?_
  refine RK.skip ?_
  iterate 2 refine RK.seq ?_
  refine RK.region ?_
  refine RL.q (.free rfl) rfl rfl (Yld.fieldAddr fo46_0 rfl) ?_
  refine RL.q (.free rfl) rfl rfl (Yld.load p40 rfl (at1 (hB2.cell rfl))) ?_
  refine RL.p rfl rfl ?_
  refine RL.done ?_
  refine RK.condF (hcF rfl (rfl)) ?_
  refine RK.skip ?_
  refine RK.seq ?_
  refine RK.region ?_
  refine RL.q (.free rfl) rfl rfl (Yld.fieldAddr fo46_0 rfl) ?_
  refine RL.q (.free rfl) rfl rfl (Yld.load p40 rfl (at1 (hB2.cell rfl))) ?_
  refine RL.q (.free rfl) rfl rfl (Yld.convI Tryz.underlying40 Tryz.underlying5 rfl) ?_
  refine RL.q (.free rfl) rfl rfl (Yld.fieldAddr fo46_1 rfl) ?_
  refine RL.q (.free rfl) rfl rfl (Yld.load p3 rfl (at1 (hB2.cell rfl))) ?_
  refine RL.q (.free rfl) rfl rfl (Yld.convI Tryz.underlying3 Tryz.underlying5 rfl) ?_
  refine RL.op (.free rfl) rfl rfl (Does.bslice (el := 5) ([.int .u8 0, .int .u8 1]) rfl (fun w => by kernel_rfl)) ?_
  rintro _ w5 ⟨b5, rfl, hn5⟩
  refine RL.op (.free rfl) rfl rfl (Does.alloc i43) ?_
  rintro _ w6 ⟨b6, rfl, hn6⟩
  have ha1 := hn1.at_
  have hz1 := hn1.size
  have hz2 := hg2.size
  have ha5 := hn5.at_
  have hz5 := hn5.size
  have ha6 := hn6.at_
  have hz6 := hn6.size
  refine RL.op' (.free rfl) rfl (Does.store i43 rfl rfl rfl hn6.blk (.z)) ?_
  rintro _ w7 ⟨hb7, hm7, hs7⟩
  have hg57 : Grow w2 w7 := (hn5.grow.trans hn6.grow).then hm7 (fun x hx e => by have e' : x = b6 := e; omega)
  have hB7 := hB2.mod hg57 (fun h => h)
  have hr7 : Row w7 5 1 (.slice (some ⟨b5, 0, none⟩) 2 2) 2 (bytesV [0, 1]) := ((Row.new hn5 1 2 rfl (by omega)).mod hn6.grow (fun _ _ h => h)).mod hm7 (fun b e1 e2 => by simp [Value.ownBlock] at e1; have e' : b = b6 := e2; omega)
  refine RL.done ?_
  refine RK.seq ?_
  refine RK.region ?_
  refine RL.q (.free rfl) rfl rfl (Yld.fieldAddr fo46_1 rfl) ?_
  refine RL.q (.free rfl) rfl rfl (Yld.load p3 rfl (at1 (hB7.cell rfl))) ?_
  refine RL.op (.free rfl) rfl rfl (Does.call rfl e84 (rFields1_ok _)) ?_
  rintro _ _ ⟨rfl, rfl⟩
  iterate 3 refine RL.p rfl rfl ?_
  refine RL.op (.free rfl) rfl rfl (Does.alloc i3) ?_
  rintro _ w8 ⟨b8, rfl, hn8⟩
  have ha8 := hn8.at_
  have hz8 := hn8.size
  refine RL.op' (.free rfl) rfl (Does.store i3 rfl rfl rfl hn8.blk (.z)) ?_
  rintro _ w9 ⟨hb9, hm9, hs9⟩
  have hg79 : Grow w7 w9 := hn8.grow.then hm9 (fun x hx e => by have e' : x = b8 := e; omega)
  have hb79 := hb7.mod hg79 (fun h => h)
  have hr79 := hr7.mod hg79 (fun _ _ h => h)
  have hB9 := hB7.mod hg79 (fun h => h)
  have hg09 : Grow w w9 := ((hn1.grow.trans hg2).trans hg57).trans hg79
  refine RL.p rfl rfl ?_
  refine RL.done ?_
  refine RK.seq ?_
  refine RK.region ?_
  iterate 2 refine RL.p rfl rfl ?_
  refine RL.done ?_
  refine RK.seq ?_
  refine RK.region ?_
  refine RL.p rfl rfl ?_
  refine RL.q (.free rfl) rfl rfl (Yld.fieldAddr fo46_8 rfl) ?_
  refine RL.q (.free rfl) rfl rfl (Yld.load p24 rfl (at1 (hB9.cell rfl))) ?_
  refine RL.op (.free rfl) rfl rfl (Does.call rfl e86 (vput_ok 0 (by omega) _)) ?_
  rintro u10 w10 ⟨hr10, hf10, hg10⟩
  have hBB10 := hB9.mod hg10 (fun h => h)
  have hbb10 := hb79.mod hg10 (fun h => h)
  have hrr10 := hr79.mod hg10 (fun _ _ h => h)
  have hff10 := hb9.mod hg10 (fun h => h)
  have hgg10 := hg09.trans hg10
  refine RL.op (.free rfl) rfl rfl (Does.callv rfl rfl e85 (laySkip_ok 2 1 (by decide) _ hff10)) ?_
  rintro _ _ rfl
  refine RL.done ?_
  refine RK.seq ?_
  refine RK.region ?_
  refine RL.p rfl rfl ?_
  refine RL.q (.free rfl) rfl rfl (Yld.fieldAddr fo46_2 rfl) ?_
  refine RL.q (.free rfl) rfl rfl (Yld.load p3 rfl (at1 (hBB10.cell rfl))) ?_
  refine RL.q (.free rfl) rfl rfl (Yld.convI Tryz.underlying3 Tryz.underlying24 rfl) ?_
  refine RL.op (.free rfl) rfl rfl (Does.call rfl e86 (vput_ok 1 (by omega) _)) ?_
  rintro u11 w11 ⟨hr11, hf11, hg11⟩
  have hBB11 := hBB10.mod hg11 (fun h => h)
  have hbb11 := hbb10.mod hg11 (fun h => h)
  have hrr11 := hrr10.mod hg11 (fun _ _ h => h)
  have hff11 := hff10.mod hg11 (fun h => h)
  have hgg11 := hgg10.trans hg11
  have hsz12 := hgg11.size
  refine RL.op (.free rfl) rfl rfl (Does.callv rfl rfl e85 (layDo_ok 2 2 2 (by decide) (by decide) _ hff11 hbb11 hrr11 (fun e => by simp [Value.ownBlock] at e; omega) (Sl.own hr11 (fun _ _ h => h)) (bytesV_one _) (by have := putB_len 1 (by omega); omega))) ?_
  rintro _ w12 ⟨v12, hb12, hr12, hm12, hu12⟩
  have hlt1 := hBB11.lt
  have hlt4 := hff11.lt
  have hBB12 := hBB11.mod hm12 (fun e => by rcases e with e | e; omega; simp [Value.ownBlock] at e; omega)
  have hff12 := hff11.mod hm12 (fun e => by rcases e with e | e; omega; simp [Value.ownBlock] at e; omega)
  have hgg12 := hgg11.then hm12 (fun x hx e => by rcases e with e | e; omega; simp [Value.ownBlock] at e; omega)
  have huu12 : Fresh w.heap.size v12 := fun b e => by
      rcases hu12 b e with e | e
      · simp [Value.ownBlock] at e; omega
      · have := hgg11.size; omega
  refine RL.done ?_
  refine RK.seq ?_
  refine RK.region ?_
  refine RL.p rfl rfl ?_
  refine RL.q (.free rfl) rfl rfl (Yld.fieldAddr fo46_3 rfl) ?_
  refine RL.q (.free rfl) rfl rfl (Yld.load p41 rfl (at1 (hBB12.cell rfl))) ?_
  refine RL.op (.free rfl) rfl rfl (Does.call rfl e87 (putN0_ok _)) ?_
  rintro _ w13 hg13
  have hBB13 := hBB12.mod hg13 (fun h => h)
  have hbb13 := hb12.mod hg13 (fun h => h)
  have hrr13 := hr12.mod hg13 (fun _ _ h => h)
  have hff13 := hff12.mod hg13 (fun h => h)
  have hgg13 := hgg12.trans hg13
  refine RL.op (.free rfl) rfl rfl (Does.callv rfl rfl e85 (laySkip_ok 2 4 (by decide) _ hff13)) ?_
  rintro _ _ rfl
  refine RL.done ?_
  refine RK.seq ?_
  refine RK.region ?_
  refine RL.p rfl rfl ?_
  refine RL.q (.free rfl) rfl rfl (Yld.fieldAddr fo46_4 rfl) ?_
  refine RL.q (.free rfl) rfl rfl (Yld.load p41 rfl (at1 (hBB13.cell rfl))) ?_
  refine RL.op (.free rfl) rfl rfl (Does.call rfl e87 (putN0_ok _)) ?_
  rintro _ w14 hg14
  have hBB14 := hBB13.mod hg14 (fun h => h)
  have hbb14 := hbb13.mod hg14 (fun h => h)
  have hrr14 := hrr13.mod hg14 (fun _ _ h => h)
  have hff14 := hff13.mod hg14 (fun h => h)
  have hgg14 := hgg13.trans hg14
  refine RL.op (.free rfl) rfl rfl (Does.callv rfl rfl e85 (laySkip_ok 2 8 (by decide) _ hff14)) ?_
  rintro _ _ rfl
  refine RL.done ?_
  refine RK.seq ?_
  refine RK.region ?_
  refine RL.p rfl rfl ?_
  refine RL.q (.free rfl) rfl rfl (Yld.fieldAddr fo46_5 rfl) ?_
  refine RL.q (.free rfl) rfl rfl (Yld.load p42 rfl (at1 (hBB14.cell rfl))) ?_
  refine RL.op (.free rfl) rfl rfl (Does.call rfl e88 (putS0_ok _)) ?_
  rintro _ w15 hg15
  have hBB15 := hBB14.mod hg15 (fun h => h)
  have hbb15 := hbb14.mod hg15 (fun h => h)
  have hrr15 := hrr14.mod hg15 (fun _ _ h => h)
  have hff15 := hff14.mod hg15 (fun h => h)
  have hgg15 := hgg14.trans hg15
  refine RL.op (.free rfl) rfl rfl (Does.callv rfl rfl e85 (laySkip_ok 2 16 (by decide) _ hff15)) ?_
  rintro _ _ rfl
  refine RL.done ?_
  refine RK.seq ?_
  refine RK.region ?_
  refine RL.p rfl rfl ?_
  refine RL.q (.free rfl) rfl rfl (Yld.fieldAddr fo46_6 rfl) ?_
  refine RL.q (.free rfl) rfl rfl (Yld.load p43 rfl (at1 (hBB15.cell rfl))) ?_
  refine RL.q (.free rfl) rfl rfl (Yld.bytesSl (l := []) u43 Tryz.underlying5 Tryz.underlying9 rfl (fun w9 h9 => nilB w9)) ?_
  refine RL.op (.free rfl) rfl rfl (Does.call rfl e89 (putT_ok _ (by decide) _)) ?_
  rintro _ w16 ⟨_, _, hg16⟩
  have hBB16 := hBB15.mod hg16 (fun h => h)
  have hbb16 := hbb15.mod hg16 (fun h => h)
  have hrr16 := hrr15.mod hg16 (fun _ _ h => h)
  have hff16 := hff15.mod hg16 (fun h => h)
  have hgg16 := hgg15.trans hg16
  refine RL.op (.free rfl) rfl rfl (Does.callv rfl rfl e85 (laySkip_ok 2 32 (by decide) _ hff16)) ?_
  rintro _ _ rfl
  refine RL.done ?_
  refine RK.seq ?_
  refine RK.region ?_
  refine RL.p rfl rfl ?_
  refine RL.q (.free rfl) rfl rfl (Yld.fieldAddr fo46_7 rfl) ?_
  refine RL.q (.free rfl) rfl rfl (Yld.sliceArr Tryz.underlying44 i5 rfl) ?_
  refine RL.op (.free rfl) rfl rfl (Does.callv rfl rfl e85 (laySkip_ok 2 64 (by decide) _ hff16)) ?_
  rintro _ _ rfl
  refine RL.done ?_
  refine RK.seq ?_
  refine RK.region ?_
  refine RL.q (.free rfl) rfl rfl (Yld.load p43 rfl (at1 (hbb16.cell rfl))) ?_
  refine RL.p rfl rfl ?_
  refine RL.done ?_
  refine RK.ret_of Tryz.func37 (res1 rfl rfl) ?_ _
  exact ⟨_, rfl, _, by simpa only [bytesV, List.map_append] using hrr16, huu12, hgg16⟩
end Go.Proofs.YtnnmgfnhblbolaaGreatDoor
set_option linter.unusedVariables false
set_option linter.unusedSimpArgs false
set_option maxHeartbeats 6400000
set_option maxRecDepth 100000
namespace Go.Proofs.YtnnmgfnhblbolaaGreatDoor
open Go Go.X
@[reducible] def recC (i clk : Nat) (v : Value) : List Value := [.int .i64 (i : Int), .int .u64 (clk : Int), v, .int .i64 0]
theorem recIs_ok (i clk : Nat) (hi : i ≤ 1000) (hc : clk ≤ 1099511627776) (ad : Option Addr) (c : Nat) (w : World) (hv : Sl No w (.slice ad 1 c) 1 1 (bytesV [1])) (hcap : 1 ≤ c) : Fx Tryz.prog 109 [.agg (recC i clk (.slice ad 1 c)).toArray] w (fun u w' => u = .bool true ∧ Grow w w') := by
  refine enter Tryz.func109 rfl rfl rfl _ (Pick.sub (l := [0]) (.cons rfl .nil)) ?_
  refine RK.seq ?_
  refine RK.region ?_
  refine RL.op (.free rfl) rfl rfl (Does.box rfl) ?_
  rintro _ w1 ⟨b1, rfl, hn1⟩
  have hB : Blk w1 b1 188 (recC i clk (.slice ad 1 c)) := hn1.blk
  refine RL.p rfl rfl ?_
  refine RL.done ?_
  iterate 2 refine RK.seq ?_
  refine RK.region ?_
  refine RL.q (.free rfl) rfl rfl (Yld.fieldAddr fo188_0 rfl) ?_
  refine RL.q (.free rfl) rfl rfl (Yld.load p3 rfl (at1 (hB.cell rfl))) ?_
  iterate 2 refine RL.p rfl rfl ?_
  refine RL.knownF (d := 8) rfl rfl (decide_eq_false (by omega)) ?_
  refine RL.q (.yes rfl rfl rfl) rfl rfl (Yld.fieldAddr fo188_0 rfl) ?_
  refine RL.q (.yes rfl rfl rfl) rfl rfl (Yld.load p3 rfl (at1 (hB.cell rfl))) ?_
  refine RL.q (.yes rfl rfl rfl) rfl rfl (Yld.pure rfl) ?_
  iterate 2 refine RL.p rfl rfl ?_
  refine RL.knownF (d := 13) rfl rfl (decide_eq_false (by omega)) ?_
  refine RL.q (.yes rfl rfl rfl) rfl rfl (Yld.fieldAddr fo188_1 rfl) ?_
  refine RL.q (.yes rfl rfl rfl) rfl rfl (Yld.load p24 rfl (at1 (hB.cell rfl))) ?_
  refine RL.q (.yes rfl rfl rfl) rfl rfl (Yld.pure rfl) ?_
  refine RL.p rfl rfl ?_
  refine RL.done ?_
  refine RK.condF (hcF rfl (decide_eq_false (by omega))) ?_
  refine RK.skip ?_
  refine RK.seq ?_
  refine RK.region ?_
  refine RL.q (.free rfl) rfl rfl (Yld.fieldAddr fo188_2 rfl) ?_
  refine RL.q (.free rfl) rfl rfl (Yld.load p43 rfl (at1 (hB.cell rfl))) ?_
  refine RL.op (.free rfl) rfl rfl (Does.call rfl e182 (readBody1_ok _ ad c (hv.mod hn1.grow) hcap)) ?_
  rintro _ w2 ⟨rfl, hg2⟩
  iterate 3 refine RL.p rfl rfl ?_
  refine RL.op (.free rfl) rfl rfl (Does.alloc i39) ?_
  rintro _ w3 ⟨b3, rfl, hn3⟩
  have ha3 := hn3.at_
  refine RL.op' (.free rfl) rfl (Does.storeN i39 rfl rfl rfl rfl hn3.blk (Nat.le_refl 19)) ?_
  rintro _ w4 ⟨hb4, hm4, hs4⟩
  have hg14 : Grow w1 w4 := (hg2.trans hn3.grow).then hm4 (fun x hx e => by have e' : x = b3 := e; have := hg2.size; omega)
  refine RL.p rfl rfl ?_
  refine RL.done ?_
  refine RK.seq ?_
  refine RK.region ?_
  iterate 2 refine RL.p rfl rfl ?_
  refine RL.knownT (d := 25) rfl rfl (rfl) ?_
  refine RL.q (.yes rfl rfl rfl) rfl rfl (Yld.fieldAddr fo188_3 rfl) ?_
  refine RL.q (.yes rfl rfl rfl) rfl rfl (Yld.load p40 rfl (at1 ((hB.mod hg14 (fun h => h)).cell rfl))) ?_
  iterate 2 refine RL.q (.yes rfl rfl rfl) rfl rfl (Yld.pure rfl) ?_
  refine RL.knownT (d := 29) rfl rfl (rfl) ?_
  iterate 8 refine RL.no (.no rfl rfl rfl rfl) rfl rfl ?_
  refine RL.q (.yes rfl rfl rfl) rfl rfl (Yld.pure rfl) ?_
  iterate 2 refine RL.p rfl rfl ?_
  refine RL.done ?_
  refine RK.ret_of Tryz.func109 (res1 rfl rfl) ?_ _
  exact ⟨_, rfl, rfl, hn1.grow.trans hg14⟩
end Go.Proofs.YtnnmgfnhblbolaaGreatDoor
set_option linter.unusedVariables false
set_option linter.unusedSimpArgs false
set_option maxHeartbeats 6400000
set_option maxRecDepth 100000
namespace Go.Proofs.YtnnmgfnhblbolaaGreatDoor
open Go Go.X
def By (w : World) (n : Nat) (v : Value) : Prop := ∃ cs, WW .u8 n cs ∧ Sl No w v 1 n cs
theorem By.grow {w w' : World} {n : Nat} {v : Value} (h : By w n v) (hg : Grow w w') : By w' n v := by
  obtain ⟨cs, h1, h2⟩ := h
  exact ⟨cs, h1, h2.mod (Mod.any' hg)⟩
theorem By.drew {w : World} {n : Nat} {v : Value} (h : By w n v) : By w.drew n v := h.grow (Mod.drew No w)
theorem By.row {w : World} {n : Nat} {v : Value} {cs : List Value} (h : Row w 5 1 v n cs) (hw : WW .u8 n cs) : By w n v := ⟨cs, hw, Sl.own h (fun _ _ h => h)⟩
theorem By.rowB {w : World} {v : Value} {l : List UInt8} (h : Row w 5 1 v l.length (bytesV l)) : By w l.length v := ⟨_, WW.bytes l, Sl.own h (fun _ _ h => h)⟩
theorem By.shape {w : World} {n : Nat} {v : Value} (h : By w n v) : ∃ a c, v = .slice a n c := by
  obtain ⟨cs, _, h2⟩ := h
  exact h2.shape
def sumB (l : List (Value × Nat)) : Nat := (l.map (·.2)).sum
theorem byPairs {w : World} : ∀ l : List (Value × Nat), (∀ p ∈ l, By w p.2 p.1) → ∃ pr : List (Value × List Value), pr.map (·.1) = l.map (·.1) ∧ (∀ p ∈ pr, Sl No w p.1 1 p.2.length p.2) ∧ (∀ p ∈ pr, p.2.all (·.oneCell') = true) ∧ totalB pr = sumB l ∧ WW .u8 (sumB l) (pr.flatMap (·.2))
  | [], _ => ⟨[], rfl, fun _ h => (by cases h), fun _ h => (by cases h), rfl, ⟨rfl, fun i hi => absurd hi (Nat.not_lt_zero _)⟩⟩
  | x :: l, h => by
    obtain ⟨pr, h1, h2, h3, h4, h5⟩ := byPairs l fun p hp => h p (List.mem_cons_of_mem _ hp)
    obtain ⟨cs, hw, hs⟩ := h x List.mem_cons_self
    refine ⟨(x.1, cs) :: pr, by simp [h1], ?_, ?_, ?_, ?_⟩
    · intro p hp
      rcases List.mem_cons.1 hp with rfl | hp
      · simp only; rw [hw.1]; exact hs
      · exact h2 p hp
    · intro p hp
      rcases List.mem_cons.1 hp with rfl | hp
      · exact hw.one
      · exact h3 p hp
    · simp only [totalB, sumB, List.map_cons, List.sum_cons, hw.1] at h4 ⊢
      rw [h4]
    · rw [List.flatMap_cons, sumB, List.map_cons, List.sum_cons]
      exact hw.app h5
theorem concatW (l : List (Value × Nat)) (v : Value) (M : Nat → Prop) (w : World) (hv : Sl M w v 1 l.length (l.map (·.1))) (h : ∀ p ∈ l, By w p.2 p.1) (hb : sumB l ≤ 100000) : Fx Tryz.prog 100 [v] w (fun u w' => By w' (sumB l) u ∧ Fresh w.heap.size u ∧ Grow w w') := by
  obtain ⟨pr, h1, h2, h3, h4, h5⟩ := byPairs l h
  have hl : pr.length = l.length := by have := congrArg List.length h1; simpa using this
  refine (concatB_ok No pr v w (by rw [hl, h1]; exact hv.noM) h2 h3 (by omega)).mono ?_
  rintro u w' ⟨hr, hf, hg⟩
  rw [h5.1] at hr
  exact ⟨By.row hr h5, hf, hg⟩
theorem putW (x : Int) (w : World) : Fx Tryz.prog 105 [.int .u64 x] w (fun u w' => By w' 8 u ∧ Grow w w') := by
  refine (putWord_ok x w).mono ?_
  rintro u w' ⟨g, ps, rfl, hB, hps, hg⟩
  exact ⟨⟨ps, hps, slBlk hB hps.1 (by decide) (fun h => h)⟩, hg⟩
theorem mBytes0_ok (w : World) : Fx Tryz.prog 101 [.slice none 0 0] w (fun u w' => By w' 1 u ∧ Grow w w') := by
  refine enter Tryz.func101 rfl rfl rfl _ (Pick.sub (l := [0]) (.cons rfl .nil)) ?_
  refine RK.seq ?_
  refine RK.region ?_
  refine RL.p rfl rfl ?_
  refine RL.done ?_
  iterate 2 refine RK.seq ?_
  refine RK.region ?_
  refine RL.p rfl rfl ?_
  refine RL.op (.free rfl) rfl rfl (Does.call rfl e134 (mlist0_ok _)) ?_
  rintro _ _ ⟨rfl, rfl⟩
  refine RL.p rfl rfl ?_
  refine RL.done ?_
  refine RK.condF (hcF rfl (rfl)) ?_
  refine RK.skip ?_
  refine RK.seq ?_
  refine RK.region ?_
  refine RL.p rfl rfl ?_
  refine RL.q (.free rfl) rfl rfl (Yld.lenSl u30 rfl) ?_
  refine RL.q (.free rfl) rfl rfl (Yld.convI Tryz.underlying3 Tryz.underlying24 rfl) ?_
  refine RL.op (.free rfl) rfl rfl (Does.call rfl e86 (vput_ok 0 (by decide) _)) ?_
  rintro u9 w9 ⟨hr9, hf9, hg9⟩
  refine RL.p rfl rfl ?_
  refine RL.done ?_
  iterate 2 refine RK.seq ?_
  refine RK.region ?_
  refine RL.p rfl rfl ?_
  refine RL.q (.free rfl) rfl rfl (Yld.lenSl u30 rfl) ?_
  refine RL.p rfl rfl ?_
  refine RL.done ?_
  refine RK.block ?_
  refine RK.loop (fun _ : Unit => [(13, .slice none 0 0), (14, .int .i64 0), (15, .int .i64 0), (3, u9)]) (fun _ w' => w9 = w') (fun _ => 0) () ⟨rfl, rfl, rfl, rfl, trivial⟩ rfl (fun _ w' hI ih => ?_)
  subst hI
  refine RK.seq ?_
  refine RK.region ?_
  refine RL.p rfl rfl ?_
  refine RL.done ?_
  refine RK.seq ?_
  refine RK.condF (hcF rfl (rfl)) ?_
  refine RK.exit rfl ?_
  refine RK.seq ?_
  refine RK.region ?_
  iterate 2 refine RL.p rfl rfl ?_
  refine RL.done ?_
  refine RK.ret_of Tryz.func101 (res1 rfl rfl) ?_ _
  exact ⟨_, rfl, (show (putB 0).length = 1 from by rw [putB]; rfl) ▸ By.rowB hr9, hg9⟩
theorem lBytes0_ok (w : World) : Fx Tryz.prog 104 [.slice none 0 0] w (fun u w' => By w' 0 u ∧ Grow w w') := by
  refine enter Tryz.func104 rfl rfl rfl _ (Pick.sub (l := [0]) (.cons rfl .nil)) ?_
  refine RK.seq ?_
  refine RK.region ?_
  refine RL.p rfl rfl ?_
  refine RL.done ?_
  iterate 2 refine RK.seq ?_
  refine RK.region ?_
  refine RL.p rfl rfl ?_
  refine RL.op (.free rfl) rfl rfl (Does.call rfl e179 (is_ok No [] _ _ (Sl.own (Row.nil _ 261 2) (fun _ _ h => h)))) ?_
  rintro _ w1 ⟨rfl, hg1⟩
  refine RL.p rfl rfl ?_
  refine RL.done ?_
  refine RK.condT (hcT rfl (by first | decide | simp [isS])) ?_
  refine RK.seq ?_
  refine RK.region ?_
  refine RL.p rfl rfl ?_
  refine RL.done ?_
  refine RK.ret_of Tryz.func104 (res1 rfl rfl) ?_ _
  exact ⟨_, rfl, ⟨[], ⟨rfl, fun i hi => absurd hi (Nat.not_lt_zero _)⟩, nilB _⟩, hg1⟩
theorem ruleIs0_ok (w : World) : Fx Tryz.prog 178 [.agg rule0.toArray] w (fun u w' => u = .bool false ∧ Grow w w') := by
  refine enter Tryz.func178 rfl rfl rfl _ (Pick.sub (l := [0]) (.cons rfl .nil)) ?_
  refine RK.seq ?_
  refine RK.region ?_
  refine RL.op (.free rfl) rfl rfl (Does.box rfl) ?_
  rintro _ w1 ⟨b1, rfl, hn1⟩
  have hB : Blk w1 b1 36 rule0 := hn1.blk
  refine RL.p rfl rfl ?_
  refine RL.done ?_
  iterate 2 refine RK.seq ?_
  refine RK.region ?_
  refine RL.q (.free rfl) rfl rfl (Yld.fieldAddr fo36_0 rfl) ?_
  refine RL.q (.free rfl) rfl rfl (Yld.load p30 rfl (at1 (hB.cell rfl))) ?_
  refine RL.q (.free rfl) rfl rfl (Yld.lenSl u30 rfl) ?_
  iterate 2 refine RL.p rfl rfl ?_
  refine RL.knownT (d := 9) rfl rfl (rfl) ?_
  iterate 4 refine RL.no (.no rfl rfl rfl rfl) rfl rfl ?_
  iterate 2 refine RL.p rfl rfl ?_
  iterate 4 refine RL.no (.no rfl rfl rfl rfl) rfl rfl ?_
  iterate 2 refine RL.p rfl rfl ?_
  iterate 4 refine RL.no (.no rfl rfl rfl rfl) rfl rfl ?_
  iterate 2 refine RL.p rfl rfl ?_
  iterate 4 refine RL.no (.no rfl rfl rfl rfl) rfl rfl ?_
  iterate 2 refine RL.p rfl rfl ?_
  iterate 4 refine RL.no (.no rfl rfl rfl rfl) rfl rfl ?_
  refine RL.p rfl rfl ?_
  refine RL.done ?_
  refine RK.condT rfl ?_
  refine RK.seq ?_
  refine RK.region ?_
  refine RL.p rfl rfl ?_
  refine RL.done ?_
  refine RK.ret_of Tryz.func178 (res1 rfl rfl) ?_ _
  exact ⟨_, rfl, rfl, hn1.grow⟩
theorem rBytes0_ok (w : World) : Fx Tryz.prog 103 [.agg rule0.toArray] w (fun u w' => By w' 0 u ∧ Grow w w') := by
  refine enter Tryz.func103 rfl rfl rfl _ (Pick.sub (l := [0]) (.cons rfl .nil)) ?_
  refine RK.seq ?_
  refine RK.region ?_
  refine RL.op (.free rfl) rfl rfl (Does.box rfl) ?_
  rintro _ w1 ⟨b1, rfl, hn1⟩
  have hB : Blk w1 b1 36 rule0 := hn1.blk
  refine RL.p rfl rfl ?_
  refine RL.done ?_
  iterate 2 refine RK.seq ?_
  refine RK.region ?_
  refine RL.q (.free rfl) rfl rfl (Yld.loadN (cs := rule0) a36 rfl (atN (blkV hB))) ?_
  refine RL.op (.free rfl) rfl rfl (Does.call rfl e178 (ruleIs0_ok _)) ?_
  rintro _ w2 ⟨rfl, hg2⟩
  refine RL.p rfl rfl ?_
  refine RL.done ?_
  refine RK.condT (hcT rfl (rfl)) ?_
  refine RK.seq ?_
  refine RK.region ?_
  refine RL.p rfl rfl ?_
  refine RL.done ?_
  refine RK.ret_of Tryz.func103 (res1 rfl rfl) ?_ _
  exact ⟨_, rfl, ⟨[], ⟨rfl, fun i hi => absurd hi (Nat.not_lt_zero _)⟩, nilB _⟩, hn1.grow.trans hg2⟩
theorem putBand0_ok (w : World) : Fx Tryz.prog 102 [.agg band0.toArray] w (fun u w' => By w' 17 u ∧ Grow w w') := by
  refine enter Tryz.func102 rfl rfl rfl _ (Pick.sub (l := [0]) (.cons rfl .nil)) ?_
  refine RK.seq ?_
  refine RK.region ?_
  refine RL.op (.free rfl) rfl rfl (Does.box rfl) ?_
  rintro _ w1 ⟨b1, rfl, hn1⟩
  have hB : Blk w1 b1 33 band0 := hn1.blk
  have hBd := hB.mod (Mod.drew No _) (fun h => h)
  refine RL.p rfl rfl ?_
  refine RL.done ?_
  iterate 2 refine RK.seq ?_
  refine RK.region ?_
  refine RL.q (.free rfl) rfl rfl (Yld.fieldAddr fo33_0 rfl) ?_
  refine RL.q (.free rfl) rfl rfl (Yld.load p4 rfl (at1 (hB.cell rfl))) ?_
  refine RL.done ?_
  refine RK.condF (hcF rfl (rfl)) ?_
  refine RK.skip ?_
  refine RK.seq ?_
  refine RK.drawT No (.op 1 false (.op 2 false (.op 5 false (.op 6 false (.fork 0 (.op 3 true (.op 4 true (.op 7 true (.op 8 true (.op 9 true (.op 10 true (.op 11 false .nil))))))) 3 (.fork 0 (.op 4 true (.op 7 true (.op 8 true (.op 9 true (.op 10 true (.op 11 false .nil)))))) 4 (.fork 0 (.op 7 true (.op 8 true (.op 9 true (.op 10 true (.op 11 false .nil))))) 7 (.fork 0 (.op 8 true (.op 9 true (.op 10 true (.op 11 false .nil)))) 8 (.op 0 true (.op 9 true (.op 10 true (.op 11 false .nil)))))))))))) [] mixed (by kernel_rfl) ?_
  refine DT.qf rfl (.free rfl) rfl rfl (Yld.fieldAddr fo33_1 rfl) ?_
  refine DT.q rfl (.free rfl) rfl rfl rfl (Yld.load p31 rfl (atM (hBd.cell rfl) id)) (Mod.drew _ _) ?_
  refine DT.qf rfl (.free rfl) rfl rfl (Yld.fieldAddr fo33_2 rfl) ?_
  refine DT.q rfl (.free rfl) rfl rfl rfl (Yld.load p31 rfl (atM (hBd.cell rfl) id)) (Mod.drew _ _) ?_
  refine DT.fork ?_ ?_
  · refine DT.op rfl (.free rfl) rfl rfl (Does.bslice (el := 5) ([.int .u8 0]) rfl (fun w => by kernel_rfl)) ?_
    rintro _ w21 ⟨b21, rfl, hn21⟩
    have hy21 : By w21 1 (.slice (some ⟨b21, 0, none⟩) 1 1) := ⟨_, WW.zero .u8 1, Sl.new hn21 1 1 rfl (by decide) (fun h => h)⟩
    refine ⟨(Mod.drew No _).trans hn21.grow, ?_⟩
    refine DT.op rfl (.free rfl) rfl rfl (Does.call rfl e106 (bits_ok _ _)) ?_
    rintro _ _ ⟨rfl, rfl⟩
    refine ⟨(Mod.drew No _).trans hn21.grow, ?_⟩
    refine DT.op rfl (.free rfl) rfl rfl (Does.call rfl e105 (putW _ _)) ?_
    rintro u23 w23 ⟨hy23, hg23⟩
    obtain ⟨a23, c23, rfl⟩ := hy23.shape
    refine ⟨((Mod.drew No _).trans hn21.grow).trans hg23, ?_⟩
    refine DT.op rfl (.free rfl) rfl rfl (Does.call rfl e106 (bits_ok _ _)) ?_
    rintro _ _ ⟨rfl, rfl⟩
    refine ⟨((Mod.drew No _).trans hn21.grow).trans hg23, ?_⟩
    refine DT.op rfl (.free rfl) rfl rfl (Does.call rfl e105 (putW _ _)) ?_
    rintro u25 w25 ⟨hy25, hg25⟩
    obtain ⟨a25, c25, rfl⟩ := hy25.shape
    refine ⟨(((Mod.drew No _).trans hn21.grow).trans hg23).trans hg25, ?_⟩
    refine DT.op rfl (.free rfl) rfl rfl (Does.bslice (el := 43) ([.slice (some ⟨b21, 0, none⟩) 1 1, .slice a23 8 c23, .slice a25 8 c25]) rfl (fun w => by kernel_rfl)) ?_
    rintro _ wT ⟨bT, rfl, hnT⟩
    refine ⟨((((Mod.drew No _).trans hn21.grow).trans hg23).trans hg25).trans hnT.grow, ?_⟩
    have hpr : ∀ p ∈ [((.slice (some ⟨b21, 0, none⟩) 1 1 : Value), 1), ((.slice a23 8 c23 : Value), 8), ((.slice a25 8 c25 : Value), 8)], By wT p.2 p.1 := by
        intro p hp
        simp only [List.mem_cons, List.not_mem_nil, or_false] at hp
        rcases hp with rfl | rfl | rfl
        · exact hy21.grow (((hg23).trans hg25).trans hnT.grow)
        · exact hy23.grow ((hg25).trans hnT.grow)
        · exact hy25.grow (hnT.grow)
    refine DT.op rfl (.free rfl) rfl rfl (Does.call rfl e100 (concatW _ _ No _ (Sl.new hnT 1 3 rfl (by decide) (fun h => h)) hpr (by simp [sumB]))) ?_
    rintro uZ wZ ⟨hyZ, hfZ, hgZ⟩
    refine ⟨(((((Mod.drew No _).trans hn21.grow).trans hg23).trans hg25).trans hnT.grow).trans hgZ, ?_⟩
    refine DT.p rfl rfl rfl ?_
    refine DT.done ?_
    refine RK.ret_of Tryz.func102 (res1 rfl rfl) ?_ _
    exact ⟨_, rfl, hyZ, hn1.grow.trans ((((((Mod.drew No _).trans hn21.grow).trans hg23).trans hg25).trans hnT.grow).trans hgZ)⟩
  · refine DT.op rfl (.free rfl) rfl rfl (Does.call rfl e106 (bits_ok _ _)) ?_
    rintro _ _ ⟨rfl, rfl⟩
    refine ⟨Mod.drew No _, ?_⟩
    refine DT.fork ?_ ?_
    · refine DT.op rfl (.free rfl) rfl rfl (Does.bslice (el := 5) ([.int .u8 0]) rfl (fun w => by kernel_rfl)) ?_
      rintro _ w22 ⟨b22, rfl, hn22⟩
      have hy22 : By w22 1 (.slice (some ⟨b22, 0, none⟩) 1 1) := ⟨_, WW.zero .u8 1, Sl.new hn22 1 1 rfl (by decide) (fun h => h)⟩
      refine ⟨(Mod.drew No _).trans hn22.grow, ?_⟩
      refine DT.op rfl (.free rfl) rfl rfl (Does.call rfl e105 (putW _ _)) ?_
      rintro u23 w23 ⟨hy23, hg23⟩
      obtain ⟨a23, c23, rfl⟩ := hy23.shape
      refine ⟨((Mod.drew No _).trans hn22.grow).trans hg23, ?_⟩
      refine DT.op rfl (.free rfl) rfl rfl (Does.call rfl e106 (bits_ok _ _)) ?_
      rintro _ _ ⟨rfl, rfl⟩
      refine ⟨((Mod.drew No _).trans hn22.grow).trans hg23, ?_⟩
      refine DT.op rfl (.free rfl) rfl rfl (Does.call rfl e105 (putW _ _)) ?_
      rintro u25 w25 ⟨hy25, hg25⟩
      obtain ⟨a25, c25, rfl⟩ := hy25.shape
      refine ⟨(((Mod.drew No _).trans hn22.grow).trans hg23).trans hg25, ?_⟩
      refine DT.op rfl (.free rfl) rfl rfl (Does.bslice (el := 43) ([.slice (some ⟨b22, 0, none⟩) 1 1, .slice a23 8 c23, .slice a25 8 c25]) rfl (fun w => by kernel_rfl)) ?_
      rintro _ wT ⟨bT, rfl, hnT⟩
      refine ⟨((((Mod.drew No _).trans hn22.grow).trans hg23).trans hg25).trans hnT.grow, ?_⟩
      have hpr : ∀ p ∈ [((.slice (some ⟨b22, 0, none⟩) 1 1 : Value), 1), ((.slice a23 8 c23 : Value), 8), ((.slice a25 8 c25 : Value), 8)], By wT p.2 p.1 := by
          intro p hp
          simp only [List.mem_cons, List.not_mem_nil, or_false] at hp
          rcases hp with rfl | rfl | rfl
          · exact hy22.grow (((hg23).trans hg25).trans hnT.grow)
          · exact hy23.grow ((hg25).trans hnT.grow)
          · exact hy25.grow (hnT.grow)
      refine DT.op rfl (.free rfl) rfl rfl (Does.call rfl e100 (concatW _ _ No _ (Sl.new hnT 1 3 rfl (by decide) (fun h => h)) hpr (by simp [sumB]))) ?_
      rintro uZ wZ ⟨hyZ, hfZ, hgZ⟩
      refine ⟨(((((Mod.drew No _).trans hn22.grow).trans hg23).trans hg25).trans hnT.grow).trans hgZ, ?_⟩
      refine DT.p rfl rfl rfl ?_
      refine DT.done ?_
      refine RK.ret_of Tryz.func102 (res1 rfl rfl) ?_ _
      exact ⟨_, rfl, hyZ, hn1.grow.trans ((((((Mod.drew No _).trans hn22.grow).trans hg23).trans hg25).trans hnT.grow).trans hgZ)⟩
    · refine DT.op rfl (.free rfl) rfl rfl (Does.call rfl e105 (putW _ _)) ?_
      rintro u22 w22 ⟨hy22, hg22⟩
      obtain ⟨a22, c22, rfl⟩ := hy22.shape
      refine ⟨(Mod.drew No _).trans hg22, ?_⟩
      refine DT.fork ?_ ?_
      · refine DT.op rfl (.free rfl) rfl rfl (Does.bslice (el := 5) ([.int .u8 0]) rfl (fun w => by kernel_rfl)) ?_
        rintro _ w23 ⟨b23, rfl, hn23⟩
        have hy23 : By w23 1 (.slice (some ⟨b23, 0, none⟩) 1 1) := ⟨_, WW.zero .u8 1, Sl.new hn23 1 1 rfl (by decide) (fun h => h)⟩
        refine ⟨((Mod.drew No _).trans hg22).trans hn23.grow, ?_⟩
        refine DT.op rfl (.free rfl) rfl rfl (Does.call rfl e106 (bits_ok _ _)) ?_
        rintro _ _ ⟨rfl, rfl⟩
        refine ⟨((Mod.drew No _).trans hg22).trans hn23.grow, ?_⟩
        refine DT.op rfl (.free rfl) rfl rfl (Does.call rfl e105 (putW _ _)) ?_
        rintro u25 w25 ⟨hy25, hg25⟩
        obtain ⟨a25, c25, rfl⟩ := hy25.shape
        refine ⟨(((Mod.drew No _).trans hg22).trans hn23.grow).trans hg25, ?_⟩
        refine DT.op rfl (.free rfl) rfl rfl (Does.bslice (el := 43) ([.slice (some ⟨b23, 0, none⟩) 1 1, .slice a22 8 c22, .slice a25 8 c25]) rfl (fun w => by kernel_rfl)) ?_
        rintro _ wT ⟨bT, rfl, hnT⟩
        refine ⟨((((Mod.drew No _).trans hg22).trans hn23.grow).trans hg25).trans hnT.grow, ?_⟩
        have hpr : ∀ p ∈ [((.slice (some ⟨b23, 0, none⟩) 1 1 : Value), 1), ((.slice a22 8 c22 : Value), 8), ((.slice a25 8 c25 : Value), 8)], By wT p.2 p.1 := by
            intro p hp
            simp only [List.mem_cons, List.not_mem_nil, or_false] at hp
            rcases hp with rfl | rfl | rfl
            · exact hy23.grow ((hg25).trans hnT.grow)
            · exact hy22.grow (((hn23.grow).trans hg25).trans hnT.grow)
            · exact hy25.grow (hnT.grow)
        refine DT.op rfl (.free rfl) rfl rfl (Does.call rfl e100 (concatW _ _ No _ (Sl.new hnT 1 3 rfl (by decide) (fun h => h)) hpr (by simp [sumB]))) ?_
        rintro uZ wZ ⟨hyZ, hfZ, hgZ⟩
        refine ⟨(((((Mod.drew No _).trans hg22).trans hn23.grow).trans hg25).trans hnT.grow).trans hgZ, ?_⟩
        refine DT.p rfl rfl rfl ?_
        refine DT.done ?_
        refine RK.ret_of Tryz.func102 (res1 rfl rfl) ?_ _
        exact ⟨_, rfl, hyZ, hn1.grow.trans ((((((Mod.drew No _).trans hg22).trans hn23.grow).trans hg25).trans hnT.grow).trans hgZ)⟩
      · refine DT.op rfl (.free rfl) rfl rfl (Does.call rfl e106 (bits_ok _ _)) ?_
        rintro _ _ ⟨rfl, rfl⟩
        refine ⟨(Mod.drew No _).trans hg22, ?_⟩
        refine DT.fork ?_ ?_
        · refine DT.op rfl (.free rfl) rfl rfl (Does.bslice (el := 5) ([.int .u8 0]) rfl (fun w => by kernel_rfl)) ?_
          rintro _ w24 ⟨b24, rfl, hn24⟩
          have hy24 : By w24 1 (.slice (some ⟨b24, 0, none⟩) 1 1) := ⟨_, WW.zero .u8 1, Sl.new hn24 1 1 rfl (by decide) (fun h => h)⟩
          refine ⟨((Mod.drew No _).trans hg22).trans hn24.grow, ?_⟩
          refine DT.op rfl (.free rfl) rfl rfl (Does.call rfl e105 (putW _ _)) ?_
          rintro u25 w25 ⟨hy25, hg25⟩
          obtain ⟨a25, c25, rfl⟩ := hy25.shape
          refine ⟨(((Mod.drew No _).trans hg22).trans hn24.grow).trans hg25, ?_⟩
          refine DT.op rfl (.free rfl) rfl rfl (Does.bslice (el := 43) ([.slice (some ⟨b24, 0, none⟩) 1 1, .slice a22 8 c22, .slice a25 8 c25]) rfl (fun w => by kernel_rfl)) ?_
          rintro _ wT ⟨bT, rfl, hnT⟩
          refine ⟨((((Mod.drew No _).trans hg22).trans hn24.grow).trans hg25).trans hnT.grow, ?_⟩
          have hpr : ∀ p ∈ [((.slice (some ⟨b24, 0, none⟩) 1 1 : Value), 1), ((.slice a22 8 c22 : Value), 8), ((.slice a25 8 c25 : Value), 8)], By wT p.2 p.1 := by
              intro p hp
              simp only [List.mem_cons, List.not_mem_nil, or_false] at hp
              rcases hp with rfl | rfl | rfl
              · exact hy24.grow ((hg25).trans hnT.grow)
              · exact hy22.grow (((hn24.grow).trans hg25).trans hnT.grow)
              · exact hy25.grow (hnT.grow)
          refine DT.op rfl (.free rfl) rfl rfl (Does.call rfl e100 (concatW _ _ No _ (Sl.new hnT 1 3 rfl (by decide) (fun h => h)) hpr (by simp [sumB]))) ?_
          rintro uZ wZ ⟨hyZ, hfZ, hgZ⟩
          refine ⟨(((((Mod.drew No _).trans hg22).trans hn24.grow).trans hg25).trans hnT.grow).trans hgZ, ?_⟩
          refine DT.p rfl rfl rfl ?_
          refine DT.done ?_
          refine RK.ret_of Tryz.func102 (res1 rfl rfl) ?_ _
          exact ⟨_, rfl, hyZ, hn1.grow.trans ((((((Mod.drew No _).trans hg22).trans hn24.grow).trans hg25).trans hnT.grow).trans hgZ)⟩
        · refine DT.op rfl (.free rfl) rfl rfl (Does.call rfl e105 (putW _ _)) ?_
          rintro u24 w24 ⟨hy24, hg24⟩
          obtain ⟨a24, c24, rfl⟩ := hy24.shape
          refine ⟨((Mod.drew No _).trans hg22).trans hg24, ?_⟩
          refine DT.op rfl (.free rfl) rfl rfl (Does.bslice (el := 5) ([.int .u8 0]) rfl (fun w => by kernel_rfl)) ?_
          rintro _ w25 ⟨b25, rfl, hn25⟩
          have hy25 : By w25 1 (.slice (some ⟨b25, 0, none⟩) 1 1) := ⟨_, WW.zero .u8 1, Sl.new hn25 1 1 rfl (by decide) (fun h => h)⟩
          refine ⟨(((Mod.drew No _).trans hg22).trans hg24).trans hn25.grow, ?_⟩
          refine DT.op rfl (.free rfl) rfl rfl (Does.bslice (el := 43) ([.slice (some ⟨b25, 0, none⟩) 1 1, .slice a22 8 c22, .slice a24 8 c24]) rfl (fun w => by kernel_rfl)) ?_
          rintro _ wT ⟨bT, rfl, hnT⟩
          refine ⟨((((Mod.drew No _).trans hg22).trans hg24).trans hn25.grow).trans hnT.grow, ?_⟩
          have hpr : ∀ p ∈ [((.slice (some ⟨b25, 0, none⟩) 1 1 : Value), 1), ((.slice a22 8 c22 : Value), 8), ((.slice a24 8 c24 : Value), 8)], By wT p.2 p.1 := by
              intro p hp
              simp only [List.mem_cons, List.not_mem_nil, or_false] at hp
              rcases hp with rfl | rfl | rfl
              · exact hy25.grow (hnT.grow)
              · exact hy22.grow (((hg24).trans hn25.grow).trans hnT.grow)
              · exact hy24.grow ((hn25.grow).trans hnT.grow)
          refine DT.op rfl (.free rfl) rfl rfl (Does.call rfl e100 (concatW _ _ No _ (Sl.new hnT 1 3 rfl (by decide) (fun h => h)) hpr (by simp [sumB]))) ?_
          rintro uZ wZ ⟨hyZ, hfZ, hgZ⟩
          refine ⟨(((((Mod.drew No _).trans hg22).trans hg24).trans hn25.grow).trans hnT.grow).trans hgZ, ?_⟩
          refine DT.p rfl rfl rfl ?_
          refine DT.done ?_
          refine RK.ret_of Tryz.func102 (res1 rfl rfl) ?_ _
          exact ⟨_, rfl, hyZ, hn1.grow.trans ((((((Mod.drew No _).trans hg22).trans hg24).trans hn25.grow).trans hnT.grow).trans hgZ)⟩
theorem recBytes_ok (i clk : Nat) (hi : i ≤ 1000) (hc : clk ≤ 1099511627776) (ad : Option Addr) (c : Nat) (w : World) (hv : Sl No w (.slice ad 1 c) 1 1 (bytesV [1])) (hcap : 1 ≤ c) : Fx Tryz.prog 107 [.agg (recC i clk (.slice ad 1 c)).toArray] w (fun u w' => ∃ n, n ≤ 100 ∧ By w' n u ∧ Grow w w') := by
  have hp1 := putB_len i (by omega)
  have hp2 := putB_len clk (by omega)
  have hp3 : (putT ⟨#[1]⟩).length ≤ 21 := by
    unfold putT; rw [List.length_append]; have := putB_len 1 (by decide); have e : (⟨#[1]⟩ : ByteArray).size = 1 := rfl; rw [e]; simp; omega
  have hp4 : sumB [(Value.int .u8 0, (putB i).length), (Value.int .u8 0, (putB clk).length), (Value.int .u8 0, (putT ⟨#[1]⟩).length), (Value.int .u8 0, 1)] ≤ 100 := by simp [sumB]; omega
  refine enter Tryz.func107 rfl rfl rfl _ (Pick.sub (l := [0]) (.cons rfl .nil)) ?_
  refine RK.seq ?_
  refine RK.region ?_
  refine RL.op (.free rfl) rfl rfl (Does.box rfl) ?_
  rintro _ w1 ⟨b1, rfl, hn1⟩
  have hB : Blk w1 b1 188 (recC i clk (.slice ad 1 c)) := hn1.blk
  refine RL.p rfl rfl ?_
  refine RL.done ?_
  iterate 2 refine RK.seq ?_
  refine RK.region ?_
  refine RL.q (.free rfl) rfl rfl (Yld.loadN (cs := recC i clk (.slice ad 1 c)) a188 rfl (atN (blkV hB))) ?_
  refine RL.op (.free rfl) rfl rfl (Does.call rfl e109 (recIs_ok i clk hi hc ad c _ (hv.mod hn1.grow) hcap)) ?_
  rintro _ w2 ⟨rfl, hg2⟩
  have hB2 := hB.mod hg2 (fun h => h)
  have hv2 := (hv.mod hn1.grow).mod hg2
  have hBd := hB2.mod (Mod.drew No _) (fun h => h)
  refine RL.p rfl rfl ?_
  refine RL.done ?_
  refine RK.condF (hcF rfl (rfl)) ?_
  refine RK.skip ?_
  refine RK.seq ?_
  refine RK.drawT No (.op 0 false (.op 1 false (.op 2 false (.op 4 false (.op 5 false (.op 7 false (.op 8 false (.op 9 false (.op 11 false (.op 12 false (.op 13 false (.fork 3 (.fork 6 (.fork 10 (.op 14 true (.op 15 true (.op 16 true (.op 17 false .nil)))) 14 (.op 10 true (.op 15 true (.op 16 true (.op 17 false .nil))))) 14 (.op 6 true (.op 10 true (.op 15 true (.op 16 true (.op 17 false .nil)))))) 14 (.op 3 true (.op 6 true (.op 10 true (.op 15 true (.op 16 true (.op 17 false .nil)))))))))))))))))) [] mixed (by kernel_rfl) ?_
  refine DT.qf rfl (.free rfl) rfl rfl (Yld.fieldAddr fo188_0 rfl) ?_
  refine DT.q rfl (.free rfl) rfl rfl rfl (Yld.load p3 rfl (atM (hBd.cell rfl) id)) (Mod.drew _ _) ?_
  refine DT.qf rfl (.free rfl) rfl rfl (Yld.convI Tryz.underlying3 Tryz.underlying24 rfl) ?_
  refine DT.re (d := 8) rfl rfl (congrArg (Value.int .u64) (wrap_u64 (x := i) (by omega))) ?_
  refine DT.qf rfl (.free rfl) rfl rfl (Yld.fieldAddr fo188_1 rfl) ?_
  refine DT.q rfl (.free rfl) rfl rfl rfl (Yld.load p24 rfl (atM (hBd.cell rfl) id)) (Mod.drew _ _) ?_
  refine DT.qf rfl (.free rfl) rfl rfl (Yld.fieldAddr fo188_2 rfl) ?_
  refine DT.q rfl (.free rfl) rfl rfl rfl (Yld.load p43 rfl (atM (hBd.cell rfl) id)) (Mod.drew _ _) ?_
  refine DT.q rfl (.free rfl) rfl rfl rfl (Yld.bytesSl (l := [1]) u43 Tryz.underlying5 Tryz.underlying9 rfl (fun w9 h9 => hv2.mod h9)) (Mod.drew _ _) ?_
  refine DT.qf rfl (.free rfl) rfl rfl (Yld.fieldAddr fo188_3 rfl) ?_
  refine DT.q rfl (.free rfl) rfl rfl rfl (Yld.load p40 rfl (atM (hBd.cell rfl) id)) (Mod.drew _ _) ?_
  refine DT.qf rfl (.free rfl) rfl rfl (Yld.convI Tryz.underlying40 Tryz.underlying5 rfl) ?_
  refine DT.fork ?_ ?_
  · refine DT.op rfl (.free rfl) rfl rfl (Does.call rfl e86 (vput_ok i (by omega) _)) ?_
    rintro u21 w21 ⟨hr21, hf21, hg21⟩
    have hy21 := By.rowB hr21
    obtain ⟨a21, c21, rfl⟩ := hy21.shape
    refine ⟨(Mod.drew No _).trans hg21, ?_⟩
    refine DT.fork ?_ ?_
    · refine DT.op rfl (.free rfl) rfl rfl (Does.call rfl e86 (vput_ok clk (by omega) _)) ?_
      rintro u22 w22 ⟨hr22, hf22, hg22⟩
      have hy22 := By.rowB hr22
      obtain ⟨a22, c22, rfl⟩ := hy22.shape
      refine ⟨((Mod.drew No _).trans hg21).trans hg22, ?_⟩
      refine DT.fork ?_ ?_
      · refine DT.op rfl (.free rfl) rfl rfl (Does.call rfl e89 (putT_ok _ (by decide) _)) ?_
        rintro u23 w23 ⟨hr23, hf23, hg23⟩
        have hy23 := By.rowB hr23
        obtain ⟨a23, c23, rfl⟩ := hy23.shape
        refine ⟨(((Mod.drew No _).trans hg21).trans hg22).trans hg23, ?_⟩
        refine DT.op rfl (.free rfl) rfl rfl (Does.bslice (el := 5) ([.int .u8 0]) rfl (fun w => by kernel_rfl)) ?_
        rintro _ w24 ⟨b24, rfl, hn24⟩
        have hy24 : By w24 1 (.slice (some ⟨b24, 0, none⟩) 1 1) := ⟨_, WW.zero .u8 1, Sl.new hn24 1 1 rfl (by decide) (fun h => h)⟩
        refine ⟨((((Mod.drew No _).trans hg21).trans hg22).trans hg23).trans hn24.grow, ?_⟩
        refine DT.op rfl (.free rfl) rfl rfl (Does.bslice (el := 43) ([.slice a21 (putB i).length c21, .slice a22 (putB clk).length c22, .slice a23 (putT ⟨#[1]⟩).length c23, .slice (some ⟨b24, 0, none⟩) 1 1]) rfl (fun w => by kernel_rfl)) ?_
        rintro _ wT ⟨bT, rfl, hnT⟩
        refine ⟨(((((Mod.drew No _).trans hg21).trans hg22).trans hg23).trans hn24.grow).trans hnT.grow, ?_⟩
        have hpr : ∀ p ∈ [((.slice a21 (putB i).length c21 : Value), (putB i).length), ((.slice a22 (putB clk).length c22 : Value), (putB clk).length), ((.slice a23 (putT ⟨#[1]⟩).length c23 : Value), (putT ⟨#[1]⟩).length), ((.slice (some ⟨b24, 0, none⟩) 1 1 : Value), 1)], By wT p.2 p.1 := by
            intro p hp
            simp only [List.mem_cons, List.not_mem_nil, or_false] at hp
            rcases hp with rfl | rfl | rfl | rfl
            · exact hy21.grow ((((hg22).trans hg23).trans hn24.grow).trans hnT.grow)
            · exact hy22.grow (((hg23).trans hn24.grow).trans hnT.grow)
            · exact hy23.grow ((hn24.grow).trans hnT.grow)
            · exact hy24.grow (hnT.grow)
        refine DT.op rfl (.free rfl) rfl rfl (Does.call rfl e100 (concatW _ _ No _ (Sl.new hnT 1 4 rfl (by decide) (fun h => h)) hpr (Nat.le_trans hp4 (by decide)))) ?_
        rintro uZ wZ ⟨hyZ, hfZ, hgZ⟩
        refine ⟨((((((Mod.drew No _).trans hg21).trans hg22).trans hg23).trans hn24.grow).trans hnT.grow).trans hgZ, ?_⟩
        refine DT.p rfl rfl rfl ?_
        refine DT.done ?_
        refine RK.ret_of Tryz.func107 (res1 rfl rfl) ?_ _
        exact ⟨_, rfl, _, hp4, hyZ, (hn1.grow.trans hg2).trans (((((((Mod.drew No _).trans hg21).trans hg22).trans hg23).trans hn24.grow).trans hnT.grow).trans hgZ)⟩
      · refine DT.op rfl (.free rfl) rfl rfl (Does.bslice (el := 5) ([.int .u8 0]) rfl (fun w => by kernel_rfl)) ?_
        rintro _ w23 ⟨b23, rfl, hn23⟩
        have hy23 : By w23 1 (.slice (some ⟨b23, 0, none⟩) 1 1) := ⟨_, WW.zero .u8 1, Sl.new hn23 1 1 rfl (by decide) (fun h => h)⟩
        refine ⟨(((Mod.drew No _).trans hg21).trans hg22).trans hn23.grow, ?_⟩
        refine DT.op rfl (.free rfl) rfl rfl (Does.call rfl e89 (putT_ok _ (by decide) _)) ?_
        rintro u24 w24 ⟨hr24, hf24, hg24⟩
        have hy24 := By.rowB hr24
        obtain ⟨a24, c24, rfl⟩ := hy24.shape
        refine ⟨((((Mod.drew No _).trans hg21).trans hg22).trans hn23.grow).trans hg24, ?_⟩
        refine DT.op rfl (.free rfl) rfl rfl (Does.bslice (el := 43) ([.slice a21 (putB i).length c21, .slice a22 (putB clk).length c22, .slice a24 (putT ⟨#[1]⟩).length c24, .slice (some ⟨b23, 0, none⟩) 1 1]) rfl (fun w => by kernel_rfl)) ?_
        rintro _ wT ⟨bT, rfl, hnT⟩
        refine ⟨(((((Mod.drew No _).trans hg21).trans hg22).trans hn23.grow).trans hg24).trans hnT.grow, ?_⟩
        have hpr : ∀ p ∈ [((.slice a21 (putB i).length c21 : Value), (putB i).length), ((.slice a22 (putB clk).length c22 : Value), (putB clk).length), ((.slice a24 (putT ⟨#[1]⟩).length c24 : Value), (putT ⟨#[1]⟩).length), ((.slice (some ⟨b23, 0, none⟩) 1 1 : Value), 1)], By wT p.2 p.1 := by
            intro p hp
            simp only [List.mem_cons, List.not_mem_nil, or_false] at hp
            rcases hp with rfl | rfl | rfl | rfl
            · exact hy21.grow ((((hg22).trans hn23.grow).trans hg24).trans hnT.grow)
            · exact hy22.grow (((hn23.grow).trans hg24).trans hnT.grow)
            · exact hy24.grow (hnT.grow)
            · exact hy23.grow ((hg24).trans hnT.grow)
        refine DT.op rfl (.free rfl) rfl rfl (Does.call rfl e100 (concatW _ _ No _ (Sl.new hnT 1 4 rfl (by decide) (fun h => h)) hpr (Nat.le_trans hp4 (by decide)))) ?_
        rintro uZ wZ ⟨hyZ, hfZ, hgZ⟩
        refine ⟨((((((Mod.drew No _).trans hg21).trans hg22).trans hn23.grow).trans hg24).trans hnT.grow).trans hgZ, ?_⟩
        refine DT.p rfl rfl rfl ?_
        refine DT.done ?_
        refine RK.ret_of Tryz.func107 (res1 rfl rfl) ?_ _
        exact ⟨_, rfl, _, hp4, hyZ, (hn1.grow.trans hg2).trans (((((((Mod.drew No _).trans hg21).trans hg22).trans hn23.grow).trans hg24).trans hnT.grow).trans hgZ)⟩
    · refine DT.op rfl (.free rfl) rfl rfl (Does.bslice (el := 5) ([.int .u8 0]) rfl (fun w => by kernel_rfl)) ?_
      rintro _ w22 ⟨b22, rfl, hn22⟩
      have hy22 : By w22 1 (.slice (some ⟨b22, 0, none⟩) 1 1) := ⟨_, WW.zero .u8 1, Sl.new hn22 1 1 rfl (by decide) (fun h => h)⟩
      refine ⟨((Mod.drew No _).trans hg21).trans hn22.grow, ?_⟩
      refine DT.op rfl (.free rfl) rfl rfl (Does.call rfl e86 (vput_ok clk (by omega) _)) ?_
      rintro u23 w23 ⟨hr23, hf23, hg23⟩
      have hy23 := By.rowB hr23
      obtain ⟨a23, c23, rfl⟩ := hy23.shape
      refine ⟨(((Mod.drew No _).trans hg21).trans hn22.grow).trans hg23, ?_⟩
      refine DT.op rfl (.free rfl) rfl rfl (Does.call rfl e89 (putT_ok _ (by decide) _)) ?_
      rintro u24 w24 ⟨hr24, hf24, hg24⟩
      have hy24 := By.rowB hr24
      obtain ⟨a24, c24, rfl⟩ := hy24.shape
      refine ⟨((((Mod.drew No _).trans hg21).trans hn22.grow).trans hg23).trans hg24, ?_⟩
      refine DT.op rfl (.free rfl) rfl rfl (Does.bslice (el := 43) ([.slice a21 (putB i).length c21, .slice a23 (putB clk).length c23, .slice a24 (putT ⟨#[1]⟩).length c24, .slice (some ⟨b22, 0, none⟩) 1 1]) rfl (fun w => by kernel_rfl)) ?_
      rintro _ wT ⟨bT, rfl, hnT⟩
      refine ⟨(((((Mod.drew No _).trans hg21).trans hn22.grow).trans hg23).trans hg24).trans hnT.grow, ?_⟩
      have hpr : ∀ p ∈ [((.slice a21 (putB i).length c21 : Value), (putB i).length), ((.slice a23 (putB clk).length c23 : Value), (putB clk).length), ((.slice a24 (putT ⟨#[1]⟩).length c24 : Value), (putT ⟨#[1]⟩).length), ((.slice (some ⟨b22, 0, none⟩) 1 1 : Value), 1)], By wT p.2 p.1 := by
          intro p hp
          simp only [List.mem_cons, List.not_mem_nil, or_false] at hp
          rcases hp with rfl | rfl | rfl | rfl
          · exact hy21.grow ((((hn22.grow).trans hg23).trans hg24).trans hnT.grow)
          · exact hy23.grow ((hg24).trans hnT.grow)
          · exact hy24.grow (hnT.grow)
          · exact hy22.grow (((hg23).trans hg24).trans hnT.grow)
      refine DT.op rfl (.free rfl) rfl rfl (Does.call rfl e100 (concatW _ _ No _ (Sl.new hnT 1 4 rfl (by decide) (fun h => h)) hpr (Nat.le_trans hp4 (by decide)))) ?_
      rintro uZ wZ ⟨hyZ, hfZ, hgZ⟩
      refine ⟨((((((Mod.drew No _).trans hg21).trans hn22.grow).trans hg23).trans hg24).trans hnT.grow).trans hgZ, ?_⟩
      refine DT.p rfl rfl rfl ?_
      refine DT.done ?_
      refine RK.ret_of Tryz.func107 (res1 rfl rfl) ?_ _
      exact ⟨_, rfl, _, hp4, hyZ, (hn1.grow.trans hg2).trans (((((((Mod.drew No _).trans hg21).trans hn22.grow).trans hg23).trans hg24).trans hnT.grow).trans hgZ)⟩
  · refine DT.op rfl (.free rfl) rfl rfl (Does.bslice (el := 5) ([.int .u8 0]) rfl (fun w => by kernel_rfl)) ?_
    rintro _ w21 ⟨b21, rfl, hn21⟩
    have hy21 : By w21 1 (.slice (some ⟨b21, 0, none⟩) 1 1) := ⟨_, WW.zero .u8 1, Sl.new hn21 1 1 rfl (by decide) (fun h => h)⟩
    refine ⟨(Mod.drew No _).trans hn21.grow, ?_⟩
    refine DT.op rfl (.free rfl) rfl rfl (Does.call rfl e86 (vput_ok i (by omega) _)) ?_
    rintro u22 w22 ⟨hr22, hf22, hg22⟩
    have hy22 := By.rowB hr22
    obtain ⟨a22, c22, rfl⟩ := hy22.shape
    refine ⟨((Mod.drew No _).trans hn21.grow).trans hg22, ?_⟩
    refine DT.op rfl (.free rfl) rfl rfl (Does.call rfl e86 (vput_ok clk (by omega) _)) ?_
    rintro u23 w23 ⟨hr23, hf23, hg23⟩
    have hy23 := By.rowB hr23
    obtain ⟨a23, c23, rfl⟩ := hy23.shape
    refine ⟨(((Mod.drew No _).trans hn21.grow).trans hg22).trans hg23, ?_⟩
    refine DT.op rfl (.free rfl) rfl rfl (Does.call rfl e89 (putT_ok _ (by decide) _)) ?_
    rintro u24 w24 ⟨hr24, hf24, hg24⟩
    have hy24 := By.rowB hr24
    obtain ⟨a24, c24, rfl⟩ := hy24.shape
    refine ⟨((((Mod.drew No _).trans hn21.grow).trans hg22).trans hg23).trans hg24, ?_⟩
    refine DT.op rfl (.free rfl) rfl rfl (Does.bslice (el := 43) ([.slice a22 (putB i).length c22, .slice a23 (putB clk).length c23, .slice a24 (putT ⟨#[1]⟩).length c24, .slice (some ⟨b21, 0, none⟩) 1 1]) rfl (fun w => by kernel_rfl)) ?_
    rintro _ wT ⟨bT, rfl, hnT⟩
    refine ⟨(((((Mod.drew No _).trans hn21.grow).trans hg22).trans hg23).trans hg24).trans hnT.grow, ?_⟩
    have hpr : ∀ p ∈ [((.slice a22 (putB i).length c22 : Value), (putB i).length), ((.slice a23 (putB clk).length c23 : Value), (putB clk).length), ((.slice a24 (putT ⟨#[1]⟩).length c24 : Value), (putT ⟨#[1]⟩).length), ((.slice (some ⟨b21, 0, none⟩) 1 1 : Value), 1)], By wT p.2 p.1 := by
        intro p hp
        simp only [List.mem_cons, List.not_mem_nil, or_false] at hp
        rcases hp with rfl | rfl | rfl | rfl
        · exact hy22.grow (((hg23).trans hg24).trans hnT.grow)
        · exact hy23.grow ((hg24).trans hnT.grow)
        · exact hy24.grow (hnT.grow)
        · exact hy21.grow ((((hg22).trans hg23).trans hg24).trans hnT.grow)
    refine DT.op rfl (.free rfl) rfl rfl (Does.call rfl e100 (concatW _ _ No _ (Sl.new hnT 1 4 rfl (by decide) (fun h => h)) hpr (Nat.le_trans hp4 (by decide)))) ?_
    rintro uZ wZ ⟨hyZ, hfZ, hgZ⟩
    refine ⟨((((((Mod.drew No _).trans hn21.grow).trans hg22).trans hg23).trans hg24).trans hnT.grow).trans hgZ, ?_⟩
    refine DT.p rfl rfl rfl ?_
    refine DT.done ?_
    refine RK.ret_of Tryz.func107 (res1 rfl rfl) ?_ _
    exact ⟨_, rfl, _, hp4, hyZ, (hn1.grow.trans hg2).trans (((((((Mod.drew No _).trans hn21.grow).trans hg22).trans hg23).trans hg24).trans hnT.grow).trans hgZ)⟩
theorem link_ok (ds : List Value) (hds : WW .u8 32 ds) (n : Nat) (hn : n ≤ 1000) (v : Value) (w : World) (hv : By w n v) : Fx Tryz.prog 110 [.agg ds.toArray, v] w (fun u w' => By w' (33 + n) u ∧ Grow w w') := by
  obtain ⟨a0, c0, rfl⟩ := hv.shape
  refine enter Tryz.func110 rfl rfl rfl _ (Pick.sub (l := [0, 1]) (.cons rfl (.cons rfl .nil))) ?_
  refine RK.seq ?_
  refine RK.region ?_
  refine RL.op (.free rfl) rfl rfl (Does.box rfl) ?_
  rintro _ w2 ⟨b2, rfl, hn2⟩
  have hB : Blk w2 b2 44 ds := hn2.blk
  refine RL.p rfl rfl ?_
  refine RL.done ?_
  refine RK.seq ?_
  refine RK.region ?_
  refine RL.op (.free rfl) rfl rfl (Does.bslice (el := 5) ([.int .u8 1]) rfl (fun w => by kernel_rfl)) ?_
  rintro _ w5 ⟨b5, rfl, hn5⟩
  refine RL.q (.free rfl) rfl rfl (Yld.sliceArr Tryz.underlying44 i5 rfl) ?_
  refine RL.p rfl rfl ?_
  refine RL.op (.free rfl) rfl rfl (Does.bslice (el := 43) ([.slice (some ⟨b5, 0, none⟩) 1 1, .slice (some ⟨b2, 0, none⟩) 32 32, .slice a0 n c0]) rfl (fun w => by kernel_rfl)) ?_
  rintro _ wT ⟨bT, rfl, hnT⟩
  have hy5 : By w5 1 (.slice (some ⟨b5, 0, none⟩) 1 1) := By.rowB (l := [1]) (Row.new hn5 1 1 rfl (by omega))
  have hy6 : By w2 32 (.slice (some ⟨b2, 0, none⟩) 32 32) := ⟨_, hds, slBlk hB hds.1 (by decide) (fun h => h)⟩
  have hpr : ∀ p ∈ [((.slice (some ⟨b5, 0, none⟩) 1 1 : Value), 1), (.slice (some ⟨b2, 0, none⟩) 32 32, 32), (.slice a0 n c0, n)], By wT p.2 p.1 := by
      intro p hp
      simp only [List.mem_cons, List.not_mem_nil, or_false] at hp
      rcases hp with rfl | rfl | rfl
      · exact hy5.grow hnT.grow
      · exact hy6.grow (hn5.grow.trans hnT.grow)
      · exact hv.grow ((hn2.grow.trans hn5.grow).trans hnT.grow)
  refine RL.op (.free rfl) rfl rfl (Does.call rfl e100 (concatW _ _ No _ (Sl.new hnT 1 3 rfl (by decide) (fun h => h)) hpr (by simp [sumB]; omega))) ?_
  rintro uZ wZ ⟨hyZ, hfZ, hgZ⟩
  have hs : sumB [((.slice (some ⟨b5, 0, none⟩) 1 1 : Value), 1), (.slice (some ⟨b2, 0, none⟩) 32 32, 32), (.slice a0 n c0, n)] = 33 + n := by simp [sumB]; omega
  refine RL.p rfl rfl ?_
  refine RL.done ?_
  refine RK.ret_of Tryz.func110 (res1 rfl rfl) ?_ _
  exact ⟨_, rfl, hs ▸ hyZ, ((hn2.grow.trans hn5.grow).trans hnT.grow).trans hgZ⟩
end Go.Proofs.YtnnmgfnhblbolaaGreatDoor
set_option linter.unusedVariables false
set_option linter.unusedSimpArgs false
set_option maxHeartbeats 6400000
set_option maxRecDepth 100000
namespace Go.Proofs.YtnnmgfnhblbolaaGreatDoor
open Go Go.X
theorem reqZeroK_ok (tok : ByteArray) (op : Int) (w : World) : Fx Tryz.prog 175 [.agg (reqC tok op).toArray, .int .i64 0] w (fun u w' => u = .bool true ∧ Grow w w') := by
  refine enter Tryz.func175 rfl rfl rfl _ (Pick.sub (l := [0, 1]) (.cons rfl (.cons rfl .nil))) ?_
  refine RK.seq ?_
  refine RK.region ?_
  refine RL.op (.free rfl) rfl rfl (Does.box rfl) ?_
  rintro _ w1 ⟨b1, rfl, hn1⟩
  have hB : Blk w1 b1 39 (reqC tok op) := hn1.blk
  refine RL.p rfl rfl ?_
  refine RL.done ?_
  refine RK.seq ?_
  refine RK.region ?_
  iterate 4 refine RL.p rfl rfl ?_
  refine RL.knownF (d := 8) rfl rfl (by first | rfl | decide) ?_
  refine RL.q (.yes rfl rfl rfl) rfl rfl (Yld.fieldAddr fo39_2 rfl) ?_
  refine RL.q (.yes rfl rfl rfl) rfl rfl (Yld.load p3 rfl (at1 (hB.cell rfl))) ?_
  refine RL.q (.yes rfl rfl rfl) rfl rfl (Yld.pure rfl) ?_
  iterate 2 refine RL.p rfl rfl ?_
  refine RL.knownT (d := 13) rfl rfl (by first | rfl | decide) ?_
  iterate 4 refine RL.q (.yes rfl rfl rfl) rfl rfl (Yld.pure rfl) ?_
  refine RL.knownF (d := 17) rfl rfl (by first | rfl | decide) ?_
  refine RL.q (.yes rfl rfl rfl) rfl rfl (Yld.fieldAddr fo39_3 rfl) ?_
  refine RL.q (.yes rfl rfl rfl) rfl rfl (Yld.load p9 rfl (at1 (hB.cell rfl))) ?_
  iterate 2 refine RL.q (.yes rfl rfl rfl) rfl rfl (Yld.pure rfl) ?_
  iterate 2 refine RL.p rfl rfl ?_
  refine RL.knownT (d := 23) rfl rfl (by first | rfl | decide) ?_
  iterate 4 refine RL.q (.yes rfl rfl rfl) rfl rfl (Yld.pure rfl) ?_
  refine RL.knownF (d := 27) rfl rfl (by first | rfl | decide) ?_
  refine RL.q (.yes rfl rfl rfl) rfl rfl (Yld.fieldAddr fo39_4 rfl) ?_
  refine RL.q (.yes rfl rfl rfl) rfl rfl (Yld.load p24 rfl (at1 (hB.cell rfl))) ?_
  iterate 2 refine RL.q (.yes rfl rfl rfl) rfl rfl (Yld.pure rfl) ?_
  refine RL.knownT (d := 31) rfl rfl (by first | rfl | decide) ?_
  refine RL.q (.yes rfl rfl rfl) rfl rfl (Yld.fieldAddr fo39_5 rfl) ?_
  refine RL.q (.yes rfl rfl rfl) rfl rfl (Yld.load p24 rfl (at1 (hB.cell rfl))) ?_
  iterate 3 refine RL.q (.yes rfl rfl rfl) rfl rfl (Yld.pure rfl) ?_
  iterate 2 refine RL.p rfl rfl ?_
  refine RL.knownT (d := 38) rfl rfl (by first | rfl | decide) ?_
  iterate 4 refine RL.q (.yes rfl rfl rfl) rfl rfl (Yld.pure rfl) ?_
  refine RL.knownF (d := 42) rfl rfl (by first | rfl | decide) ?_
  refine RL.q (.yes rfl rfl rfl) rfl rfl (Yld.fieldAddr fo39_6 rfl) ?_
  refine RL.q (.yes rfl rfl rfl) rfl rfl (Yld.load p3 rfl (at1 (hB.cell rfl))) ?_
  iterate 2 refine RL.q (.yes rfl rfl rfl) rfl rfl (Yld.pure rfl) ?_
  iterate 2 refine RL.p rfl rfl ?_
  refine RL.knownT (d := 48) rfl rfl (by first | rfl | decide) ?_
  iterate 4 refine RL.q (.yes rfl rfl rfl) rfl rfl (Yld.pure rfl) ?_
  refine RL.knownF (d := 52) rfl rfl (by first | rfl | decide) ?_
  refine RL.q (.yes rfl rfl rfl) rfl rfl (Yld.fieldAddr fo39_7 rfl) ?_
  refine RL.q (.yes rfl rfl rfl) rfl rfl (Yld.load p30 rfl (at1 (hB.cell rfl))) ?_
  refine RL.q (.yes rfl rfl rfl) rfl rfl (Yld.lenSl u30 rfl) ?_
  iterate 2 refine RL.q (.yes rfl rfl rfl) rfl rfl (Yld.pure rfl) ?_
  iterate 2 refine RL.p rfl rfl ?_
  refine RL.knownT (d := 59) rfl rfl (by first | rfl | decide) ?_
  iterate 4 refine RL.q (.yes rfl rfl rfl) rfl rfl (Yld.pure rfl) ?_
  refine RL.knownF (d := 63) rfl rfl (by first | rfl | decide) ?_
  refine RL.q (.yes rfl rfl rfl) rfl rfl (Yld.fieldAddr fo39_8 rfl) ?_
  refine RL.q (.yes rfl rfl rfl) rfl rfl (Yld.loadN (cs := band0) a33 rfl (atN (fldV hB 8 3))) ?_
  refine RL.op (.yes rfl rfl rfl) rfl rfl (Does.call rfl e240 (noBand0_ok _)) ?_
  rintro _ w2 ⟨rfl, hg2⟩
  have hB2 := hB.mod hg2 (fun h => h)
  refine RL.q (.yes rfl rfl rfl) rfl rfl (Yld.pure rfl) ?_
  iterate 2 refine RL.p rfl rfl ?_
  refine RL.knownT (d := 69) rfl rfl (by first | rfl | decide) ?_
  iterate 4 refine RL.q (.yes rfl rfl rfl) rfl rfl (Yld.pure rfl) ?_
  refine RL.knownF (d := 73) rfl rfl (by first | rfl | decide) ?_
  refine RL.q (.yes rfl rfl rfl) rfl rfl (Yld.fieldAddr fo39_9 rfl) ?_
  refine RL.q (.yes rfl rfl rfl) rfl rfl (Yld.loadN (cs := rule0) a36 rfl (atN (fldV hB2 11 6))) ?_
  refine RL.op (.yes rfl rfl rfl) rfl rfl (Does.call rfl e241 (noRule0_ok _)) ?_
  rintro _ w3 ⟨rfl, hg3⟩
  have hB3 := hB2.mod hg3 (fun h => h)
  refine RL.q (.yes rfl rfl rfl) rfl rfl (Yld.pure rfl) ?_
  iterate 2 refine RL.p rfl rfl ?_
  refine RL.knownT (d := 79) rfl rfl (by first | rfl | decide) ?_
  iterate 4 refine RL.q (.yes rfl rfl rfl) rfl rfl (Yld.pure rfl) ?_
  refine RL.knownF (d := 83) rfl rfl (by first | rfl | decide) ?_
  refine RL.q (.yes rfl rfl rfl) rfl rfl (Yld.fieldAddr fo39_10 rfl) ?_
  refine RL.q (.yes rfl rfl rfl) rfl rfl (Yld.load p37 rfl (at1 (hB3.cell rfl))) ?_
  refine RL.q (.yes rfl rfl rfl) rfl rfl (Yld.lenSl u37 rfl) ?_
  iterate 2 refine RL.q (.yes rfl rfl rfl) rfl rfl (Yld.pure rfl) ?_
  iterate 2 refine RL.p rfl rfl ?_
  refine RL.knownT (d := 90) rfl rfl (by first | rfl | decide) ?_
  iterate 4 refine RL.q (.yes rfl rfl rfl) rfl rfl (Yld.pure rfl) ?_
  refine RL.knownF (d := 94) rfl rfl (by first | rfl | decide) ?_
  refine RL.q (.yes rfl rfl rfl) rfl rfl (Yld.fieldAddr fo39_11 rfl) ?_
  refine RL.q (.yes rfl rfl rfl) rfl rfl (Yld.load p31 rfl (at1 (hB3.cell rfl))) ?_
  refine RL.op (.yes rfl rfl rfl) rfl rfl (Does.call rfl e242 (nought0_ok _)) ?_
  rintro _ _ ⟨rfl, rfl⟩
  refine RL.q (.yes rfl rfl rfl) rfl rfl (Yld.pure rfl) ?_
  iterate 2 refine RL.p rfl rfl ?_
  refine RL.done ?_
  refine RK.ret_of Tryz.func175 (res1 rfl rfl) ?_ _
  exact ⟨_, rfl, rfl, (hn1.grow.trans hg2).trans hg3⟩
theorem reqRightK_ok (tok : ByteArray) (op : Int) (w : World) : Fx Tryz.prog 176 [.agg (reqC tok op).toArray, .int .i64 0] w (fun u w' => u = .bool true ∧ Grow w w') := by
  refine enter Tryz.func176 rfl rfl rfl _ (Pick.sub (l := [0, 1]) (.cons rfl (.cons rfl .nil))) ?_
  refine RK.seq ?_
  refine RK.region ?_
  refine RL.op (.free rfl) rfl rfl (Does.box rfl) ?_
  rintro _ w1 ⟨b1, rfl, hn1⟩
  have hB : Blk w1 b1 39 (reqC tok op) := hn1.blk
  refine RL.p rfl rfl ?_
  refine RL.done ?_
  refine RK.seq ?_
  refine RK.region ?_
  refine RL.q (.free rfl) rfl rfl (Yld.fieldAddr fo39_2 rfl) ?_
  refine RL.q (.free rfl) rfl rfl (Yld.load p3 rfl (at1 (hB.cell rfl))) ?_
  iterate 2 refine RL.p rfl rfl ?_
  refine RL.knownT (d := 8) rfl rfl (by first | rfl | decide) ?_
  refine RL.q (.yes rfl rfl rfl) rfl rfl (Yld.fieldAddr fo39_2 rfl) ?_
  refine RL.q (.yes rfl rfl rfl) rfl rfl (Yld.load p3 rfl (at1 (hB.cell rfl))) ?_
  refine RL.q (.yes rfl rfl rfl) rfl rfl (Yld.pure rfl) ?_
  iterate 2 refine RL.p rfl rfl ?_
  refine RL.knownT (d := 13) rfl rfl (by first | rfl | decide) ?_
  iterate 4 refine RL.q (.yes rfl rfl rfl) rfl rfl (Yld.pure rfl) ?_
  refine RL.knownT (d := 17) rfl rfl (by first | rfl | decide) ?_
  iterate 3 refine RL.no (.no rfl rfl rfl rfl) rfl rfl ?_
  refine RL.q (.yes rfl rfl rfl) rfl rfl (Yld.pure rfl) ?_
  iterate 2 refine RL.p rfl rfl ?_
  refine RL.q (.yes rfl rfl rfl) rfl rfl (Yld.fieldAddr fo39_4 rfl) ?_
  refine RL.q (.yes rfl rfl rfl) rfl rfl (Yld.load p24 rfl (at1 (hB.cell rfl))) ?_
  refine RL.q (.yes rfl rfl rfl) rfl rfl (Yld.pure rfl) ?_
  iterate 2 refine RL.p rfl rfl ?_
  refine RL.knownT (d := 28) rfl rfl (by first | rfl | decide) ?_
  refine RL.q (.yes rfl rfl rfl) rfl rfl (Yld.fieldAddr fo39_5 rfl) ?_
  refine RL.q (.yes rfl rfl rfl) rfl rfl (Yld.load p24 rfl (at1 (hB.cell rfl))) ?_
  refine RL.q (.yes rfl rfl rfl) rfl rfl (Yld.pure rfl) ?_
  iterate 2 refine RL.p rfl rfl ?_
  refine RL.knownT (d := 33) rfl rfl (by first | rfl | decide) ?_
  refine RL.q (.yes rfl rfl rfl) rfl rfl (Yld.fieldAddr fo39_6 rfl) ?_
  refine RL.q (.yes rfl rfl rfl) rfl rfl (Yld.load p3 rfl (at1 (hB.cell rfl))) ?_
  refine RL.q (.yes rfl rfl rfl) rfl rfl (Yld.pure rfl) ?_
  iterate 2 refine RL.p rfl rfl ?_
  refine RL.knownT (d := 38) rfl rfl (by first | rfl | decide) ?_
  refine RL.q (.yes rfl rfl rfl) rfl rfl (Yld.fieldAddr fo39_6 rfl) ?_
  refine RL.q (.yes rfl rfl rfl) rfl rfl (Yld.load p3 rfl (at1 (hB.cell rfl))) ?_
  refine RL.q (.yes rfl rfl rfl) rfl rfl (Yld.pure rfl) ?_
  iterate 2 refine RL.p rfl rfl ?_
  refine RL.knownT (d := 43) rfl rfl (by first | rfl | decide) ?_
  refine RL.q (.yes rfl rfl rfl) rfl rfl (Yld.fieldAddr fo39_7 rfl) ?_
  refine RL.q (.yes rfl rfl rfl) rfl rfl (Yld.load p30 rfl (at1 (hB.cell rfl))) ?_
  refine RL.op (.yes rfl rfl rfl) rfl rfl (Does.call rfl e134 (mlist0_ok _)) ?_
  rintro _ _ ⟨rfl, rfl⟩
  iterate 2 refine RL.p rfl rfl ?_
  refine RL.knownT (d := 48) rfl rfl (by first | rfl | decide) ?_
  iterate 4 refine RL.q (.yes rfl rfl rfl) rfl rfl (Yld.pure rfl) ?_
  refine RL.knownT (d := 52) rfl rfl (by first | rfl | decide) ?_
  iterate 4 refine RL.no (.no rfl rfl rfl rfl) rfl rfl ?_
  refine RL.q (.yes rfl rfl rfl) rfl rfl (Yld.pure rfl) ?_
  iterate 2 refine RL.p rfl rfl ?_
  iterate 4 refine RL.q (.yes rfl rfl rfl) rfl rfl (Yld.pure rfl) ?_
  refine RL.knownT (d := 63) rfl rfl (by first | rfl | decide) ?_
  iterate 3 refine RL.no (.no rfl rfl rfl rfl) rfl rfl ?_
  refine RL.q (.yes rfl rfl rfl) rfl rfl (Yld.pure rfl) ?_
  iterate 2 refine RL.p rfl rfl ?_
  iterate 4 refine RL.q (.yes rfl rfl rfl) rfl rfl (Yld.pure rfl) ?_
  refine RL.knownT (d := 73) rfl rfl (by first | rfl | decide) ?_
  iterate 3 refine RL.no (.no rfl rfl rfl rfl) rfl rfl ?_
  refine RL.q (.yes rfl rfl rfl) rfl rfl (Yld.pure rfl) ?_
  iterate 2 refine RL.p rfl rfl ?_
  iterate 4 refine RL.q (.yes rfl rfl rfl) rfl rfl (Yld.pure rfl) ?_
  refine RL.knownT (d := 83) rfl rfl (by first | rfl | decide) ?_
  iterate 3 refine RL.no (.no rfl rfl rfl rfl) rfl rfl ?_
  refine RL.q (.yes rfl rfl rfl) rfl rfl (Yld.pure rfl) ?_
  iterate 2 refine RL.p rfl rfl ?_
  refine RL.done ?_
  refine RK.ret_of Tryz.func176 (res1 rfl rfl) ?_ _
  exact ⟨_, rfl, rfl, hn1.grow⟩
theorem reqMayK_ok (tok : ByteArray) (w : World) : Fx Tryz.prog 97 [.agg (reqC tok 1).toArray] w (fun u w' => u = .bool true ∧ Grow w w') := by
  refine enter Tryz.func97 rfl rfl rfl _ (Pick.sub (l := [0]) (.cons rfl .nil)) ?_
  refine RK.seq ?_
  refine RK.region ?_
  refine RL.op (.free rfl) rfl rfl (Does.box rfl) ?_
  rintro _ w1 ⟨b1, rfl, hn1⟩
  have hB : Blk w1 b1 39 (reqC tok 1) := hn1.blk
  refine RL.p rfl rfl ?_
  refine RL.done ?_
  refine RK.seq ?_
  refine RK.region ?_
  refine RL.q (.free rfl) rfl rfl (Yld.fieldAddr fo39_1 rfl) ?_
  refine RL.q (.free rfl) rfl rfl (Yld.load p3 rfl (at1 (hB.cell rfl))) ?_
  refine RL.op (.free rfl) rfl rfl (Does.call rfl e98 (reqFields1_ok _)) ?_
  rintro _ _ ⟨rfl, rfl⟩
  iterate 5 refine RL.p rfl rfl ?_
  refine RL.done ?_
  refine RK.seq ?_
  refine RK.region ?_
  iterate 2 refine RL.p rfl rfl ?_
  refine RL.knownT (d := 12) rfl rfl (rfl) ?_
  refine RL.q (.yes rfl rfl rfl) rfl rfl (Yld.loadN (cs := reqC tok 1) a39 rfl (atN (blkV hB))) ?_
  refine RL.q (.yes rfl rfl rfl) rfl rfl (Yld.pure rfl) ?_
  refine RL.op (.yes rfl rfl rfl) rfl rfl (Does.call rfl e175 (reqZeroK_ok tok 1 _)) ?_
  rintro _ w2 ⟨rfl, hg2⟩
  iterate 2 refine RL.p rfl rfl ?_
  refine RL.knownT (d := 17) rfl rfl (rfl) ?_
  refine RL.q (.yes rfl rfl rfl) rfl rfl (Yld.loadN (cs := reqC tok 1) a39 rfl (atN (blkV (hB.mod hg2 (fun h => h))))) ?_
  refine RL.q (.yes rfl rfl rfl) rfl rfl (Yld.pure rfl) ?_
  refine RL.op (.yes rfl rfl rfl) rfl rfl (Does.call rfl e176 (reqRightK_ok tok 1 _)) ?_
  rintro _ w3 ⟨rfl, hg3⟩
  iterate 2 refine RL.p rfl rfl ?_
  refine RL.done ?_
  refine RK.ret_of Tryz.func97 (res1 rfl rfl) ?_ _
  exact ⟨_, rfl, rfl, (hn1.grow.trans hg2).trans hg3⟩
theorem bodySkip_ok (field : Int) (hz : IntKind.i64.wrap ((BitVec.ofInt IntKind.i64.bits 0 &&& BitVec.ofInt IntKind.i64.bits field).toNat : Int) = 0) (v : Value) {w : World} {b4 b3 : Nat} (h4 : Blk w b4 3 [.int .i64 0]) : Fx Tryz.prog 99 [.int .i64 field, v, pp b4, pp b3] w (fun u w' => w = w') := by
  refine enter Tryz.func99 rfl rfl rfl _ (Pick.sub (l := [0, 1, 2, 3]) (.cons rfl (.cons rfl (.cons rfl (.cons rfl .nil))))) ?_
  refine RK.seq ?_
  refine RK.region ?_
  refine RL.q (.free rfl) rfl rfl (Yld.load p3 rfl (at1 (h4.cell rfl))) ?_
  iterate 2 refine RL.p rfl rfl ?_
  refine RL.re (d := 8) rfl rfl (congrArg (Value.int .i64) hz) ?_
  refine RL.p rfl rfl ?_
  refine RL.done ?_
  refine RK.condF (hcF rfl (rfl)) ?_
  refine RK.skip ?_
  refine RK.end_of Tryz.func99 (res0 rfl) ?_
  exact ⟨_, rfl, rfl⟩
theorem body1_ok (tok : ByteArray) (w : World) : Fx Tryz.prog 51 [.agg (reqC tok 1).toArray] w (fun u w' => ∃ g, u = .slice (some ⟨g, 0, none⟩) 1 1 ∧ Row w' 5 1 u 1 (bytesV [1]) ∧ w.heap.size ≤ g ∧ Grow w w') := by
  refine enter Tryz.func51 rfl rfl rfl _ (Pick.sub (l := [0]) (.cons rfl .nil)) ?_
  refine RK.seq ?_
  refine RK.region ?_
  refine RL.op (.free rfl) rfl rfl (Does.box rfl) ?_
  rintro _ w1 ⟨b1, rfl, hn1⟩
  have hB : Blk w1 b1 39 (reqC tok 1) := hn1.blk
  refine RL.p rfl rfl ?_
  refine RL.done ?_
  iterate 2 refine RK.seq ?_
  refine RK.region ?_
  refine RL.q (.free rfl) rfl rfl (Yld.loadN (cs := reqC tok 1) a39 rfl (atN (blkV hB))) ?_
  refine RL.op (.free rfl) rfl rfl (Does.call rfl e97 (reqMayK_ok tok _)) ?_
  rintro _ w2 ⟨rfl, hg2⟩
  have hB2 := hB.mod hg2 (fun h => h)
  refine RL.p rfl rfl ?_
  refine RL.done ?_
  refine RK.condF (hcF rfl (rfl)) ?_
  refine RK.skip ?_
  refine RK.seq ?_
  refine RK.region ?_
  refine RL.q (.free rfl) rfl rfl (Yld.fieldAddr fo39_1 rfl) ?_
  refine RL.q (.free rfl) rfl rfl (Yld.load p3 rfl (at1 (hB2.cell rfl))) ?_
  refine RL.q (.free rfl) rfl rfl (Yld.convI Tryz.underlying3 Tryz.underlying5 rfl) ?_
  refine RL.op (.free rfl) rfl rfl (Does.bslice (el := 5) ([.int .u8 1]) rfl (fun w => by kernel_rfl)) ?_
  rintro _ w5 ⟨b5, rfl, hn5⟩
  refine RL.op (.free rfl) rfl rfl (Does.alloc i43) ?_
  rintro _ w6 ⟨b6, rfl, hn6⟩
  have ha1 := hn1.at_
  have hz1 := hn1.size
  have hz2 := hg2.size
  have ha5 := hn5.at_
  have hz5 := hn5.size
  have ha6 := hn6.at_
  have hz6 := hn6.size
  refine RL.op' (.free rfl) rfl (Does.store i43 rfl rfl rfl hn6.blk (.z)) ?_
  rintro _ w7 ⟨hb7, hm7, hs7⟩
  have hg57 : Grow w2 w7 := (hn5.grow.trans hn6.grow).then hm7 (fun x hx e => by have e' : x = b6 := e; omega)
  have hB7 := hB2.mod hg57 (fun h => h)
  have hr7 : Row w7 5 1 (.slice (some ⟨b5, 0, none⟩) 1 1) 1 (bytesV [1]) := ((Row.new hn5 1 1 rfl (by omega)).mod hn6.grow (fun _ _ h => h)).mod hm7 (fun b e1 e2 => by simp [Value.ownBlock] at e1; have e' : b = b6 := e2; omega)
  refine RL.done ?_
  refine RK.seq ?_
  refine RK.region ?_
  refine RL.q (.free rfl) rfl rfl (Yld.fieldAddr fo39_1 rfl) ?_
  refine RL.q (.free rfl) rfl rfl (Yld.load p3 rfl (at1 (hB7.cell rfl))) ?_
  refine RL.op (.free rfl) rfl rfl (Does.call rfl e98 (reqFields1_ok _)) ?_
  rintro _ _ ⟨rfl, rfl⟩
  iterate 3 refine RL.p rfl rfl ?_
  refine RL.op (.free rfl) rfl rfl (Does.alloc i3) ?_
  rintro _ w8 ⟨b8, rfl, hn8⟩
  have ha8 := hn8.at_
  have hz8 := hn8.size
  refine RL.op' (.free rfl) rfl (Does.store i3 rfl rfl rfl hn8.blk (.z)) ?_
  rintro _ w9 ⟨hb9, hm9, hs9⟩
  have hg79 : Grow w7 w9 := hn8.grow.then hm9 (fun x hx e => by have e' : x = b8 := e; omega)
  have hG9 : Grow w9 w9 := Mod.refl _ _
  refine RL.p rfl rfl ?_
  refine RL.done ?_
  refine RK.seq ?_
  refine RK.region ?_
  iterate 2 refine RL.p rfl rfl ?_
  refine RL.done ?_
  refine RK.seq ?_
  refine RK.region ?_
  refine RL.p rfl rfl ?_
  refine RL.q (.free rfl) rfl rfl (Yld.fieldAddr fo39_2 rfl) ?_
  refine RL.q (.free rfl) rfl rfl (Yld.load p3 rfl (at1 (((hB7.mod hg79 (fun h => h)).mod hG9 (fun h => h)).cell rfl))) ?_
  refine RL.q (.free rfl) rfl rfl (Yld.convI Tryz.underlying3 Tryz.underlying24 rfl) ?_
  refine RL.op (.free rfl) rfl rfl (Does.call rfl e86 (vput_ok 0 (by decide) _)) ?_
  rintro u10 w10 ⟨hr10, _, hg10⟩
  obtain ⟨a10, c10, rfl⟩ := hr10.slice
  have hG10 := hG9.trans hg10
  refine RL.op (.free rfl) rfl rfl (Does.bslice (el := 43) ([.slice a10 (putB 0).length c10]) rfl (fun w => by kernel_rfl)) ?_
  rintro _ w11 ⟨b11, rfl, hn11⟩
  have hG11 := hG10.trans hn11.grow
  refine RL.op (.free rfl) rfl rfl (Does.callv rfl rfl e99 (bodySkip_ok 1 (by decide) _ (hb9.mod hG11 (fun h => h)))) ?_
  rintro _ _ rfl
  refine RL.done ?_
  refine RK.seq ?_
  refine RK.region ?_
  refine RL.p rfl rfl ?_
  refine RL.q (.free rfl) rfl rfl (Yld.fieldAddr fo39_3 rfl) ?_
  refine RL.q (.free rfl) rfl rfl (Yld.load p9 rfl (at1 (((hB7.mod hg79 (fun h => h)).mod hG11 (fun h => h)).cell rfl))) ?_
  refine RL.op (.free rfl) rfl rfl (Does.call rfl e89 (putT_ok ⟨#[]⟩ (by decide) _)) ?_
  rintro u12 w12 ⟨hr12, _, hg12⟩
  obtain ⟨a12, c12, rfl⟩ := hr12.slice
  have hG12 := hG11.trans hg12
  refine RL.op (.free rfl) rfl rfl (Does.bslice (el := 43) ([.slice a12 (putT ⟨#[]⟩).length c12]) rfl (fun w => by kernel_rfl)) ?_
  rintro _ w13 ⟨b13, rfl, hn13⟩
  have hG13 := hG12.trans hn13.grow
  refine RL.op (.free rfl) rfl rfl (Does.callv rfl rfl e99 (bodySkip_ok 2 (by decide) _ (hb9.mod hG13 (fun h => h)))) ?_
  rintro _ _ rfl
  have hBd := ((hB7.mod hg79 (fun h => h)).mod hG13 (fun h => h)).mod (Mod.drew No _) (fun h => h)
  have hGd := hG13.trans (Mod.drew No _)
  refine RL.done ?_
  refine RK.seq ?_
  refine RK.drawM No [(0, false), (1, false), (2, false), (4, false), (5, false), (3, true), (6, true), (7, true), (8, true)] [] mixed (by kernel_rfl) ?_
  refine DL.p rfl rfl rfl ?_
  refine DL.qf rfl (.free rfl) rfl rfl (Yld.fieldAddr fo39_4 rfl) ?_
  refine DL.q rfl (.free rfl) rfl rfl rfl (Yld.load p24 rfl (atM (hBd.cell rfl) id)) (Mod.drew _ _) ?_
  refine DL.qf rfl (.free rfl) rfl rfl (Yld.fieldAddr fo39_5 rfl) ?_
  refine DL.q rfl (.free rfl) rfl rfl rfl (Yld.load p24 rfl (atM (hBd.cell rfl) id)) (Mod.drew _ _) ?_
  refine DL.op rfl (.free rfl) rfl rfl (Does.call rfl e86 (vput_ok 0 (by decide) _)) ?_
  rintro u14 w14 ⟨hr14, _, hg14⟩
  obtain ⟨a14, c14, rfl⟩ := hr14.slice
  have hG14 := hGd.trans hg14
  refine ⟨(Mod.drew _ _).trans hg14, ?_⟩
  refine DL.op rfl (.free rfl) rfl rfl (Does.call rfl e86 (vput_ok 0 (by decide) _)) ?_
  rintro u15 w15 ⟨hr15, _, hg15⟩
  obtain ⟨a15, c15, rfl⟩ := hr15.slice
  have hG15 := hG14.trans hg15
  refine ⟨((Mod.drew _ _).trans hg14).trans hg15, ?_⟩
  refine DL.op rfl (.free rfl) rfl rfl (Does.bslice (el := 43) ([.slice a14 (putB 0).length c14, .slice a15 (putB 0).length c15]) rfl (fun w => by kernel_rfl)) ?_
  rintro _ w16 ⟨b16, rfl, hn16⟩
  have hG16 := hG15.trans hn16.grow
  refine ⟨(((Mod.drew _ _).trans hg14).trans hg15).trans hn16.grow, ?_⟩
  refine DL.op rfl (.free rfl) rfl rfl (Does.callv rfl rfl e99 (bodySkip_ok 4 (by decide) _ (hb9.mod hG16 (fun h => h)))) ?_
  rintro _ _ rfl
  refine ⟨(((Mod.drew _ _).trans hg14).trans hg15).trans hn16.grow, ?_⟩
  refine DL.done ?_
  refine RK.seq ?_
  refine RK.region ?_
  refine RL.p rfl rfl ?_
  refine RL.q (.free rfl) rfl rfl (Yld.fieldAddr fo39_6 rfl) ?_
  refine RL.q (.free rfl) rfl rfl (Yld.load p3 rfl (at1 (((hB7.mod hg79 (fun h => h)).mod hG16 (fun h => h)).cell rfl))) ?_
  refine RL.q (.free rfl) rfl rfl (Yld.convI Tryz.underlying3 Tryz.underlying5 rfl) ?_
  refine RL.op (.free rfl) rfl rfl (Does.bslice (el := 5) ([.int .u8 0]) rfl (fun w => by kernel_rfl)) ?_
  rintro _ w17 ⟨b17, rfl, hn17⟩
  have hG17 := hG16.trans hn17.grow
  refine RL.op (.free rfl) rfl rfl (Does.bslice (el := 43) ([.slice (some ⟨b17, 0, none⟩) 1 1]) rfl (fun w => by kernel_rfl)) ?_
  rintro _ w18 ⟨b18, rfl, hn18⟩
  have hG18 := hG17.trans hn18.grow
  refine RL.op (.free rfl) rfl rfl (Does.callv rfl rfl e99 (bodySkip_ok 8 (by decide) _ (hb9.mod hG18 (fun h => h)))) ?_
  rintro _ _ rfl
  refine RL.done ?_
  refine RK.seq ?_
  refine RK.region ?_
  refine RL.p rfl rfl ?_
  refine RL.q (.free rfl) rfl rfl (Yld.fieldAddr fo39_7 rfl) ?_
  refine RL.q (.free rfl) rfl rfl (Yld.load p30 rfl (at1 (((hB7.mod hg79 (fun h => h)).mod hG18 (fun h => h)).cell rfl))) ?_
  refine RL.op (.free rfl) rfl rfl (Does.call rfl e101 (mBytes0_ok _)) ?_
  rintro u19 w19 ⟨hy19, hg19⟩
  obtain ⟨a19, c19, rfl⟩ := hy19.shape
  have hG19 := hG18.trans hg19
  refine RL.op (.free rfl) rfl rfl (Does.bslice (el := 43) ([.slice a19 1 c19]) rfl (fun w => by kernel_rfl)) ?_
  rintro _ w20 ⟨b20, rfl, hn20⟩
  have hG20 := hG19.trans hn20.grow
  refine RL.op (.free rfl) rfl rfl (Does.callv rfl rfl e99 (bodySkip_ok 16 (by decide) _ (hb9.mod hG20 (fun h => h)))) ?_
  rintro _ _ rfl
  refine RL.done ?_
  refine RK.seq ?_
  refine RK.region ?_
  refine RL.p rfl rfl ?_
  refine RL.q (.free rfl) rfl rfl (Yld.fieldAddr fo39_8 rfl) ?_
  refine RL.q (.free rfl) rfl rfl (Yld.loadN (cs := band0) a33 rfl (atN (fldV ((hB7.mod hg79 (fun h => h)).mod hG20 (fun h => h)) 8 3))) ?_
  refine RL.op (.free rfl) rfl rfl (Does.call rfl e102 (putBand0_ok _)) ?_
  rintro u21 w21 ⟨hy21, hg21⟩
  obtain ⟨a21, c21, rfl⟩ := hy21.shape
  have hG21 := hG20.trans hg21
  refine RL.op (.free rfl) rfl rfl (Does.bslice (el := 43) ([.slice a21 17 c21]) rfl (fun w => by kernel_rfl)) ?_
  rintro _ w22 ⟨b22, rfl, hn22⟩
  have hG22 := hG21.trans hn22.grow
  refine RL.op (.free rfl) rfl rfl (Does.callv rfl rfl e99 (bodySkip_ok 64 (by decide) _ (hb9.mod hG22 (fun h => h)))) ?_
  rintro _ _ rfl
  refine RL.done ?_
  refine RK.seq ?_
  refine RK.region ?_
  refine RL.p rfl rfl ?_
  refine RL.q (.free rfl) rfl rfl (Yld.fieldAddr fo39_9 rfl) ?_
  refine RL.q (.free rfl) rfl rfl (Yld.loadN (cs := rule0) a36 rfl (atN (fldV ((hB7.mod hg79 (fun h => h)).mod hG22 (fun h => h)) 11 6))) ?_
  refine RL.op (.free rfl) rfl rfl (Does.call rfl e103 (rBytes0_ok _)) ?_
  rintro u23 w23 ⟨hy23, hg23⟩
  obtain ⟨a23, c23, rfl⟩ := hy23.shape
  have hG23 := hG22.trans hg23
  refine RL.op (.free rfl) rfl rfl (Does.bslice (el := 43) ([.slice a23 0 c23]) rfl (fun w => by kernel_rfl)) ?_
  rintro _ w24 ⟨b24, rfl, hn24⟩
  have hG24 := hG23.trans hn24.grow
  refine RL.op (.free rfl) rfl rfl (Does.callv rfl rfl e99 (bodySkip_ok 128 (by decide) _ (hb9.mod hG24 (fun h => h)))) ?_
  rintro _ _ rfl
  refine RL.done ?_
  refine RK.seq ?_
  refine RK.region ?_
  refine RL.p rfl rfl ?_
  refine RL.q (.free rfl) rfl rfl (Yld.fieldAddr fo39_10 rfl) ?_
  refine RL.q (.free rfl) rfl rfl (Yld.load p37 rfl (at1 (((hB7.mod hg79 (fun h => h)).mod hG24 (fun h => h)).cell rfl))) ?_
  refine RL.op (.free rfl) rfl rfl (Does.call rfl e104 (lBytes0_ok _)) ?_
  rintro u25 w25 ⟨hy25, hg25⟩
  obtain ⟨a25, c25, rfl⟩ := hy25.shape
  have hG25 := hG24.trans hg25
  refine RL.op (.free rfl) rfl rfl (Does.bslice (el := 43) ([.slice a25 0 c25]) rfl (fun w => by kernel_rfl)) ?_
  rintro _ w26 ⟨b26, rfl, hn26⟩
  have hG26 := hG25.trans hn26.grow
  refine RL.op (.free rfl) rfl rfl (Does.callv rfl rfl e99 (bodySkip_ok 256 (by decide) _ (hb9.mod hG26 (fun h => h)))) ?_
  rintro _ _ rfl
  refine RL.done ?_
  refine RK.seq ?_
  refine RK.region ?_
  refine RL.p rfl rfl ?_
  refine RL.q (.free rfl) rfl rfl (Yld.fieldAddr fo39_11 rfl) ?_
  refine RL.q (.free rfl) rfl rfl (Yld.load p31 rfl (at1 (((hB7.mod hg79 (fun h => h)).mod hG26 (fun h => h)).cell rfl))) ?_
  refine RL.op (.free rfl) rfl rfl (Does.call rfl e106 (bits_ok 0 _)) ?_
  rintro _ _ ⟨rfl, rfl⟩
  refine RL.op (.free rfl) rfl rfl (Does.call rfl e105 (putW _ _)) ?_
  rintro u27 w27 ⟨hy27, hg27⟩
  obtain ⟨a27, c27, rfl⟩ := hy27.shape
  have hG27 := hG26.trans hg27
  refine RL.op (.free rfl) rfl rfl (Does.bslice (el := 43) ([.slice a27 8 c27]) rfl (fun w => by kernel_rfl)) ?_
  rintro _ w28 ⟨b28, rfl, hn28⟩
  have hG28 := hG27.trans hn28.grow
  refine RL.op (.free rfl) rfl rfl (Does.callv rfl rfl e99 (bodySkip_ok 512 (by decide) _ (hb9.mod hG28 (fun h => h)))) ?_
  rintro _ _ rfl
  refine RL.done ?_
  refine RK.seq ?_
  refine RK.region ?_
  refine RL.q (.free rfl) rfl rfl (Yld.load p43 rfl (at1 (((hb7.mod hg79 (fun h => h)).mod hG28 (fun h => h)).cell rfl))) ?_
  refine RL.p rfl rfl ?_
  refine RL.done ?_
  refine RK.ret_of Tryz.func51 (res1 rfl rfl) ?_ _
  exact ⟨_, rfl, b5, rfl, (hr7.mod hg79 (fun _ _ h => h)).mod hG28 (fun _ _ h => h), by omega, (((hn1.grow.trans hg2).trans hg57).trans hg79).trans hG28⟩
@[reducible] def root0 : ByteArray := ⟨#[114, 111, 111, 116, 48]⟩
theorem reqRdR_ok (w : World) (ad : Option Addr) (c : Nat) (hv : Sl No w (.slice ad 7 c) 1 7 (bytesV [5, 114, 111, 111, 116, 48, 1])) (hcap : 7 ≤ c) : Fx Tryz.prog 34 [.slice ad 7 c] w (fun u w' => u = .tuple #[.agg (reqC root0 1).toArray, .bool true] ∧ Grow w w') := by
  have hs := hv.off (M' := (w.heap.size ≤ ·)) (by omega) (fun b hb e => by omega)
  refine enter Tryz.func34 rfl rfl rfl _ (Pick.sub (l := [0]) (.cons rfl .nil)) ?_
  refine RK.seq ?_
  refine RK.region ?_
  refine RL.op (.free rfl) rfl rfl (Does.alloc i39) ?_
  rintro _ w2 ⟨b2, rfl, hn2⟩
  have ha2 := hn2.at_
  have hz2 := hn2.size
  refine RL.p rfl rfl ?_
  refine RL.done ?_
  refine RK.seq ?_
  refine RK.region ?_
  refine RL.p rfl rfl ?_
  refine RL.op (.free rfl) rfl rfl (Does.call rfl e77 (pnew_ok w.heap.size w2 ad c [5, 114, 111, 111, 116, 48, 1] (hs.mod (Mod.any' hn2.grow)) (by omega) hcap)) ?_
  rintro _ w3 ⟨p, rfl, hp, h3, hg3⟩
  have hz3 := hg3.size
  have hplt := h3.blk.lt
  have hg03 := hn2.grow.trans hg3
  have hq3 : Mod (b2 < ·) w2 w3 := Mod.any' hg3
  refine RL.p rfl rfl ?_
  refine RL.done ?_
  refine RK.seq ?_
  refine RK.region ?_
  refine RL.p rfl rfl ?_
  refine RL.op (.free rfl) rfl rfl (Does.call rfl e78 (textT_ok h3 5 (by decide) [114, 111, 111, 116, 48, 1] rfl 16 (by decide) (by decide) (by decide))) ?_
  rintro _ w4 ⟨rfl, h4, hm4⟩
  have hg04 := hg03.then hm4 (fun b hb e => by have e' : b = p := e; omega)
  have hq4 := hq3.trans (hm4.mono fun b _ e => by have e' : b = p := e; omega)
  refine RL.p rfl rfl ?_
  refine RL.done ?_
  refine RK.seq ?_
  refine RK.region ?_
  iterate 2 refine RL.p rfl rfl ?_
  refine RL.op (.free rfl) rfl rfl (Does.call rfl e45 (tokenIs_ok _ _)) ?_
  rintro _ _ ⟨rfl, rfl⟩
  refine RL.op (.free rfl) rfl rfl (Does.call rfl e79 (refuseT_ok h4)) ?_
  rintro _ w5 ⟨h5, hm5⟩
  have hg05 := hg04.then hm5 (fun b hb e => by have e' : b = p := e; omega)
  have hq5 := hq4.trans (hm5.mono fun b _ e => by have e' : b = p := e; omega)
  refine RL.done ?_
  refine RK.seq ?_
  refine RK.region ?_
  refine RL.p rfl rfl ?_
  refine RL.op (.free rfl) rfl rfl (Does.call rfl e80 (reqRead1_ok h5 rfl)) ?_
  rintro _ w6 ⟨rfl, h6, hm6⟩
  have hg06 := hg05.then hm6 (fun b hb e => by have e' : b = p := e; omega)
  have hq6 := hq5.trans (hm6.mono fun b _ e => by have e' : b = p := e; omega)
  have hz6 := hg06.size
  have hz36 := hq6.size
  refine RL.op (.free rfl) rfl rfl (Does.alloc i39) ?_
  rintro _ w7 ⟨b7, rfl, hn7⟩
  have ha7 := hn7.at_
  refine RL.op' (.free rfl) rfl (Does.storeN i39 rfl rfl rfl rfl hn7.blk (Nat.le_refl 19)) ?_
  rintro _ w8 ⟨hb8, hm8, hs8⟩
  have hB8 : Blk w8 b7 39 (reqC ⟨#[]⟩ 1) := hb8
  have hplt6 := h6.blk.lt
  have h8 := (h6.grow hn7.grow).mod hm8 (fun e => by have e' : p = b7 := e; omega) (fun b e => by have e' : b = b7 := e; omega)
  have hg08 := (hg06.trans hn7.grow).then hm8 (fun b hb e => by have e' : b = b7 := e; omega)
  have hq8 := (hq6.trans (Mod.any' hn7.grow)).trans (hm8.mono fun b _ e => by have e' : b = b7 := e; omega)
  refine RL.done ?_
  refine RK.seq ?_
  refine RK.region ?_
  refine RL.p rfl rfl ?_
  refine RL.q (.free rfl) rfl rfl (Yld.fieldAddr fo39_0 rfl) ?_
  refine RL.op' (.free rfl) rfl (Does.store i9 rfl rfl rfl hB8 (.z)) ?_
  rintro _ w9 ⟨hb9, hm9, hs9⟩
  have hB9 : Blk w9 b7 39 (reqC root0 1) := hb9
  have h9 := h8.mod hm9 (fun e => by have e' : p = b7 := e; omega) (fun b e => by have e' : b = b7 := e; omega)
  have hg09 := hg08.then hm9 (fun b hb e => by have e' : b = b7 := e; omega)
  have hq9 := hq8.trans (hm9.mono fun b _ e => by have e' : b = b7 := e; omega)
  refine RL.done ?_
  refine RK.seq ?_
  refine RK.region ?_
  refine RL.q (.free rfl) rfl rfl (Yld.loadN (cs := reqC root0 1) a39 rfl (atN (blkV hB9))) ?_
  iterate 2 refine RL.p rfl rfl ?_
  refine RL.op (.free rfl) rfl rfl (Does.call rfl e81 (wholeTok_ok root0 (bs := [5, 114, 111, 111, 116, 48, 1]) h9 _ _)) ?_
  rintro _ w10 ⟨rfl, hg10⟩
  have hq10 := hq9.trans (Mod.any' hg10)
  have hg010 := hg09.trans hg10
  iterate 2 refine RL.p rfl rfl ?_
  refine RL.op' (.free rfl) rfl (Does.storeN i39 rfl rfl rfl rfl (hn2.blk.mod hq10 (fun e => Nat.lt_irrefl _ e)) (Nat.le_refl 19)) ?_
  rintro _ w11 ⟨hb11, hm11, hs11⟩
  refine RL.p rfl rfl ?_
  refine RL.done ?_
  refine RK.ret_of Tryz.func34 (resCT (cs := reqC root0 1) rfl rfl a39 hb11 rfl) ?_ _
  exact ⟨_, rfl, rfl, hg010.then hm11 (fun b hb e => by have e' : b = b2 := e; omega)⟩
end Go.Proofs.YtnnmgfnhblbolaaGreatDoor
set_option linter.unusedVariables false
set_option linter.unusedSimpArgs false
set_option maxHeartbeats 6400000
set_option maxRecDepth 100000
namespace Go.Proofs.YtnnmgfnhblbolaaGreatDoor
open Go Go.X
theorem Row.capLe {w : World} {t sz k c : Nat} {ad : Option Addr} {xs : List Value} (h : Row w t sz (.slice ad k c) k xs) : k ≤ c := by
  rcases h.2 with ⟨hv, rfl⟩ | ⟨g, cap, cur, hv, _, _, hc, _⟩
  · exact Nat.zero_le _
  · cases hv; exact hc
theorem chAdd1_ok {w : World} {p : Nat} {most : Int} {ds : List Value} (h : ChAt w p most 0 (.slice none 0 0) [] ds) (hm : 1 ≤ most) (clk : Nat) (hc : clk ≤ 1099511627776) (g : Nat) (hv : Row w 5 1 (.slice (some ⟨g, 0, none⟩) 1 1) 1 (bytesV [1])) (hK : KeysAt w) (hp0 : 0 < p) : Fx Tryz.prog 57 [pp p, .int .u64 clk, .slice (some ⟨g, 0, none⟩) 1 1, .int .i64 0] w (fun u w' => u = .bool true ∧ (∃ v' cs' ds', ChAt w' p most 1 v' cs' ds' ∧ ∀ b, v'.ownBlock = some b → w.heap.size ≤ b) ∧ Mod (· = p) w w') := by
  have hplt := h.blk.lt
  have hvs : Sl No w (.slice (some ⟨g, 0, none⟩) 1 1) 1 1 (bytesV [1]) := Sl.own hv (fun _ _ h => h)
  have hBd := h.blk.mod (Mod.drew No _) (fun h => h)
  refine enter Tryz.func57 rfl rfl rfl _ (Pick.sub (l := [0, 1, 2, 3]) (.cons rfl (.cons rfl (.cons rfl (.cons rfl .nil))))) ?_
  refine RK.seq ?_
  refine RK.region ?_
  refine RL.p rfl rfl ?_
  refine RL.done ?_
  refine RK.seq ?_
  refine RK.cutS (fun s : Nat × Option Addr × Nat => [(0, pp p), (9, pp s.1)]) (fun s w' => Blk w' s.1 188 (recC 0 clk (.slice s.2.1 1 s.2.2)) ∧ Row w' 5 1 (.slice s.2.1 1 s.2.2) 1 (bytesV [1]) ∧ Grow w w' ∧ w.heap.size ≤ s.1) (fun s w2 hQ => ?_) (fun hj => ?_)
  · obtain ⟨b9, a9, c9⟩ := s
    obtain ⟨hB9, hr9, hg2, hb9⟩ := hQ
    simp only at hB9 hr9 hb9
    have h2 := h.grow hg2
    have h2d := h2.grow (Mod.drew No _)
    have hB9d := hB9.mod (Mod.drew No _) (fun h => h)
    have hr9d := hr9.mod (Mod.drew No _) (fun _ _ h => h)
    have hcap : 1 ≤ c9 := Row.capLe hr9
    iterate 2 refine RK.seq ?_
    refine RK.drawM No [(0, false), (1, true), (2, false), (3, false), (4, true), (5, false), (6, false), (7, false), (8, false), (9, false), (10, false), (11, false), (12, false), (13, false), (14, false), (15, false), (16, false), (17, false), (18, false), (19, false), (20, false), (21, false), (22, false), (23, false), (24, false), (25, false), (26, false), (27, false), (28, false), (29, false), (30, false), (31, false)] [] mixed (by kernel_rfl) ?_
    refine DL.p rfl rfl rfl ?_
    refine DL.op rfl (.free rfl) rfl rfl (Does.call rfl e52 (full_ok h2d)) ?_
    rintro _ w3 ⟨rfl, hg3⟩
    refine ⟨(Mod.drew _ _).trans hg3, ?_⟩
    refine DL.p rfl rfl rfl ?_
    refine DL.knownF (d := 22) rfl rfl (decide_eq_false (by omega)) ?_
    refine DL.q rfl (.yes rfl rfl rfl) rfl rfl rfl (Yld.loadN (cs := recC 0 clk (.slice a9 1 c9)) a188 rfl (atNM (blkV hB9d) id)) ((Mod.drew _ _).trans hg3) ?_
    refine DL.op rfl (.yes rfl rfl rfl) rfl rfl (Does.call rfl e109 (recIs_ok 0 clk (by omega) hc a9 c9 _ ((Sl.own hr9d (fun _ _ h => h)).mod hg3) hcap)) ?_
    rintro _ w4 ⟨rfl, hg4⟩
    refine ⟨((Mod.drew _ _).trans hg3).trans hg4, ?_⟩
    have hG4 : Grow w w4 := hg2.trans (((Mod.drew _ _).trans hg3).trans hg4)
    have h4 := h.grow hG4
    have h4d := h4.grow (Mod.drew No _)
    have hG94 := ((Mod.drew No w2).trans hg3).trans hg4
    have hB94 := hB9.mod hG94 (fun h => h)
    have hB94d := hB94.mod (Mod.drew No _) (fun h => h)
    have hz4 := hG4.size
    refine DL.qf rfl (.yes rfl rfl rfl) rfl rfl (Yld.pure rfl) ?_
    iterate 2 refine DL.p rfl rfl rfl ?_
    refine DL.knownF (d := 27) rfl rfl (rfl) ?_
    iterate 2 refine DL.qf rfl (.yes rfl rfl rfl) rfl rfl (Yld.pure rfl) ?_
    refine DL.qf rfl (.yes rfl rfl rfl) rfl rfl (Yld.fieldAddr fo171_1 rfl) ?_
    refine DL.q rfl (.yes rfl rfl rfl) rfl rfl rfl (Yld.load p169 rfl (atM (h2d.blk.cell rfl) id)) (((Mod.drew _ _).trans hg3).trans hg4) ?_
    refine DL.q rfl (.yes rfl rfl rfl) rfl rfl rfl (Yld.lenSl u169 rfl) (((Mod.drew _ _).trans hg3).trans hg4) ?_
    iterate 2 refine DL.qf rfl (.yes rfl rfl rfl) rfl rfl (Yld.pure rfl) ?_
    refine DL.knownF (d := 34) rfl rfl (rfl) ?_
    iterate 15 refine DL.no rfl (.no rfl rfl rfl rfl) rfl rfl ?_
    refine DL.qf rfl (.yes rfl rfl rfl) rfl rfl (Yld.pure rfl) ?_
    refine DL.p rfl rfl rfl ?_
    refine DL.done ?_
    refine RK.condF rfl ?_
    refine RK.skip ?_
    refine RK.seq ?_
    refine RK.drawM (fun _ => False) [(0, false), (1, false), (2, false), (3, false), (4, false), (5, false), (6, true), (7, true), (8, false), (9, false), (10, true)] [10] mixed (by kernel_rfl) ?_
    iterate 3 refine DL.p rfl rfl rfl ?_
    refine DL.qf rfl (.free rfl) rfl rfl (Yld.fieldAddr fo171_1 rfl) ?_
    refine DL.q rfl (.free rfl) rfl rfl rfl (Yld.load p169 rfl (atM (h4d.blk.cell rfl) id)) (Mod.drew _ _) ?_
    refine DL.q rfl (.free rfl) rfl rfl rfl (Yld.loadN (cs := recC 0 clk (.slice a9 1 c9)) a188 rfl (atNM (blkV hB94d) id)) (Mod.drew _ _) ?_
    refine DL.op rfl (.free rfl) rfl rfl (Does.slice1 u169 i188 rfl rfl rfl rfl rfl) ?_
    rintro _ w5 ⟨b5, rfl, hn5⟩
    refine ⟨(Mod.drew _ _).trans hn5.grow, ?_⟩
    refine DL.op rfl (.free rfl) rfl rfl (Does.append u169 i188 rfl rfl rfl rfl rfl (Row.nil _ _ _) (Sl.new hn5 4 1 rfl (by decide) (fun h => h)) (rfl) (by decide)) ?_
    rintro u6 w6 ⟨hr6, hm6, hu6⟩
    have hg6 : Grow w5 w6 := hm6.mono (fun b _ e => by simp [Value.ownBlock] at e)
    refine ⟨((Mod.drew _ _).trans hn5.grow).trans hg6, ?_⟩
    have hz5 := hn5.size
    have hp6 : ∀ b, u6.ownBlock = some b → w.heap.size ≤ b := fun b e => by
        rcases hu6 with h | h
        · rw [h] at e; simp [Value.ownBlock] at e
        · rw [h] at e; cases e; simp only [World.drew] at hz5; omega
    obtain ⟨a6, c6, rfl⟩ := hr6.slice
    have hG6 : Grow w4 w6 := ((Mod.drew _ _).trans hn5.grow).trans hg6
    refine DL.p rfl rfl rfl ?_
    refine DL.qf rfl (.free rfl) rfl rfl (Yld.fieldAddr fo171_1 rfl) ?_
    refine DL.opT rfl (.free rfl) rfl rfl (Does.store i169 rfl rfl rfl (h4.grow hG6).blk (.s .z)) ?_
    rintro _ w7 ⟨hb7, hm7, hs7⟩
    have hr7 := hr6.mod hm7 (fun b e1 e2 => by have e' : b = p := e2; have := hp6 b e1; omega)
    have hM7 : Mod (· = p) w w7 := (Mod.any' (hG4.trans hG6)).trans hm7
    have hne9 : b9 ≠ p := by omega
    have hB97 := (hB94.mod hG6 (fun h => h)).mod hm7 hne9
    have hr97 := ((hr9.mod hG94 (fun _ _ h => h)).mod hG6 (fun _ _ h => h)).mod hm7 (fun b e1 e2 => by have e' : b = p := e2; exact absurd (hr9.ty e1) (fun ht => ht.ne (h.grow hg2).blk.ty rfl e'))
    have hB97d := hB97.mod (Mod.drew No _) (fun h => h)
    have hb7d := hb7.mod (Mod.drew No _) (fun h => h)
    have hK7 : KeysAt w7 := hK.mod hM7 (fun e => by have e' : 0 = p := e; omega)
    have hdl := h.head.1
    have hds : (List.drop 2 (Value.int .i64 most :: Value.slice a6 1 c6 :: ds)).take 32 = ds := by simp [List.take_of_length_le (by omega : ds.length ≤ 32)]
    refine DL.done ?_
    refine RK.seq ?_
    refine RK.drawM (fun _ => False) [(0, false), (1, false), (2, false), (3, false), (4, false), (5, false), (6, true), (7, true), (8, true), (9, false), (10, false), (11, true)] [11] mixed (by kernel_rfl) ?_
    iterate 3 refine DL.p rfl rfl rfl ?_
    refine DL.qf rfl (.free rfl) rfl rfl (Yld.fieldAddr fo171_2 rfl) ?_
    refine DL.q rfl (.free rfl) rfl rfl rfl (Yld.loadN (cs := ds) (by rw [h.head.1]; exact a44) rfl (atNM (fun j u hj => fldV hb7d 2 32 j u (by rw [← hds] at hj; exact hj)) id)) (Mod.drew _ _) ?_
    refine DL.q rfl (.free rfl) rfl rfl rfl (Yld.loadN (cs := recC 0 clk (.slice a9 1 c9)) a188 rfl (atNM (blkV hB97d) id)) (Mod.drew _ _) ?_
    refine DL.op rfl (.free rfl) rfl rfl (Does.call rfl e107 (recBytes_ok 0 clk (by omega) hc a9 c9 _ ((Sl.own hr97 (fun _ _ h => h)).mod (Mod.drew No _)) hcap)) ?_
    rintro u8 w8 ⟨n8, hn8, hy8, hg8⟩
    refine ⟨(Mod.drew _ _).trans hg8, ?_⟩
    obtain ⟨a8, c8, rfl⟩ := hy8.shape
    refine DL.op rfl (.free rfl) rfl rfl (Does.call rfl e110 (link_ok ds h.head n8 (by omega) _ _ hy8)) ?_
    rintro u9 w9 ⟨hy9, hg9⟩
    refine ⟨((Mod.drew _ _).trans hg8).trans hg9, ?_⟩
    obtain ⟨cs9, hw9, hs9⟩ := hy9
    refine DL.op rfl (.free rfl) rfl rfl (Does.call rfl e95 (shaOf_ok (33 + n8) cs9 _ _ hs9 hw9 (by omega) (by omega) (hK7.grow (((Mod.drew _ _).trans hg8).trans hg9)))) ?_
    rintro _ w10 ⟨ds', hds', rfl, hg10⟩
    refine ⟨(((Mod.drew _ _).trans hg8).trans hg9).trans hg10, ?_⟩
    have hG10 : Grow w7 w10 := (((Mod.drew _ _).trans hg8).trans hg9).trans hg10
    refine DL.p rfl rfl rfl ?_
    refine DL.qf rfl (.free rfl) rfl rfl (Yld.fieldAddr fo171_2 rfl) ?_
    refine DL.opT rfl (.free rfl) rfl rfl (Does.storeN (o := 2) i44 rfl rfl (show (Value.agg ds'.toArray).cells.size = 32 from by simpa [Value.cells] using hds'.1) (by simpa [Value.cells] using hds'.one) (hb7.mod hG10 (fun h => h)) (by simp; omega)) ?_
    rintro _ w11 ⟨hb11, hm11, hs11⟩
    have hB11 : Blk w11 p 171 (.int .i64 most :: .slice a6 1 c6 :: ds') := by
        have e : (List.drop (2 + 32) (Value.int .i64 most :: Value.slice a6 1 c6 :: ds)) = [] := List.drop_of_length_le (by simp; omega)
        have h := hb11
        rw [e, List.append_nil] at h
        exact h
    refine DL.done ?_
    refine RK.seq ?_
    refine RK.region ?_
    refine RL.p rfl rfl ?_
    refine RL.done ?_
    refine RK.ret_of Tryz.func57 (res1 rfl rfl) ?_ _
    exact ⟨_, rfl, rfl, ⟨_, _, ds', ⟨hB11, (hr7.mod hG10 (fun _ _ h => h)).mod hm11 (fun b e1 e2 => by have e' : b = p := e2; have := hp6 b e1; omega), hds'⟩, hp6⟩, (hM7.trans (Mod.any' hG10)).trans hm11⟩
  · refine RK.drawF No [(0, false), (1, false), (2, false), (3, false), (4, false), (5, false), (6, false), (8, false)] 7 10 [(9, false), (10, true), (11, true)] [(7, true), (9, false), (11, true)] [] mixed (by kernel_rfl) ?_
    iterate 2 refine DL.p rfl rfl rfl ?_
    refine DL.qf rfl (.free rfl) rfl rfl (Yld.fieldAddr fo171_1 rfl) ?_
    refine DL.q rfl (.free rfl) rfl rfl rfl (Yld.load p169 rfl (atM (hBd.cell rfl) id)) (Mod.drew _ _) ?_
    refine DL.q rfl (.free rfl) rfl rfl rfl (Yld.lenSl u169 rfl) (Mod.drew _ _) ?_
    iterate 3 refine DL.p rfl rfl rfl ?_
    refine DL.fork ?_ ?_
    · refine DL.op rfl (.free rfl) rfl rfl (Does.call rfl e108 (cloneB_ok No [1] _ _ (hvs.mod (Mod.drew No _)) (by decide))) ?_
      rintro u3 w3 ⟨hr3, hf3, hg3⟩
      refine ⟨(Mod.drew _ _).trans hg3, ?_⟩
      obtain ⟨a3, c3, rfl⟩ := hr3.slice
      refine DL.qf rfl (.free rfl) rfl rfl (Yld.build (v := .agg (recC 0 clk (.slice a3 1 c3)).toArray) rfl (fun w => by kernel_rfl)) ?_
      refine DL.op rfl (.free rfl) rfl rfl (Does.alloc i188) ?_
      rintro _ w9 ⟨b9, rfl, hn9⟩
      refine ⟨((Mod.drew _ _).trans hg3).trans hn9.grow, ?_⟩
      have ha9 := hn9.at_
      have hz3 := hg3.size
      simp only [World.drew] at hz3
      refine DL.op' rfl (.free rfl) rfl (Does.storeN i188 rfl rfl rfl rfl hn9.blk (Nat.le_refl 4)) ?_
      rintro _ w10 ⟨hb10, hm10, hs10⟩
      have hG : Grow w w10 := (((Mod.drew _ _).trans hg3).trans hn9.grow).then hm10 (fun x hx e => by have e' : x = b9 := e; omega)
      refine ⟨hG, ?_⟩
      refine DL.done ?_
      exact RK.back (hj (b9, a3, c3) _ ⟨hb10, (hr3.mod hn9.grow (fun _ _ h => h)).mod hm10 (fun b e1 e2 => by have e' : b = b9 := e2; have := (hr3.ty e1).lt; omega), hG, by simp only; omega⟩) ⟨rfl, rfl, trivial⟩
    · refine DL.op rfl (.free rfl) rfl rfl (Does.alloc i188) ?_
      rintro _ w9 ⟨b9, rfl, hn9⟩
      refine ⟨(Mod.drew _ _).trans hn9.grow, ?_⟩
      refine DL.op rfl (.free rfl) rfl rfl (Does.call rfl e108 (cloneB_ok No [1] _ _ ((hvs.mod (Mod.drew No _)).mod hn9.grow) (by decide))) ?_
      rintro u3 w3 ⟨hr3, hf3, hg3⟩
      refine ⟨((Mod.drew _ _).trans hn9.grow).trans hg3, ?_⟩
      obtain ⟨a3, c3, rfl⟩ := hr3.slice
      have ha9 := hn9.at_
      have hz9 := hn9.size
      simp only [World.drew] at ha9 hz9
      refine DL.qf rfl (.free rfl) rfl rfl (Yld.build (v := .agg (recC 0 clk (.slice a3 1 c3)).toArray) rfl (fun w => by kernel_rfl)) ?_
      refine DL.op' rfl (.free rfl) rfl (Does.storeN i188 rfl rfl rfl rfl (hn9.blk.mod hg3 (fun h => h)) (Nat.le_refl 4)) ?_
      rintro _ w10 ⟨hb10, hm10, hs10⟩
      have hG : Grow w w10 := (((Mod.drew _ _).trans hn9.grow).trans hg3).then hm10 (fun x hx e => by have e' : x = b9 := e; omega)
      refine ⟨hG, ?_⟩
      refine DL.done ?_
      exact RK.back (hj (b9, a3, c3) _ ⟨hb10, hr3.mod hm10 (fun b e1 e2 => by have e' : b = b9 := e2; have := hf3 b e1; omega), hG, by simp only; omega⟩) ⟨rfl, rfl, trivial⟩
end Go.Proofs.YtnnmgfnhblbolaaGreatDoor
set_option linter.unusedVariables false
set_option linter.unusedSimpArgs false
set_option maxHeartbeats 6400000
set_option maxRecDepth 100000
namespace Go.Proofs.YtnnmgfnhblbolaaGreatDoor
open Go Go.X
theorem xor_same (a : Int) : IntKind.u8.wrap (BitVec.ofInt IntKind.u8.bits 0 ||| BitVec.ofInt IntKind.u8.bits (IntKind.u8.wrap (BitVec.ofInt IntKind.u8.bits a ^^^ BitVec.ofInt IntKind.u8.bits a).toNat)).toNat = 0 := by
  rw [BitVec.xor_self]
  decide
theorem tokEq_ok (s : ByteArray) (hs : s.size ≤ 1000) (w : World) : Fx Tryz.prog 223 [.string s, .string s] w (fun u w' => u = .bool true ∧ Grow w w') := by
  refine enter Tryz.func223 rfl rfl rfl _ (Pick.sub (l := [0, 1]) (.cons rfl (.cons rfl .nil))) ?_
  refine RK.seq ?_
  refine RK.region ?_
  refine RL.p rfl rfl ?_
  refine RL.done ?_
  iterate 2 refine RK.seq ?_
  refine RK.region ?_
  refine RL.p rfl rfl ?_
  refine RL.q (.free rfl) rfl rfl (Yld.lenStr u9 rfl) ?_
  refine RL.p rfl rfl ?_
  refine RL.q (.free rfl) rfl rfl (Yld.lenStr u9 rfl) ?_
  refine RL.p rfl rfl ?_
  refine RL.done ?_
  refine RK.condF (hcF rfl (by simp)) ?_
  refine RK.skip ?_
  refine RK.seq ?_
  refine RK.region ?_
  refine RL.p rfl rfl ?_
  refine RL.done ?_
  iterate 2 refine RK.seq ?_
  refine RK.region ?_
  refine RL.p rfl rfl ?_
  refine RL.q (.free rfl) rfl rfl (Yld.lenStr u9 rfl) ?_
  refine RL.p rfl rfl ?_
  refine RL.done ?_
  refine RK.block ?_
  refine RK.loop (fun k : Nat => [(0, .string s), (1, .string s), (5, .int .u8 0), (13, .int .i64 (s.size : Int)), (14, .int .i64 (k : Int))]) (fun k w' => Grow w w' ∧ k ≤ s.size) (fun k => s.size - k) 0 ⟨rfl, rfl, rfl, rfl, rfl, trivial⟩ ⟨Mod.refl _ _, Nat.zero_le _⟩ (fun k w' hI ih => ?_)
  obtain ⟨hg, hk⟩ := hI
  refine RK.seq ?_
  refine RK.region ?_
  refine RL.p rfl rfl ?_
  refine RL.done ?_
  refine RK.seq ?_
  first | refine RK.condD rfl (fun h15 => ?_) (fun h15 => ?_) | refine RK.condN rfl (fun h15 => ?_) (fun h15 => ?_) | refine RK.cond rfl (fun h15 => ?_) (fun h15 => ?_)
  · refine RK.skip ?_
    refine RK.seq ?_
    refine RK.block ?_
    refine RK.seq ?_
    refine RK.region ?_
    iterate 2 refine RL.p rfl rfl ?_
    refine RL.done ?_
    refine RK.drawM No [(0, false), (1, false), (2, false), (3, false), (4, false), (5, false), (6, false), (7, false), (8, false), (9, false)] [] mixed (by kernel_rfl) ?_
    iterate 3 refine DL.p rfl rfl rfl ?_
    refine DL.qf rfl (.free rfl) rfl rfl (Yld.idxStrN u9 rfl rfl (by omega)) ?_
    iterate 2 refine DL.p rfl rfl rfl ?_
    refine DL.qf rfl (.free rfl) rfl rfl (Yld.idxStrN u9 rfl rfl (by omega)) ?_
    iterate 2 refine DL.p rfl rfl rfl ?_
    refine DL.re (d := 25) rfl rfl (congrArg (Value.int .u8) (xor_same _)) ?_
    refine DL.p rfl rfl rfl ?_
    refine DL.done ?_
    refine RK.inBlock ?_
    refine RK.region ?_
    refine RL.p rfl rfl ?_
    refine RL.re (d := 26) rfl rfl (succ_i64 (by omega)) ?_
    refine RL.p rfl rfl ?_
    refine RL.done ?_
    exact RK.back (ih (k + 1) _ ⟨hg.trans (Mod.drew No _), by omega⟩ (by omega)) ⟨rfl, rfl, rfl, rfl, rfl, trivial⟩
  · refine RK.exit rfl ?_
    refine RK.seq ?_
    refine RK.region ?_
    iterate 3 refine RL.p rfl rfl ?_
    refine RL.done ?_
    refine RK.ret_of Tryz.func223 (res1 rfl rfl) ?_ _
    exact ⟨_, rfl, rfl, hg⟩
structure TkAt (w : World) (p : Nat) (most : Int) (v : Value) (l : List (ByteArray × Int)) : Prop where
  blk : Blk w p 224 [.int .i64 most, v]
  row : Row w 227 2 v l.length (l.flatMap fun x => [.string x.1, .int .i64 x.2])
theorem TkAt.grow {w w' : World} {p : Nat} {most : Int} {v : Value} {l : List (ByteArray × Int)} (h : TkAt w p most v l) (hg : Grow w w') : TkAt w' p most v l := ⟨h.blk.mod hg (fun h => h), h.row.mod hg (fun _ _ h => h)⟩
theorem tokNew_ok (m : Int) (h1 : 1 ≤ m) (h2 : m ≤ 4) (w : World) : Fx Tryz.prog 74 [.int .i64 m] w (fun u w' => ∃ p, u = pp p ∧ w.heap.size ≤ p ∧ TkAt w' p m (.slice none 0 0) [] ∧ Grow w w') := by
  refine enter Tryz.func74 rfl rfl rfl _ (Pick.sub (l := [0]) (.cons rfl .nil)) ?_
  refine RK.seq ?_
  refine RK.region ?_
  refine RL.p rfl rfl ?_
  refine RL.done ?_
  refine RK.seq ?_
  refine RK.region ?_
  refine RL.p rfl rfl ?_
  refine RL.q (.free rfl) rfl rfl (Yld.max2 rfl rfl) ?_
  refine RL.q (.free rfl) rfl rfl (Yld.min2 rfl rfl) ?_
  refine RL.q (.free rfl) rfl rfl (Yld.build (v := .agg #[.int .i64 (if (4 : Int) < (if (1 : Int) > m then 1 else m) then 4 else (if (1 : Int) > m then 1 else m)), .slice none 0 0]) rfl (fun w => by kernel_rfl)) ?_
  refine RL.op (.free rfl) rfl rfl (Does.box rfl) ?_
  rintro _ w1 ⟨b3, rfl, hn3⟩
  have ha3 := hn3.at_
  refine RL.p rfl rfl ?_
  refine RL.done ?_
  refine RK.ret_of Tryz.func74 (res1 rfl rfl) ?_ _
  exact ⟨_, rfl, b3, rfl, by omega, ⟨by
      have h : Blk w1 b3 224 [.int .i64 (if (4 : Int) < (if (1 : Int) > m then 1 else m) then 4 else (if (1 : Int) > m then 1 else m)), .slice none 0 0] := hn3.blk
      rw [if_neg (show ¬ (1 : Int) > m by omega), if_neg (by omega)] at h
      exact h, Row.nil _ _ _⟩, hn3.grow⟩
theorem tokPlace0_ok {w : World} {p : Nat} {most : Int} {v : Value} (h : TkAt w p most v []) (s : ByteArray) : Fx Tryz.prog 145 [pp p, .string s] w (fun u w' => u = .int .i64 (-1) ∧ Grow w w') := by
  obtain ⟨ad, c, rfl⟩ := h.row.slice
  refine enter Tryz.func145 rfl rfl rfl _ (Pick.sub (l := [0, 1]) (.cons rfl (.cons rfl .nil))) ?_
  refine RK.seq ?_
  refine RK.region ?_
  refine RL.p rfl rfl ?_
  refine RL.done ?_
  refine RK.seq ?_
  refine RK.region ?_
  refine RL.p rfl rfl ?_
  refine RL.done ?_
  iterate 2 refine RK.seq ?_
  refine RK.region ?_
  iterate 2 refine RL.p rfl rfl ?_
  refine RL.q (.free rfl) rfl rfl (Yld.fieldAddr fo224_1 rfl) ?_
  refine RL.q (.free rfl) rfl rfl (Yld.load p222 rfl (at1 (h.blk.cell rfl))) ?_
  refine RL.q (.free rfl) rfl rfl (Yld.lenSl u222 rfl) ?_
  refine RL.p rfl rfl ?_
  refine RL.done ?_
  refine RK.block ?_
  refine RK.loop (fun _ : Unit => [(5, .int .i64 (-1)), (12, .int .i64 0), (13, .int .i64 0)]) (fun _ w' => w = w') (fun _ => 0) () ⟨rfl, rfl, rfl, trivial⟩ rfl (fun _ w' hI ih => ?_)
  subst hI
  refine RK.seq ?_
  refine RK.region ?_
  refine RL.p rfl rfl ?_
  refine RL.done ?_
  refine RK.seq ?_
  refine RK.condF (hcF rfl (rfl)) ?_
  refine RK.exit rfl ?_
  refine RK.seq ?_
  refine RK.region ?_
  iterate 2 refine RL.p rfl rfl ?_
  refine RL.done ?_
  refine RK.ret_of Tryz.func145 (res1 rfl rfl) ?_ _
  exact ⟨_, rfl, rfl, Mod.refl _ _⟩
theorem tokPlace1_ok {w : World} {p : Nat} {most : Int} {v : Value} {s : ByteArray} {o : Int} (h : TkAt w p most v [(s, o)]) (hs : s.size ≤ 1000) : Fx Tryz.prog 145 [pp p, .string s] w (fun u w' => u = .int .i64 0 ∧ Grow w w') := by
  have hsl := Sl.own (M := No) h.row (fun _ _ h => h)
  obtain ⟨b1, o1, c1, he1, _, _, hc1⟩ := hsl.elem (f := fun x : ByteArray × Int => [Value.string x.1, .int .i64 x.2]) (fun _ => rfl) (k := 0) (x := (s, o)) rfl
  subst he1
  refine enter Tryz.func145 rfl rfl rfl _ (Pick.sub (l := [0, 1]) (.cons rfl (.cons rfl .nil))) ?_
  refine RK.seq ?_
  refine RK.region ?_
  refine RL.p rfl rfl ?_
  refine RL.done ?_
  refine RK.seq ?_
  refine RK.region ?_
  refine RL.p rfl rfl ?_
  refine RL.done ?_
  iterate 2 refine RK.seq ?_
  refine RK.region ?_
  iterate 2 refine RL.p rfl rfl ?_
  refine RL.q (.free rfl) rfl rfl (Yld.fieldAddr fo224_1 rfl) ?_
  refine RL.q (.free rfl) rfl rfl (Yld.load p222 rfl (at1 (h.blk.cell rfl))) ?_
  refine RL.q (.free rfl) rfl rfl (Yld.lenSl u222 rfl) ?_
  refine RL.p rfl rfl ?_
  refine RL.done ?_
  refine RK.block ?_
  refine RK.loop (fun k : Nat => [(1, .string s), (5, .int .i64 (if k = 0 then -1 else 0)), (11, .slice (some ⟨b1, o1, none⟩) 1 c1), (12, .int .i64 1), (13, .int .i64 (k : Int))]) (fun k w' => Grow w w' ∧ k ≤ 1) (fun k => 1 - k) 0 ⟨rfl, rfl, rfl, rfl, rfl, trivial⟩ ⟨Mod.refl _ _, Nat.zero_le _⟩ (fun k w' hI ih => ?_)
  obtain ⟨hg, hk⟩ := hI
  refine RK.seq ?_
  refine RK.region ?_
  refine RL.p rfl rfl ?_
  refine RL.done ?_
  refine RK.seq ?_
  first | refine RK.condD rfl (fun h14 => ?_) (fun h14 => ?_) | refine RK.condN rfl (fun h14 => ?_) (fun h14 => ?_) | refine RK.cond rfl (fun h14 => ?_) (fun h14 => ?_)
  · obtain rfl : k = 0 := by omega
    refine RK.skip ?_
    refine RK.seq ?_
    refine RK.block ?_
    refine RK.seq ?_
    refine RK.region ?_
    refine RL.p rfl rfl ?_
    refine RL.q (.free rfl) rfl rfl (Yld.indexAddrN u222 i227 rfl rfl ((by decide : 0 < 1))) ?_
    refine RL.q (.free rfl) rfl rfl (Yld.loadN (cs := [.string s, .int .i64 o]) a227 rfl (atN (fun j u hj => hg.cell (hc1 j u hj) (fun h => h)))) ?_
    refine RL.op (.free rfl) rfl rfl (Does.alloc i227) ?_
    rintro _ w2 ⟨b7, rfl, hn7⟩
    have ha7 := hn7.at_
    refine RL.p rfl rfl ?_
    refine RL.op' (.free rfl) rfl (Does.storeN i227 rfl rfl rfl rfl hn7.blk (Nat.le_refl 2)) ?_
    rintro _ w3 ⟨hb3, hm3, hs3⟩
    have hB3 : Blk w3 b7 227 [.string s, .int .i64 o] := hb3
    have hg3 : Grow w w3 := (hg.trans hn7.grow).then hm3 (fun x hx e => by have e' : x = b7 := e; have := hg.size; omega)
    refine RL.done ?_
    refine RK.seq ?_
    refine RK.region ?_
    refine RL.q (.free rfl) rfl rfl (Yld.fieldAddr fo227_0 rfl) ?_
    refine RL.q (.free rfl) rfl rfl (Yld.load p9 rfl (at1 (hB3.cell rfl))) ?_
    refine RL.p rfl rfl ?_
    refine RL.op (.free rfl) rfl rfl (Does.call rfl e223 (tokEq_ok s hs _)) ?_
    rintro _ w4 ⟨rfl, hg4⟩
    refine RL.done ?_
    refine RK.condT (hcT rfl (rfl)) ?_
    refine RK.region ?_
    iterate 2 refine RL.p rfl rfl ?_
    refine RL.done ?_
    refine RK.inBlock ?_
    refine RK.region ?_
    refine RL.p rfl rfl ?_
    refine RL.re (d := 23) rfl rfl (succ_i64 (by omega)) ?_
    refine RL.p rfl rfl ?_
    refine RL.done ?_
    exact RK.back (ih 1 _ ⟨hg3.trans hg4, by omega⟩ (by omega)) ⟨rfl, rfl, rfl, rfl, rfl, trivial⟩
  · obtain rfl : k = 1 := by omega
    refine RK.exit rfl ?_
    refine RK.seq ?_
    refine RK.region ?_
    iterate 2 refine RL.p rfl rfl ?_
    refine RL.done ?_
    refine RK.ret_of Tryz.func145 (res1 rfl rfl) ?_ _
    exact ⟨_, rfl, rfl, hg⟩
theorem tokOwner1_ok {w : World} {p : Nat} {most : Int} {v : Value} {s : ByteArray} {o : Int} (h : TkAt w p most v [(s, o)]) (hs : s.size ≤ 1000) : Fx Tryz.prog 82 [pp p, .string s] w (fun u w' => u = .tuple #[.int .i64 o, .bool true] ∧ Grow w w') := by
  have hsl := Sl.own (M := No) h.row (fun _ _ h => h)
  obtain ⟨b1, o1, c1, he1, _, _, hc1⟩ := hsl.elem (f := fun x : ByteArray × Int => [Value.string x.1, .int .i64 x.2]) (fun _ => rfl) (k := 0) (x := (s, o)) rfl
  subst he1
  refine enter Tryz.func82 rfl rfl rfl _ (Pick.sub (l := [0, 1]) (.cons rfl (.cons rfl .nil))) ?_
  refine RK.seq ?_
  refine RK.region ?_
  iterate 2 refine RL.p rfl rfl ?_
  refine RL.done ?_
  refine RK.seq ?_
  refine RK.region ?_
  iterate 2 refine RL.p rfl rfl ?_
  refine RL.op (.free rfl) rfl rfl (Does.call rfl e145 (tokPlace1_ok h hs)) ?_
  rintro _ w1 ⟨rfl, hg1⟩
  refine RL.p rfl rfl ?_
  refine RL.done ?_
  iterate 2 refine RK.seq ?_
  refine RK.region ?_
  iterate 2 refine RL.p rfl rfl ?_
  refine RL.done ?_
  refine RK.condF (hcF rfl (rfl)) ?_
  refine RK.skip ?_
  refine RK.seq ?_
  refine RK.region ?_
  iterate 2 refine RL.p rfl rfl ?_
  refine RL.q (.free rfl) rfl rfl (Yld.fieldAddr fo224_1 rfl) ?_
  refine RL.q (.free rfl) rfl rfl (Yld.load p222 rfl (at1 ((h.grow hg1).blk.cell rfl))) ?_
  refine RL.p rfl rfl ?_
  refine RL.q (.free rfl) rfl rfl (Yld.indexAddrN u222 i227 rfl rfl ((by decide : 0 < 1))) ?_
  refine RL.q (.free rfl) rfl rfl (Yld.fieldAddr fo227_1 rfl) ?_
  refine RL.q (.free rfl) rfl rfl (Yld.load p3 rfl (at1 (hg1.cell (hc1 1 (.int .i64 o) rfl) (fun h => h)))) ?_
  iterate 2 refine RL.p rfl rfl ?_
  refine RL.done ?_
  refine RK.ret_of Tryz.func82 (res2 rfl rfl rfl) ?_ _
  exact ⟨_, rfl, rfl, hg1⟩
end Go.Proofs.YtnnmgfnhblbolaaGreatDoor
set_option linter.unusedVariables false
set_option linter.unusedSimpArgs false
set_option maxHeartbeats 1000000
set_option maxRecDepth 100000
namespace Go.Proofs.YtnnmgfnhblbolaaGreatDoor
open Go Go.X
structure Sp where
  drop : Bool
  id : Int
  labs : List Int
  v : Value
def Sp.Ok (w : World) (x : Sp) : Prop := Sl No w x.v 1 x.labs.length (ints x.labs) ∧ (∀ n ∈ x.labs, -9223372036854775808 ≤ n ∧ n ≤ 9223372036854775807) ∧ -9223372036854775808 ≤ x.id ∧ x.id ≤ 9223372036854775807
end Go.Proofs.YtnnmgfnhblbolaaGreatDoor
set_option linter.unusedVariables false
set_option linter.unusedSimpArgs false
set_option maxHeartbeats 2000000
set_option maxRecDepth 100000
namespace Go.Proofs.YtnnmgfnhblbolaaGreatDoor
open Go Go.X
end Go.Proofs.YtnnmgfnhblbolaaGreatDoor
set_option linter.unusedVariables false
set_option linter.unusedSimpArgs false
set_option maxHeartbeats 1000000
set_option maxRecDepth 100000
namespace Go.Proofs.YtnnmgfnhblbolaaGreatDoor
open Go Go.X
end Go.Proofs.YtnnmgfnhblbolaaGreatDoor
set_option linter.unusedVariables false
set_option linter.unusedSimpArgs false
set_option maxHeartbeats 2000000
set_option maxRecDepth 100000
namespace Go.Proofs.YtnnmgfnhblbolaaGreatDoor
open Go Go.X
end Go.Proofs.YtnnmgfnhblbolaaGreatDoor
set_option linter.unusedVariables false
set_option linter.unusedSimpArgs false
namespace Go.X
open Go Go.RowKit
structure IterAt {κ : Type} (enc : κ → Value) (w : World) (r m : Nat) (rest : List (κ × Value)) : Prop where
  out : ∃ es clock seen, w.heap[m]? = some (.map es clock) ∧ w.heap[r]? = some (.mapIter (some m) clock seen clock) ∧ (es.toList.map (·.born)).Nodup ∧ (∀ e ∈ es.toList, e.born < clock) ∧ (es.toList.filter fun e => !seen.contains e.born).map (fun e => (e.key, e.val)) = rest.map fun p => (enc p.1, p.2)
structure EntryAt (w : World) (r m : Nat) (k v : Value) : Prop where
  out : ∃ es clock seen stamp e, w.heap[m]? = some (.map es clock) ∧ w.heap[r]? = some (.mapIter (some m) clock (Array.push seen stamp) clock) ∧ es.find? (·.born == stamp) = some e ∧ e.key = k ∧ e.val = v
theorem IterAt.mod {κ : Type} {enc : κ → Value} {M : Nat → Prop} {w w' : World} {r m : Nat} {rest : List (κ × Value)} (h : IterAt enc w r m rest) (hm : Mod M w w') (h1 : ¬ M r) (h2 : ¬ M m) : IterAt enc w' r m rest := by
  obtain ⟨es, c, s, a1, a2, a3⟩ := h.out
  exact ⟨es, c, s, hm.heap a1 h2, hm.heap a2 h1, a3⟩
theorem IterAt.lt {κ : Type} {enc : κ → Value} {w : World} {r m : Nat} {rest : List (κ × Value)} (h : IterAt enc w r m rest) : r < w.heap.size ∧ m < w.heap.size := by
  obtain ⟨es, c, s, a1, a2, a3⟩ := h.out
  exact ⟨(Array.getElem?_eq_some_iff.1 a2).1, (Array.getElem?_eq_some_iff.1 a1).1⟩
theorem EntryAt.mod {M : Nat → Prop} {w w' : World} {r m : Nat} {k v : Value} (h : EntryAt w r m k v) (hm : Mod M w w') (h1 : ¬ M r) (h2 : ¬ M m) : EntryAt w' r m k v := by
  obtain ⟨es, c, s, t, e, a1, a2, a3⟩ := h.out
  exact ⟨es, c, s, t, e, hm.heap a1 h2, hm.heap a2 h1, a3⟩
theorem filter_erase {α : Type} (f : α → Nat) : ∀ (l : List α) (i : Nat) (e : α), (l.map f).Nodup → l[i]? = some e → (l.filter fun x => !(f x == f e)) = l.eraseIdx i
  | [], i, e, _, h => by simp at h
  | x :: l, 0, e, hn, h => by
    simp at h; subst h
    rw [List.map_cons, List.nodup_cons] at hn
    simp only [List.filter_cons, beq_self_eq_true, Bool.not_true, Bool.false_eq_true, if_false, List.eraseIdx_cons_zero]
    refine List.filter_eq_self.2 fun y hy => ?_
    simp only [Bool.not_eq_true', beq_eq_false_iff_ne]
    intro e2
    exact hn.1 (e2 ▸ List.mem_map_of_mem (f := f) hy)
  | x :: l, i + 1, e, hn, h => by
    rw [List.map_cons, List.nodup_cons] at hn
    simp only [List.getElem?_cons_succ] at h
    have hne : ¬ f x = f e := fun e2 => hn.1 (e2 ▸ List.mem_map_of_mem (f := f) (List.mem_of_getElem? h))
    simp only [List.filter_cons, List.eraseIdx_cons_succ, beq_eq_false_iff_ne.2 hne, Bool.not_false, if_true, filter_erase f l i e hn.2 h]
theorem find_born {α : Type} (f : α → Nat) : ∀ (l : List α) {e : α}, (l.map f).Nodup → e ∈ l → (l.find? fun x => f x == f e) = some e
  | [], e, _, h => by simp at h
  | x :: l, e, hn, h => by
    rw [List.map_cons, List.nodup_cons] at hn
    rcases List.mem_cons.1 h with rfl | h
    · simp
    · have hne : ¬ f x = f e := fun e2 => hn.1 (e2 ▸ List.mem_map_of_mem (f := f) h)
      rw [List.find?_cons, beq_eq_false_iff_ne.2 hne]
      exact find_born f l hn.2 h
section
variable {P : Program} {n : Nat} {e : Env} {w : World} {κ : Type} {enc : κ → Value}
theorem Does.range {d : Option Tmp} {t kt el : Nat} {x : Operand} {ty : TypeId} {pos : String} {af : Array Edge} {g : Option (Nat × Bool)} (hT : P.underlying t = some (.map kt el)) {m : Nat} {l : List (κ × Value)} (hx : ev e x = some (.map (some m))) (hm : MapAt enc w m l) :
    Does P n e w ⟨d, .range t x, ty, pos, af, g⟩ (fun v w' => ∃ r, v = pp r ∧ IterAt enc w' r m l ∧ Grow w w' ∧ w.heap.size ≤ r) := by
  obtain ⟨es, c, h1, h2, h3, h4⟩ := hm.out
  refine Does.of_run (v := pp w.heap.size) (w' := w.alloc (.mapIter (some m) c #[] c)) (fun a ha => ?_) ⟨_, rfl, ⟨es, c, #[], ?_, heap_alloc_new w _, h3, h4, ?_⟩, Mod.alloc _ _ _, Nat.le_refl _⟩
  · have hg : (getObj m).run P w = .ok (.map es c) w := by simp [getObj, Sem.run, h1]
    simp [execOp, ha.ev hx, Instr.range, Sem.run_bind, run_underlying hT, hg, newObj, Sem.run, pp]
  · exact (Mod.alloc No w _).heap h1 (fun h => h)
  · rw [← h2]
    congr 1
    simp
def nextV (enc : κ → Value) : Option (κ × Value) → Value
  | none => .tuple #[.bool false]
  | some p => .tuple #[.bool true, enc p.1, p.2]
theorem Yld.nextOk {C : World → Prop} {d : Option Tmp} {x : Operand} {ty : TypeId} {pos : String} {af : Array Edge} {g : Option (Nat × Bool)} {o : Option (κ × Value)} (hx : ev e x = some (nextV enc o)) :
    Yld P n C e ⟨d, .extract x 0, ty, pos, af, g⟩ (.bool o.isSome) := by
  intro a ha w hw
  cases o with
  | none => simp [execOp, ha.ev hx, Instr.extract, nextV, Sem.run_bind]
  | some p => simp [execOp, ha.ev hx, Instr.extract, nextV, Sem.run_bind]
theorem Does.next {d : Option Tmp} {x : Operand} {ty : TypeId} {pos : String} {af : Array Edge} {g : Option (Nat × Bool)} {r m : Nat} {rest : List (κ × Value)} (hx : ev e x = some (pp r)) (hm : IterAt enc w r m rest) (hne : r ≠ m) :
    Does P n e w ⟨d, .next x false, ty, pos, af, g⟩ (fun v w' => ∃ o : Option (κ × Value), v = nextV enc o ∧ Mod (· = r) w w' ∧ (o = none → rest = []) ∧ ∀ p, o = some p → ∃ i : Nat, rest[i]? = some p ∧ IterAt enc w' r m (rest.eraseIdx i) ∧ EntryAt w' r m (enc p.1) p.2) := by
  obtain ⟨es, c, s, a1, a2, a3, a4, a5⟩ := hm.out
  have hg : ∀ w' : World, w'.heap = w.heap → (getObj m).run P w' = .ok (.map es c) w' := fun w' h => by simp [getObj, Sem.run, h, a1]
  have hr : (getObj r).run P w = .ok (.mapIter (some m) c s c) w := by simp [getObj, Sem.run, a2]
  have hall : (!es.isEmpty && es.all fun e => decide (e.born ≥ c)) = false := by
    cases he : es.toList with
    | nil => have : es = #[] := by simpa using he
             subst this; simp
    | cons e0 l =>
      have h0 : e0 ∈ es.toList := by rw [he]; simp
      have := a4 e0 h0
      rw [Bool.and_eq_false_iff]
      refine .inr ?_
      rw [← Array.all_toList, List.all_eq_false]
      exact ⟨e0, h0, by simp; omega⟩
  have hold : (es.filter fun e => !s.contains e.born).filter (fun e => decide (e.born < c)) = es.filter fun e => !s.contains e.born := by
    apply Array.ext'
    rw [Array.toList_filter]
    refine List.filter_eq_self.2 fun e he => ?_
    rw [Array.toList_filter] at he
    simpa using a4 e ((List.mem_filter.1 he).1)
  have hnew : (es.filter fun e => !s.contains e.born).filter (fun e => decide (e.born ≥ c)) = #[] := by
    apply Array.ext'
    rw [Array.toList_filter]
    refine List.filter_eq_nil_iff.2 fun e he => ?_
    rw [Array.toList_filter] at he
    have := a4 e ((List.mem_filter.1 he).1)
    simp; omega
  have hall2 : (!s.isEmpty && !es.isEmpty && es.all fun e => decide (e.born ≥ c)) = false := by
    rw [Bool.and_assoc, hall, Bool.and_false]
  have hlist : (es.filter fun e => !s.contains e.born).toList = es.toList.filter fun e => !s.contains e.born := Array.toList_filter
  generalize hLe : (es.filter fun e => !s.contains e.born) = L at *
  by_cases hL : L = #[]
  · have hrest : rest = [] := by
      rw [← hlist, hL] at a5
      simpa using a5.symm
    refine Does.of_run (v := .tuple #[.bool false]) (w' := w) (fun a ha => ?_) ⟨none, rfl, Mod.refl _ _, fun _ => hrest, (fun p h => by cases h)⟩
    simp only [execOp, ha.ev hx, Instr.next, pp, Sem.run_bind, hr, hg w rfl, Result.andThen_ok, hall2, hLe, hold, hnew, hL]
    simp [choose, Sem.run, Question.forced]
  · have hpos : 0 < L.size := by
      rcases Nat.eq_zero_or_pos L.size with h | h
      · exact absurd (Array.eq_empty_of_size_eq_zero h) hL
      · exact h
    obtain ⟨i, w1, hi, hch, hw1⟩ : ∃ i w1, i < L.size ∧ (choose (.mapNext L.size)).run P w = .ok i w1 ∧ (w1 = w ∨ w1 = { w with drawn := w.drawn + 1 }) := by
      by_cases hf : L.size ≤ 1
      · exact ⟨0, w, hpos, by simp [choose, Sem.run, Question.forced, hf], .inl rfl⟩
      · exact ⟨w.tape w.drawn (.mapNext L.size) % L.size, _, Nat.mod_lt _ hpos, by simp [choose, Sem.run, Question.forced, hf, Question.cut], .inr rfl⟩
    have hheap : w1.heap = w.heap := by rcases hw1 with rfl | rfl <;> rfl
    have hemp : L.isEmpty = false := by simpa using hL
    obtain ⟨en, hen⟩ : ∃ en, L[i]? = some en := ⟨L[i], Array.getElem?_eq_getElem hi⟩
    have henL : L.toList[i]? = some en := by simpa using hen
    obtain ⟨p, hp, hpk⟩ : ∃ p, rest[i]? = some p ∧ (en.key, en.val) = (enc p.1, p.2) := by
      have h5 := congrArg (fun q => q[i]?) a5
      rw [← hlist] at h5
      simp only [List.getElem?_map, henL, Option.map_some] at h5
      cases hp : rest[i]? with
      | none => rw [hp] at h5; simp at h5
      | some p => rw [hp] at h5; simp at h5; exact ⟨p, rfl, by simp [h5]⟩
    simp only [Prod.mk.injEq] at hpk
    have hrl : r < w.heap.size := (Array.getElem?_eq_some_iff.1 a2).1
    have hset : ∀ o, (setObj r o).run P w1 = .ok () { w1 with heap := w1.heap.setIfInBounds r o } := fun o => by simp [setObj, Sem.run, hheap, a2]
    have hmem : en ∈ es.toList := by
      have := List.mem_of_getElem? henL
      rw [hlist] at this
      exact (List.mem_filter.1 this).1
    refine Does.of_run (v := .tuple #[.bool true, enc p.1, p.2]) (w' := { w1 with heap := w1.heap.setIfInBounds r (.mapIter (some m) c (s.push en.born) c) }) (fun a ha => ?_) ⟨some p, rfl, ?_, (fun h => by cases h), fun p' hp' => ?_⟩
    · have hgm := hg w rfl
      simp only [execOp, ha.ev hx, Instr.next, pp, Sem.run_bind, hr, hgm, Result.andThen_ok, hall2, hLe, hold, hnew, hemp, Bool.false_eq_true, if_false, Array.append_empty, Array.empty_append, Array.size_map, hch, Array.getElem?_map, hen, Option.map_some, hset, Sem.run_pure, hpk.1, hpk.2]
    · refine ⟨by rcases hw1 with rfl | rfl <;> rfl, by rcases hw1 with rfl | rfl <;> rfl, by rcases hw1 with rfl | rfl <;> rfl, by simp [hheap], fun k hk hn => ?_⟩
      rw [Array.getElem?_setIfInBounds_ne (Ne.symm hn), hheap]
    · cases hp'
      refine ⟨i, hp, ⟨es, c, s.push en.born, ?_, ?_, a3, a4, ?_⟩, ⟨es, c, s, en.born, en, ?_, ?_, ?_, hpk.1, hpk.2⟩⟩
      · rw [Array.getElem?_setIfInBounds_ne hne, hheap]; exact a1
      · simp [hheap, hrl]
      · have hnd : (L.toList.map (·.born)).Nodup := by rw [hlist]; exact a3.sublist (List.filter_sublist.map _)
        have h6 := filter_erase (fun e : MapEntry => e.born) L.toList i en hnd henL
        have h7 : (es.toList.filter fun e => !(s.push en.born).contains e.born) = L.toList.eraseIdx i := by
          rw [← h6, hlist, List.filter_filter]
          refine List.filter_congr fun x _ => ?_
          by_cases h1 : x.born = en.born <;> simp [Array.contains_push, Bool.and_comm, h1]
        rw [h7, map_eraseIdx', hlist, a5, map_eraseIdx']
      · rw [Array.getElem?_setIfInBounds_ne hne, hheap]; exact a1
      · simp [hheap, hrl]
      · rw [← Array.find?_toList]
        exact find_born (fun e : MapEntry => e.born) es.toList a3 hmem
end
end Go.X
set_option linter.unusedVariables false
set_option linter.unusedSimpArgs false
set_option maxHeartbeats 1000000
set_option maxRecDepth 100000
namespace Go.Proofs.YtnnmgfnhblbolaaGreatDoor
open Go Go.X
end Go.Proofs.YtnnmgfnhblbolaaGreatDoor
set_option linter.unusedVariables false
set_option linter.unusedSimpArgs false
set_option maxHeartbeats 1000000
set_option maxRecDepth 100000
namespace Go.Proofs.YtnnmgfnhblbolaaGreatDoor
open Go Go.X
end Go.Proofs.YtnnmgfnhblbolaaGreatDoor
set_option linter.unusedVariables false
set_option linter.unusedSimpArgs false
set_option maxHeartbeats 1000000
set_option maxRecDepth 100000
namespace Go.Proofs.YtnnmgfnhblbolaaGreatDoor
open Go Go.X
end Go.Proofs.YtnnmgfnhblbolaaGreatDoor
set_option linter.unusedVariables false
set_option linter.unusedSimpArgs false
set_option maxHeartbeats 1000000
set_option maxRecDepth 100000
namespace Go.X
open Ieee
end Go.X
namespace Go.Proofs.YtnnmgfnhblbolaaGreatDoor
open Go Go.X
end Go.Proofs.YtnnmgfnhblbolaaGreatDoor
set_option linter.unusedVariables false
set_option linter.unusedSimpArgs false
set_option maxHeartbeats 1000000
set_option maxRecDepth 100000
namespace Go.Proofs.YtnnmgfnhblbolaaGreatDoor
open Go Go.X
end Go.Proofs.YtnnmgfnhblbolaaGreatDoor
set_option linter.unusedVariables false
set_option linter.unusedSimpArgs false
set_option maxHeartbeats 1000000
set_option maxRecDepth 100000
namespace Go.Proofs.YtnnmgfnhblbolaaGreatDoor
open Go Go.X
end Go.Proofs.YtnnmgfnhblbolaaGreatDoor
set_option linter.unusedVariables false
set_option linter.unusedSimpArgs false
set_option maxHeartbeats 1000000
set_option maxRecDepth 100000
namespace Go.Proofs.YtnnmgfnhblbolaaGreatDoor
open Go Go.X
end Go.Proofs.YtnnmgfnhblbolaaGreatDoor
set_option linter.unusedVariables false
set_option linter.unusedSimpArgs false
set_option maxHeartbeats 1000000
set_option maxRecDepth 100000
namespace Go.Proofs.YtnnmgfnhblbolaaGreatDoor
open Go Go.X
theorem KX.lt {O M : Nat → Prop} {w : World} {p : Nat} {s : St} (h : KX O M w p s) {b : Nat} (hb : M b) : b < w.heap.size := h.at_.lt hb
structure Sv where
  d : Int
  id : Int
  labs : List Int
  val : Nat
  v : Value
def Sv.Ok (w : World) (x : Sv) : Prop := Sl No w x.v 1 x.labs.length (ints x.labs) ∧ (∀ n ∈ x.labs, -9223372036854775808 ≤ n ∧ n ≤ 9223372036854775807) ∧ x.val < 18446744073709551616
end Go.Proofs.YtnnmgfnhblbolaaGreatDoor
set_option linter.unusedVariables false
set_option linter.unusedSimpArgs false
set_option maxHeartbeats 1000000
set_option maxRecDepth 100000
namespace Go.Proofs.YtnnmgfnhblbolaaGreatDoor
open Go Go.X
end Go.Proofs.YtnnmgfnhblbolaaGreatDoor
set_option linter.unusedVariables false
set_option linter.unusedSimpArgs false
set_option maxHeartbeats 1000000
set_option maxRecDepth 100000
namespace Go.Proofs.YtnnmgfnhblbolaaGreatDoor
open Go Go.X Go.Sort
abbrev strs (xs : List ByteArray) : List Value := xs.map Value.string
def lst (b : ByteArray) : List UInt8 := b.data.toList
theorem enc_lst (b : ByteArray) : encStr (lst b) = .string b := by
  unfold encStr lst
  simp
theorem enc_map (xs : List ByteArray) : (xs.map lst).map encStr = strs xs := by
  rw [List.map_map]
  exact List.map_congr_left fun b _ => enc_lst b
theorem sortStr_ok (xs : List ByteArray) (v : Value) (w : World) (hv : Row w 9 1 v xs.length (strs xs)) (hb : xs.length < 4611686018427387904) :
    Fx Tryz.prog 171 [v] w (fun u w' => u = .tuple #[] ∧ ∃ ys : List ByteArray, ys.Perm xs ∧ (ys.map lst).Pairwise (· ≤ ·) ∧ Row w' 9 1 v xs.length (strs ys) ∧ Mod (fun b => v.ownBlock = some b) w w') := by
  rcases hv.2 with ⟨rfl, h0⟩ | ⟨g, cap, cur, rfl, _, hg, hn, hcap, hcs, htk⟩
  · have : xs = [] := List.eq_nil_of_length_eq_zero h0
    subst this
    refine Calls.mono (Tryz.slices_Sort_string_none none 0 w) ?_
    rintro e w' ⟨rfl, rfl⟩
    exact ⟨_, rfl, rfl, [], .refl _, by simp, Row.nil w' _ _, Mod.refl _ _⟩
  · rw [Nat.mul_one, ← enc_map] at htk
    have hl : (xs.map lst).length = xs.length := by simp
    have hcall := Tryz.slices_Sort_string g 0 cap (xs.map lst) w (holds_of_block hg (by rw [hl]; exact htk)) (Array.getElem?_eq_some_iff.1 hg).1 (by rw [hl]; exact hb)
    rw [hl] at hcall
    refine Calls.mono hcall ?_
    rintro e w' ⟨rfl, n, os, rfl⟩
    have hp : ((xs.map lst).mergeSort fun x y => decide (x ≤ y)).Perm (xs.map lst) := List.mergeSort_perm _ _
    have hlen : ((xs.map lst).mergeSort fun x y => decide (x ≤ y)).length = (xs.map lst).length := hp.length_eq
    have hrow := ownsRow_sorted (ss := xs.map lst) (ts := (xs.map lst).mergeSort fun x y => decide (x ≤ y)) (n := n) (os := os) hlen (Nat.zero_le _) hg (by rw [hl]; exact hn) hcap hcs
    rw [hl] at hrow
    refine ⟨_, rfl, rfl, ((xs.map lst).mergeSort fun x y => decide (x ≤ y)).map fun l => ⟨l.toArray⟩, ?_, ?_, ?_, Mod.grownBy (grownBy_sorted _) (fun k h => by cases h; rfl)⟩
    · have := hp.map fun l : List UInt8 => (⟨l.toArray⟩ : ByteArray)
      rw [List.map_map] at this
      refine this.trans ?_
      rw [List.map_congr_left (g := id) (fun b _ => by simp [lst]), List.map_id]
    · rw [List.map_map, List.map_congr_left (g := id) (fun b _ => by simp [lst]), List.map_id]
      have := List.pairwise_mergeSort (le := fun x y : List UInt8 => decide (x ≤ y)) (fun a b c h1 h2 => by simp only [decide_eq_true_eq] at *; exact List.le_trans h1 h2) (fun a b => by simpa using List.le_total a b) (xs.map lst)
      exact this.imp fun h => by simpa using h
    · have e : strs (((xs.map lst).mergeSort fun x y => decide (x ≤ y)).map fun l => (⟨l.toArray⟩ : ByteArray)) = ((xs.map lst).mergeSort fun x y => decide (x ≤ y)).map encStr := by unfold strs; rw [List.map_map]; rfl
      rw [e]
      exact hrow
end Go.Proofs.YtnnmgfnhblbolaaGreatDoor
set_option linter.unusedVariables false
set_option linter.unusedSimpArgs false
set_option maxHeartbeats 1000000
set_option maxRecDepth 100000
namespace Go.Proofs.YtnnmgfnhblbolaaGreatDoor
open Go Go.X
end Go.Proofs.YtnnmgfnhblbolaaGreatDoor
set_option linter.unusedVariables false
set_option linter.unusedSimpArgs false
set_option maxHeartbeats 2000000
set_option maxRecDepth 100000
namespace Go.Proofs.YtnnmgfnhblbolaaGreatDoor
open Go Go.X
end Go.Proofs.YtnnmgfnhblbolaaGreatDoor
