/- What the claim stands on, part 6. Of own lemmas only those that it reaches. -/
import Derived.Test.YtcndimkkojdflaaGreatDoorKs5
set_option linter.unusedVariables false
set_option linter.unusedSimpArgs false
set_option maxHeartbeats 6400000
set_option maxRecDepth 100000
namespace Go.Proofs.YtcndimkkojdflaaGreatDoor
open Go Go.X
theorem Yld.strAdd {P : Program} {n : Nat} {e : Env} {C : World → Prop} {d : Option Tmp} {t : Nat} {x y : Operand} {t' ty : TypeId} {pos : String} {af : Array Edge} {g : Option (Nat × Bool)} {a b : ByteArray} (hx : ev e x = some (.string a)) (hy : ev e y = some (.string b)) (hs : a.size + b.size ≤ 1000000) : Yld P n C e ⟨d, .binOp .add t x y t', ty, pos, af, g⟩ (.string (a ++ b)) := by
  intro ac ha w _
  have h : (a.size : Int) + b.size ≤ 9223372036854775807 := by omega
  simp [execOp, ha.ev hx, ha.ev hy, eqGuard, binOp, Op.stringOp, h]
@[reducible] def runC (s d tk x1 x2 x3 x4 x5 x6 x7 x8 it an a v : Value) : List Value := [s, d, tk, x1, x2, x3, x4, x5, x6, x7, x8, it, an, a, v]
section
variable {w : World} {p : Nat} {s d tk x1 x2 x3 x4 x5 x6 x7 x8 it an a v : Value}
theorem copyR0_ok (hb : Blk w p 43 (runC s d tk x1 x2 x3 x4 x5 x6 x7 x8 it an (.pointer none) v)) : Fx Tryz.prog 73 [.pointer (some ⟨p, 13, none⟩)] w (fun _ w' => Blk w' p 43 (runC s d tk x1 x2 x3 x4 x5 x6 x7 x8 it an (.pointer (some ⟨p, 13, none⟩)) v) ∧ Mod (· = p) w w') := by
  refine enter Tryz.func73 rfl rfl rfl _ (Pick.sub (l := [0]) (.cons rfl .nil)) ?_
  refine RK.seq ?_
  refine RK.region ?_
  iterate 2 refine RL.p rfl rfl ?_
  refine RL.q (.free rfl) rfl rfl (Yld.fieldAddr fo41_0 rfl) ?_
  refine RL.q (.free rfl) rfl rfl (Yld.load p38 rfl (at1 (hb.cell rfl))) ?_
  refine RL.q (.free rfl) rfl rfl (Yld.eqPtr Tryz.underlying38 rfl rfl) ?_
  refine RL.done ?_
  refine RK.condT (hcT rfl (rfl)) ?_
  refine RK.region ?_
  iterate 2 refine RL.p rfl rfl ?_
  refine RL.q (.free rfl) rfl rfl (Yld.toUnsafe Tryz.underlying38 Tryz.underlying200 i41 rfl rfl (fun _ h => h ▸ hb) (by simp [runC])) ?_
  refine RL.q (.free rfl) rfl rfl (Yld.callx rfl (fun w => xNoEsc _ w)) ?_
  refine RL.q (.free rfl) rfl rfl (Yld.ofUnsafe Tryz.underlying200 Tryz.underlying38 i41 rfl (fun _ h => h ▸ hb) (by kernel_rfl)) ?_
  refine RL.p rfl rfl ?_
  refine RL.q (.free rfl) rfl rfl (Yld.fieldAddr fo41_0 rfl) ?_
  refine RL.op' (.free rfl) rfl (Does.store i38 rfl rfl rfl hb (SetAt.of (by simp [runC]))) ?_
  rintro _ w1 ⟨hb1, hm1, _⟩
  refine RL.done ?_
  refine RK.end_of Tryz.func73 (res0 rfl) ?_
  exact ⟨_, rfl, hb1, hm1⟩
theorem copyR1_ok (hb : Blk w p 43 (runC s d tk x1 x2 x3 x4 x5 x6 x7 x8 it an (.pointer (some ⟨p, 13, none⟩)) v)) : Fx Tryz.prog 73 [.pointer (some ⟨p, 13, none⟩)] w (fun _ w' => Blk w' p 43 (runC s d tk x1 x2 x3 x4 x5 x6 x7 x8 it an (.pointer (some ⟨p, 13, none⟩)) v) ∧ Mod (· = p) w w') := by
  refine enter Tryz.func73 rfl rfl rfl _ (Pick.sub (l := [0]) (.cons rfl .nil)) ?_
  refine RK.seq ?_
  refine RK.region ?_
  iterate 2 refine RL.p rfl rfl ?_
  refine RL.q (.free rfl) rfl rfl (Yld.fieldAddr fo41_0 rfl) ?_
  refine RL.q (.free rfl) rfl rfl (Yld.load p38 rfl (at1 (hb.cell rfl))) ?_
  refine RL.q (.free rfl) rfl rfl (Yld.eqPtr Tryz.underlying38 rfl rfl) ?_
  refine RL.done ?_
  refine RK.condF (hcF rfl (rfl)) ?_
  refine RK.seq ?_
  refine RK.region ?_
  iterate 2 refine RL.p rfl rfl ?_
  refine RL.q (.free rfl) rfl rfl (Yld.fieldAddr fo41_0 rfl) ?_
  refine RL.q (.free rfl) rfl rfl (Yld.load p38 rfl (at1 (hb.cell rfl))) ?_
  refine RL.p rfl rfl ?_
  refine RL.q (.free rfl) rfl rfl (Yld.neqPtrS Tryz.underlying38 i41 rfl rfl) ?_
  refine RL.done ?_
  refine RK.condF (hcF rfl (rfl)) ?_
  refine RK.skip ?_
  refine RK.end_of Tryz.func73 (res0 rfl) ?_
  exact ⟨_, rfl, hb, Mod.refl _ _⟩
theorem copyR_ok (hb : Blk w p 43 (runC s d tk x1 x2 x3 x4 x5 x6 x7 x8 it an a v)) (ha : a = .pointer none ∨ a = .pointer (some ⟨p, 13, none⟩)) : Fx Tryz.prog 73 [.pointer (some ⟨p, 13, none⟩)] w (fun _ w' => Blk w' p 43 (runC s d tk x1 x2 x3 x4 x5 x6 x7 x8 it an (.pointer (some ⟨p, 13, none⟩)) v) ∧ Mod (· = p) w w') := by
  rcases ha with rfl | rfl
  · exact copyR0_ok hb
  · exact copyR1_ok hb
theorem wStrR_ok {k base : Nat} {l : List UInt8} (hb : Blk w p 43 (runC s d tk x1 x2 x3 x4 x5 x6 x7 x8 it an a v)) (ha : a = .pointer none ∨ a = .pointer (some ⟨p, 13, none⟩)) (hr : Row w 5 1 v k (bytesV l)) (hf : Fresh base v) (hbase : base ≤ w.heap.size) (str : ByteArray) (hk : k + str.size ≤ 100000) : Fx Tryz.prog 40 [.pointer (some ⟨p, 13, none⟩), .string str] w (fun _ w' => ∃ v', Blk w' p 43 (runC s d tk x1 x2 x3 x4 x5 x6 x7 x8 it an (.pointer (some ⟨p, 13, none⟩)) v') ∧ Row w' 5 1 v' (k + str.size) (bytesV (l ++ str.data.toList)) ∧ Fresh base v' ∧ Mod (fun b => b = p ∨ v.ownBlock = some b) w w') := by
  have hplt := hb.lt
  have hvs : ¬ v.ownBlock = some p := fun e => (hr.ty e).ne hb.ty rfl rfl
  refine enter Tryz.func40 rfl rfl rfl _ (Pick.sub (l := [0, 1]) (.cons rfl (.cons rfl .nil))) ?_
  refine RK.seq ?_
  refine RK.region ?_
  iterate 2 refine RL.p rfl rfl ?_
  refine RL.done ?_
  refine RK.seq ?_
  refine RK.region ?_
  refine RL.p rfl rfl ?_
  refine RL.op (.free rfl) rfl rfl (Does.call rfl e73 (copyR_ok hb ha)) ?_
  rintro _ w1 ⟨hb1, hm1⟩
  have hr1 := hr.mod hm1 (fun b e1 e2 => hvs (e2 ▸ e1))
  have hz1 := hm1.size
  refine RL.done ?_
  refine RK.seq ?_
  refine RK.region ?_
  iterate 3 refine RL.p rfl rfl ?_
  refine RL.q (.free rfl) rfl rfl (Yld.fieldAddr fo41_1 rfl) ?_
  refine RL.q (.free rfl) rfl rfl (Yld.load p39 rfl (at1 (hb1.cell rfl))) ?_
  refine RL.p rfl rfl ?_
  refine RL.op (.free rfl) rfl rfl (Does.appendStr u39 Tryz.underlying9 i5 rfl rfl hr1 hf (by omega) (by omega)) ?_
  rintro u4 w4 ⟨hr4, hf4, hm4⟩
  have hb4 := hb1.mod hm4 hvs
  obtain ⟨ad4, c4, rfl⟩ := hr4.slice
  refine RL.p rfl rfl ?_
  refine RL.q (.free rfl) rfl rfl (Yld.fieldAddr fo41_1 rfl) ?_
  refine RL.op' (.free rfl) rfl (Does.store i39 rfl rfl rfl hb4 (SetAt.of (by simp [runC]))) ?_
  rintro _ w5 ⟨hb5, hm5, _⟩
  have hus : ¬ (Value.slice ad4 (k + str.size) c4).ownBlock = some p := fun e => (hr4.ty e).ne hb4.ty rfl rfl
  refine RL.done ?_
  refine RK.seq ?_
  refine RK.region ?_
  refine RL.p rfl rfl ?_
  refine RL.q (.free rfl) rfl rfl (Yld.lenStr u9 rfl) ?_
  iterate 2 refine RL.p rfl rfl ?_
  refine RL.done ?_
  refine RK.ret_of Tryz.func40 (res2 rfl rfl rfl) ?_ _
  exact ⟨_, rfl, _, hb5, by rw [bytesV_app]; exact hr4.mod hm5 (fun b e1 e2 => hus (e2 ▸ e1)), hf4, (hm1.mono fun b _ e => .inl e).trans ((hm4.mono fun b _ e => .inr e).trans (hm5.mono fun b _ e => .inl e))⟩
theorem tell_ok {k base : Nat} {l : List UInt8} (hb : Blk w p 43 (runC s d tk x1 x2 x3 x4 x5 x6 x7 x8 it an a v)) (ha : a = .pointer none ∨ a = .pointer (some ⟨p, 13, none⟩)) (hr : Row w 5 1 v k (bytesV l)) (hf : Fresh base v) (hbase : base ≤ w.heap.size) (str : ByteArray) (hk : k + str.size + 1 ≤ 100000) : Fx Tryz.prog 20 [pp p, .string str] w (fun _ w' => ∃ v', Blk w' p 43 (runC s d tk x1 x2 x3 x4 x5 x6 x7 x8 it an (.pointer (some ⟨p, 13, none⟩)) v') ∧ Row w' 5 1 v' (k + (str ++ ⟨#[10]⟩).size) (bytesV (l ++ (str ++ ⟨#[10]⟩ : ByteArray).data.toList)) ∧ Fresh base v' ∧ Mod (fun b => b = p ∨ v.ownBlock = some b) w w') := by
  refine enter Tryz.func20 rfl rfl rfl _ (Pick.sub (l := [0, 1]) (.cons rfl (.cons rfl .nil))) ?_
  refine RK.region ?_
  iterate 2 refine RL.p rfl rfl ?_
  refine RL.q (.free rfl) rfl rfl (Yld.fieldAddr fo43_3 rfl) ?_
  refine RL.p rfl rfl ?_
  refine RL.q (.free rfl) rfl rfl (Yld.strAdd rfl rfl (by have : (⟨#[10]⟩ : ByteArray).size = 1 := rfl; omega)) ?_
  refine RL.op (.free rfl) rfl rfl (Does.call rfl e40 (wStrR_ok hb ha hr hf hbase _ (by have : (str ++ ⟨#[10]⟩ : ByteArray).size = str.size + 1 := ByteArray.size_append; omega))) ?_
  rintro _ w1 h1
  refine RL.done ?_
  refine RK.end_of Tryz.func20 (res0 rfl) ?_
  exact ⟨_, rfl, h1⟩
theorem blStrR_ok {c rb : Nat} {l : List UInt8} (hb : Blk w p 43 (runC s d tk x1 x2 x3 x4 x5 x6 x7 x8 it an a (.slice (some ⟨rb, 0, none⟩) l.length c))) (hr : Row w 5 1 (.slice (some ⟨rb, 0, none⟩) l.length c) l.length (bytesV l)) (hl : l ≠ []) : Fx Tryz.prog 7 [.pointer (some ⟨p, 13, none⟩)] w (fun u w' => u = .string ⟨l.toArray⟩ ∧ Mod (· = rb) w w') := by
  have hlen : 0 < l.length := List.length_pos_iff.2 hl
  have hsr : ¬ p = rb := fun e => (hr.ty rfl).ne hb.ty rfl e.symm
  have hc : c ≠ 0 := by
    obtain ⟨g', cap, he, hcap, _⟩ := hr.form hlen
    cases he
    omega
  refine enter Tryz.func7 rfl rfl rfl _ (Pick.sub (l := [0]) (.cons rfl .nil)) ?_
  refine RK.seq ?_
  refine RK.region ?_
  refine RL.p rfl rfl ?_
  refine RL.done ?_
  refine RK.seq ?_
  refine RK.drawM (· = rb) [(0, false), (1, false), (2, false), (3, false), (4, false), (5, false), (6, false), (7, false), (8, false), (9, false), (10, true), (11, false)] [] mixed (by kernel_rfl) ?_
  iterate 2 refine DL.p rfl rfl rfl ?_
  refine DL.qf rfl (.free rfl) rfl rfl (Yld.fieldAddr fo41_1 rfl) ?_
  refine DL.q rfl (.free rfl) rfl rfl rfl (Yld.load p39 rfl (atM (hb.cell rfl) (hsr))) (Mod.drew _ _) ?_
  refine DL.q rfl (.free rfl) rfl rfl rfl (Yld.sliceData rfl hc) (Mod.drew _ _) ?_
  iterate 2 refine DL.p rfl rfl rfl ?_
  refine DL.qf rfl (.free rfl) rfl rfl (Yld.fieldAddr fo41_1 rfl) ?_
  refine DL.q rfl (.free rfl) rfl rfl rfl (Yld.load p39 rfl (atM (hb.cell rfl) (hsr))) (Mod.drew _ _) ?_
  refine DL.q rfl (.free rfl) rfl rfl rfl (Yld.lenSl u39 rfl) (Mod.drew _ _) ?_
  refine DL.op rfl (.free rfl) rfl rfl (Does.unsafeString Tryz.underlying49 (by kernel_rfl) rfl rfl hl hr) ?_
  rintro _ w1 ⟨rfl, hm1⟩
  refine ⟨(Mod.drew _ _).trans hm1, ?_⟩
  refine DL.p rfl rfl rfl ?_
  refine DL.done ?_
  refine RK.ret_of Tryz.func7 (res1 rfl rfl) ?_ _
  exact ⟨_, rfl, rfl, (Mod.drew _ _).trans hm1⟩
end
end Go.Proofs.YtcndimkkojdflaaGreatDoor
set_option linter.unusedVariables false
set_option linter.unusedSimpArgs false
set_option maxHeartbeats 6400000
set_option maxRecDepth 100000
namespace Go.Proofs.YtcndimkkojdflaaGreatDoor
open Go Go.X
section
variable {w : World} {p : Nat} {s d tk x1 x2 x3 x4 x5 x6 x7 x8 it an a v : Value}
theorem done_ok {n base : Nat} {xs ys : List Value} {ans : Value} {l : List UInt8} (hb : Blk w p 43 (runC s d tk x1 x2 x3 x4 x5 x6 x7 x8 it an a v)) (hi : Row w 68 3 it n xs) (hA : Row w 39 1 an n ys) (fi : Fresh base it) (fa : Fresh base an) (hbase : base ≤ w.heap.size) (hn : n ≤ 1000) (tick : Bool) (num : Int) (ra : Option Addr) (rk rc : Nat) (hs : Sl (fun b => b = p ∨ it.ownBlock = some b ∨ an.ownBlock = some b) w ans 1 l.length (bytesV l)) (hl : l ≠ []) (hll : l.length ≤ 1000) : Fx Tryz.prog 26 [pp p, .agg #[.bool tick, .int .u64 num, .slice ra rk rc], ans] w (fun u w' => u = .string ⟨(hexL l).toArray⟩ ∧ (∃ it' an' xs' ys', Blk w' p 43 (runC s d tk x1 x2 x3 x4 x5 x6 x7 x8 it' an' a v) ∧ Row w' 68 3 it' (n + 1) xs' ∧ Row w' 39 1 an' (n + 1) ys' ∧ Fresh base it' ∧ Fresh base an') ∧ Mod (fun b => b = p ∨ it.ownBlock = some b ∨ an.ownBlock = some b) w w') := by
  obtain ⟨aa, ac, rfl, _⟩ := hs.form
  have hplt := hb.lt
  have hip : ¬ it.ownBlock = some p := fun e => (hi.ty e).ne hb.ty rfl rfl
  have hap : ¬ an.ownBlock = some p := fun e => (hA.ty e).ne hb.ty rfl rfl
  have hia : ∀ b, it.ownBlock = some b → an.ownBlock = some b → False := fun b e1 e2 => (hi.ty e1).ne (hA.ty e2) rfl rfl
  refine enter Tryz.func26 rfl rfl rfl _ (Pick.sub (l := [0, 1, 2]) (.cons rfl (.cons rfl (.cons rfl .nil)))) ?_
  refine RK.seq ?_
  refine RK.region ?_
  refine RL.op (.free rfl) rfl rfl (Does.box rfl) ?_
  rintro _ w4 ⟨b4, rfl, hn4⟩
  have hz4 := hn4.size
  have zd : w4.drew.heap.size = w4.heap.size := rfl
  have g4 : Grow w w4.drew := hn4.grow.trans (Mod.drew No _)
  have hb0 := hb.mod g4 (fun h => h)
  have hi0 := hi.mod g4 (fun _ _ h => h)
  have hA0 := hA.mod g4 (fun _ _ h => h)
  have hn40 := hn4.blk.mod (Mod.drew No _) (fun h => h)
  have h4M : ¬ (it.ownBlock = some b4 ∨ an.ownBlock = some b4) := fun h => by
      have := hn4.at_
      rcases h with h | h
      · exact absurd (hi.lt h) (by omega)
      · exact absurd (hA.lt h) (by omega)
  have h4c : ∀ j u, [Value.bool tick, .int .u64 num, .slice ra rk rc][j]? = some u → w4.drew.cell? ⟨b4, 0 + j, none⟩ = some u := fun j u hj => hn40.cell' (by rw [Nat.zero_add]; exact hj)
  refine RL.p rfl rfl ?_
  refine RL.done ?_
  refine RK.seq ?_
  refine RK.drawT (fun b => it.ownBlock = some b ∨ an.ownBlock = some b) (.op 0 false (.op 1 false (.op 2 false (.op 3 false (.op 4 false (.op 5 false (.op 6 false (.op 7 false (.op 10 false (.op 11 false (.op 12 false (.op 13 false (.op 14 false (.op 15 false (.fork 8 (.fork 9 (.op 16 true (.op 17 true (.op 18 false (.op 19 false (.op 20 false (.op 21 true (.op 22 false (.op 23 false (.op 24 false (.op 25 true .nil)))))))))) 16 (.op 9 true (.op 17 true (.op 18 false (.op 19 false (.op 20 false (.op 21 true (.op 22 false (.op 23 false (.op 24 false (.op 25 true .nil))))))))))) 16 (.op 8 true (.op 9 true (.op 17 true (.op 18 false (.op 19 false (.op 20 false (.op 21 true (.op 22 false (.op 23 false (.op 24 false (.op 25 true .nil)))))))))))))))))))))))))) [21, 25] mixed (by kernel_rfl) ?_
  iterate 4 refine DT.p rfl rfl rfl ?_
  refine DT.qf rfl (.free rfl) rfl rfl (Yld.fieldAddr fo43_2 rfl) ?_
  refine DT.qf rfl (.free rfl) rfl rfl (Yld.fieldAddr fo37_1 rfl) ?_
  refine DT.q rfl (.free rfl) rfl rfl rfl (Yld.load p34 rfl (atM (hb0.cell rfl) ((fun h => h.elim hip hap)))) (Mod.drew _ _) ?_
  refine DT.q rfl (.free rfl) rfl rfl rfl (Yld.loadN (cs := [.bool tick, .int .u64 num, .slice ra rk rc]) a68 rfl (atNM (h4c) (h4M))) (Mod.drew _ _) ?_
  iterate 2 refine DT.p rfl rfl rfl ?_
  refine DT.qf rfl (.free rfl) rfl rfl (Yld.fieldAddr fo43_2 rfl) ?_
  refine DT.qf rfl (.free rfl) rfl rfl (Yld.fieldAddr fo37_2 rfl) ?_
  refine DT.q rfl (.free rfl) rfl rfl rfl (Yld.load p35 rfl (atM (hb0.cell rfl) ((fun h => h.elim hip hap)))) (Mod.drew _ _) ?_
  refine DT.p rfl rfl rfl ?_
  refine DT.fork ?_ ?_
  · refine DT.op rfl (.free rfl) rfl rfl (Does.bslice (el := 68) ([.bool tick, .int .u64 num, .slice ra rk rc]) rfl (fun w => by kernel_rfl)) ?_
    rintro _ wI ⟨bI, rfl, hnI⟩
    have zI := hnI.size
    have sI : Sl No wI (.slice (some ⟨bI, 0, none⟩) 1 1) 3 1 _ := Sl.new hnI 3 1 rfl (by decide) (fun h => h)
    have itI := hi0.mod hnI.grow (fun _ _ h => h)
    have anI := hA0.mod hnI.grow (fun _ _ h => h)
    have pI := hb0.mod hnI.grow (fun h => h)
    refine ⟨((Mod.drew _ _).trans (Mod.any' hnI.grow)), ?_⟩
    refine DT.fork ?_ ?_
    · refine DT.op rfl (.free rfl) rfl rfl (Does.append u34 i68 rfl rfl rfl rfl rfl (itI) (sI) (rfl) (by omega)) ?_
      rintro u6 w6 ⟨hr6, hm6, hu6⟩
      have z6 := hm6.size
      have fr6 : Fresh base u6 := fun b e => by
          rcases hu6 with h | h <;> rw [h] at e
          · exact fi b e
          · cases e; omega
      have p6 := pI.mod hm6 hip
      have an6 := anI.mod hm6 (fun b e1 e2 => hia b e2 e1)
      refine ⟨(((Mod.drew _ _).trans (Mod.any' hnI.grow)).trans (hm6.mono fun _ _ h => .inl h)), ?_⟩
      refine DT.op rfl (.free rfl) rfl rfl (Does.bslice (el := 39) ([.slice aa l.length ac]) rfl (fun w => by kernel_rfl)) ?_
      rintro _ wA ⟨bA, rfl, hnA⟩
      have zA := hnA.size
      have sA : Sl (fun b => it.ownBlock = some b) wA (.slice (some ⟨bA, 0, none⟩) 1 1) 1 1 _ := Sl.new hnA 1 1 rfl (by decide) (fun h => by have := hi.lt h; have := hnA.at_; omega)
      have itA := hr6.mod hnA.grow (fun _ _ h => h)
      have anA := an6.mod hnA.grow (fun _ _ h => h)
      have pA := p6.mod hnA.grow (fun h => h)
      refine ⟨((((Mod.drew _ _).trans (Mod.any' hnI.grow)).trans (hm6.mono fun _ _ h => .inl h)).trans (Mod.any' hnA.grow)), ?_⟩
      refine DT.op rfl (.free rfl) rfl rfl (Does.append u35 i39 rfl rfl rfl rfl rfl (anA) (sA.noM) (rfl) (by omega)) ?_
      rintro u8 w8 ⟨hr8, hm8, hu8⟩
      have fr8 : Fresh base u8 := fun b e => by
          rcases hu8 with h | h <;> rw [h] at e
          · exact fa b e
          · cases e; omega
      have hM8 : Mod (fun b => it.ownBlock = some b ∨ an.ownBlock = some b) w w8 := (Mod.any' hn4.grow).trans (((((Mod.drew _ _).trans (Mod.any' hnI.grow)).trans (hm6.mono fun _ _ h => .inl h)).trans (Mod.any' hnA.grow)).trans (hm8.mono fun _ _ h => .inr h))
      have p8 := hb.mod hM8 (fun h => h.elim hip hap)
      have it8 := itA.mod hm8 (fun b e1 e2 => (itA.ty e1).ne (anA.ty e2) rfl rfl)
      refine ⟨(((((Mod.drew _ _).trans (Mod.any' hnI.grow)).trans (hm6.mono fun _ _ h => .inl h)).trans (Mod.any' hnA.grow)).trans (hm8.mono fun _ _ h => .inr h)), ?_⟩
      obtain ⟨ai6, ci6, rfl⟩ := it8.slice
      obtain ⟨ai8, ci8, rfl⟩ := hr8.slice
      have hui : ∀ b, (Value.slice ai6 (n + 1) ci6).ownBlock = some b → ¬ b = p := fun b e1 e2 => (it8.ty e1).ne p8.ty rfl e2
      have hua : ∀ b, (Value.slice ai8 (n + 1) ci8).ownBlock = some b → ¬ b = p := fun b e1 e2 => (hr8.ty e1).ne p8.ty rfl e2
      refine DT.p rfl rfl rfl ?_
      refine DT.qf rfl (.free rfl) rfl rfl (Yld.fieldAddr fo43_2 rfl) ?_
      refine DT.qf rfl (.free rfl) rfl rfl (Yld.fieldAddr fo37_1 rfl) ?_
      refine DT.opT rfl (.free rfl) rfl rfl (Does.store i34 rfl rfl rfl p8 (SetAt.of (by simp [runC]))) ?_
      rintro _ w9 ⟨p9, hm9, _⟩
      refine DT.p rfl rfl rfl ?_
      refine DT.qf rfl (.free rfl) rfl rfl (Yld.fieldAddr fo43_2 rfl) ?_
      refine DT.qf rfl (.free rfl) rfl rfl (Yld.fieldAddr fo37_2 rfl) ?_
      refine DT.opT rfl (.free rfl) rfl rfl (Does.store i35 rfl rfl rfl p9 (SetAt.of (by simp [runC]))) ?_
      rintro _ w10 ⟨p10, hm10, _⟩
      have hm : Mod (fun b => b = p ∨ it.ownBlock = some b ∨ an.ownBlock = some b) w w10 := (hM8.mono fun _ _ h => Or.inr h).trans ((hm9.trans hm10).mono fun _ _ h => Or.inl h)
      refine DT.done ?_
      refine RK.seq ?_
      refine RK.region ?_
      refine RL.p rfl rfl ?_
      refine RL.op (.free rfl) rfl rfl (Does.call rfl e46 (hex_ok ((hs.mod hm).noM) hl hll)) ?_
      rintro _ w11 ⟨rfl, g11⟩
      refine RL.p rfl rfl ?_
      refine RL.done ?_
      refine RK.ret_of Tryz.func26 (res1 rfl rfl) ?_ _
      exact ⟨_, rfl, rfl, ⟨_, _, _, _, p10.mod g11 (fun h => h), ((it8.mod hm9 hui).mod hm10 hui).mod g11 (fun _ _ h => h), ((hr8.mod hm9 hua).mod hm10 hua).mod g11 (fun _ _ h => h), fr6, fr8⟩, hm.trans (Mod.any' g11)⟩
    · refine DT.op rfl (.free rfl) rfl rfl (Does.bslice (el := 39) ([.slice aa l.length ac]) rfl (fun w => by kernel_rfl)) ?_
      rintro _ wA ⟨bA, rfl, hnA⟩
      have zA := hnA.size
      have sA : Sl (fun b => it.ownBlock = some b) wA (.slice (some ⟨bA, 0, none⟩) 1 1) 1 1 _ := Sl.new hnA 1 1 rfl (by decide) (fun h => by have := hi.lt h; have := hnA.at_; omega)
      have itA := itI.mod hnA.grow (fun _ _ h => h)
      have anA := anI.mod hnA.grow (fun _ _ h => h)
      have pA := pI.mod hnA.grow (fun h => h)
      have sI := sI.mod hnA.grow
      refine ⟨(((Mod.drew _ _).trans (Mod.any' hnI.grow)).trans (Mod.any' hnA.grow)), ?_⟩
      refine DT.op rfl (.free rfl) rfl rfl (Does.append u34 i68 rfl rfl rfl rfl rfl (itA) (sI) (rfl) (by omega)) ?_
      rintro u6 w6 ⟨hr6, hm6, hu6⟩
      have z6 := hm6.size
      have fr6 : Fresh base u6 := fun b e => by
          rcases hu6 with h | h <;> rw [h] at e
          · exact fi b e
          · cases e; omega
      have sA := sA.mod hm6
      have p6 := pA.mod hm6 hip
      have an6 := anA.mod hm6 (fun b e1 e2 => hia b e2 e1)
      refine ⟨((((Mod.drew _ _).trans (Mod.any' hnI.grow)).trans (Mod.any' hnA.grow)).trans (hm6.mono fun _ _ h => .inl h)), ?_⟩
      refine DT.op rfl (.free rfl) rfl rfl (Does.append u35 i39 rfl rfl rfl rfl rfl (an6) (sA.noM) (rfl) (by omega)) ?_
      rintro u8 w8 ⟨hr8, hm8, hu8⟩
      have fr8 : Fresh base u8 := fun b e => by
          rcases hu8 with h | h <;> rw [h] at e
          · exact fa b e
          · cases e; omega
      have hM8 : Mod (fun b => it.ownBlock = some b ∨ an.ownBlock = some b) w w8 := (Mod.any' hn4.grow).trans (((((Mod.drew _ _).trans (Mod.any' hnI.grow)).trans (Mod.any' hnA.grow)).trans (hm6.mono fun _ _ h => .inl h)).trans (hm8.mono fun _ _ h => .inr h))
      have p8 := hb.mod hM8 (fun h => h.elim hip hap)
      have it8 := hr6.mod hm8 (fun b e1 e2 => (hr6.ty e1).ne (an6.ty e2) rfl rfl)
      refine ⟨(((((Mod.drew _ _).trans (Mod.any' hnI.grow)).trans (Mod.any' hnA.grow)).trans (hm6.mono fun _ _ h => .inl h)).trans (hm8.mono fun _ _ h => .inr h)), ?_⟩
      obtain ⟨ai6, ci6, rfl⟩ := it8.slice
      obtain ⟨ai8, ci8, rfl⟩ := hr8.slice
      have hui : ∀ b, (Value.slice ai6 (n + 1) ci6).ownBlock = some b → ¬ b = p := fun b e1 e2 => (it8.ty e1).ne p8.ty rfl e2
      have hua : ∀ b, (Value.slice ai8 (n + 1) ci8).ownBlock = some b → ¬ b = p := fun b e1 e2 => (hr8.ty e1).ne p8.ty rfl e2
      refine DT.p rfl rfl rfl ?_
      refine DT.qf rfl (.free rfl) rfl rfl (Yld.fieldAddr fo43_2 rfl) ?_
      refine DT.qf rfl (.free rfl) rfl rfl (Yld.fieldAddr fo37_1 rfl) ?_
      refine DT.opT rfl (.free rfl) rfl rfl (Does.store i34 rfl rfl rfl p8 (SetAt.of (by simp [runC]))) ?_
      rintro _ w9 ⟨p9, hm9, _⟩
      refine DT.p rfl rfl rfl ?_
      refine DT.qf rfl (.free rfl) rfl rfl (Yld.fieldAddr fo43_2 rfl) ?_
      refine DT.qf rfl (.free rfl) rfl rfl (Yld.fieldAddr fo37_2 rfl) ?_
      refine DT.opT rfl (.free rfl) rfl rfl (Does.store i35 rfl rfl rfl p9 (SetAt.of (by simp [runC]))) ?_
      rintro _ w10 ⟨p10, hm10, _⟩
      have hm : Mod (fun b => b = p ∨ it.ownBlock = some b ∨ an.ownBlock = some b) w w10 := (hM8.mono fun _ _ h => Or.inr h).trans ((hm9.trans hm10).mono fun _ _ h => Or.inl h)
      refine DT.done ?_
      refine RK.seq ?_
      refine RK.region ?_
      refine RL.p rfl rfl ?_
      refine RL.op (.free rfl) rfl rfl (Does.call rfl e46 (hex_ok ((hs.mod hm).noM) hl hll)) ?_
      rintro _ w11 ⟨rfl, g11⟩
      refine RL.p rfl rfl ?_
      refine RL.done ?_
      refine RK.ret_of Tryz.func26 (res1 rfl rfl) ?_ _
      exact ⟨_, rfl, rfl, ⟨_, _, _, _, p10.mod g11 (fun h => h), ((it8.mod hm9 hui).mod hm10 hui).mod g11 (fun _ _ h => h), ((hr8.mod hm9 hua).mod hm10 hua).mod g11 (fun _ _ h => h), fr6, fr8⟩, hm.trans (Mod.any' g11)⟩
  · refine DT.op rfl (.free rfl) rfl rfl (Does.bslice (el := 39) ([.slice aa l.length ac]) rfl (fun w => by kernel_rfl)) ?_
    rintro _ wA ⟨bA, rfl, hnA⟩
    have zA := hnA.size
    have sA : Sl (fun b => it.ownBlock = some b) wA (.slice (some ⟨bA, 0, none⟩) 1 1) 1 1 _ := Sl.new hnA 1 1 rfl (by decide) (fun h => by have := hi.lt h; have := hnA.at_; omega)
    have itA := hi0.mod hnA.grow (fun _ _ h => h)
    have anA := hA0.mod hnA.grow (fun _ _ h => h)
    have pA := hb0.mod hnA.grow (fun h => h)
    refine ⟨((Mod.drew _ _).trans (Mod.any' hnA.grow)), ?_⟩
    refine DT.op rfl (.free rfl) rfl rfl (Does.bslice (el := 68) ([.bool tick, .int .u64 num, .slice ra rk rc]) rfl (fun w => by kernel_rfl)) ?_
    rintro _ wI ⟨bI, rfl, hnI⟩
    have zI := hnI.size
    have sI : Sl No wI (.slice (some ⟨bI, 0, none⟩) 1 1) 3 1 _ := Sl.new hnI 3 1 rfl (by decide) (fun h => h)
    have itI := itA.mod hnI.grow (fun _ _ h => h)
    have anI := anA.mod hnI.grow (fun _ _ h => h)
    have pI := pA.mod hnI.grow (fun h => h)
    have sA := sA.mod (Mod.any' hnI.grow)
    refine ⟨(((Mod.drew _ _).trans (Mod.any' hnA.grow)).trans (Mod.any' hnI.grow)), ?_⟩
    refine DT.op rfl (.free rfl) rfl rfl (Does.append u34 i68 rfl rfl rfl rfl rfl (itI) (sI) (rfl) (by omega)) ?_
    rintro u6 w6 ⟨hr6, hm6, hu6⟩
    have z6 := hm6.size
    have fr6 : Fresh base u6 := fun b e => by
        rcases hu6 with h | h <;> rw [h] at e
        · exact fi b e
        · cases e; omega
    have sA := sA.mod hm6
    have p6 := pI.mod hm6 hip
    have an6 := anI.mod hm6 (fun b e1 e2 => hia b e2 e1)
    refine ⟨((((Mod.drew _ _).trans (Mod.any' hnA.grow)).trans (Mod.any' hnI.grow)).trans (hm6.mono fun _ _ h => .inl h)), ?_⟩
    refine DT.op rfl (.free rfl) rfl rfl (Does.append u35 i39 rfl rfl rfl rfl rfl (an6) (sA.noM) (rfl) (by omega)) ?_
    rintro u8 w8 ⟨hr8, hm8, hu8⟩
    have fr8 : Fresh base u8 := fun b e => by
        rcases hu8 with h | h <;> rw [h] at e
        · exact fa b e
        · cases e; omega
    have hM8 : Mod (fun b => it.ownBlock = some b ∨ an.ownBlock = some b) w w8 := (Mod.any' hn4.grow).trans (((((Mod.drew _ _).trans (Mod.any' hnA.grow)).trans (Mod.any' hnI.grow)).trans (hm6.mono fun _ _ h => .inl h)).trans (hm8.mono fun _ _ h => .inr h))
    have p8 := hb.mod hM8 (fun h => h.elim hip hap)
    have it8 := hr6.mod hm8 (fun b e1 e2 => (hr6.ty e1).ne (an6.ty e2) rfl rfl)
    refine ⟨(((((Mod.drew _ _).trans (Mod.any' hnA.grow)).trans (Mod.any' hnI.grow)).trans (hm6.mono fun _ _ h => .inl h)).trans (hm8.mono fun _ _ h => .inr h)), ?_⟩
    obtain ⟨ai6, ci6, rfl⟩ := it8.slice
    obtain ⟨ai8, ci8, rfl⟩ := hr8.slice
    have hui : ∀ b, (Value.slice ai6 (n + 1) ci6).ownBlock = some b → ¬ b = p := fun b e1 e2 => (it8.ty e1).ne p8.ty rfl e2
    have hua : ∀ b, (Value.slice ai8 (n + 1) ci8).ownBlock = some b → ¬ b = p := fun b e1 e2 => (hr8.ty e1).ne p8.ty rfl e2
    refine DT.p rfl rfl rfl ?_
    refine DT.qf rfl (.free rfl) rfl rfl (Yld.fieldAddr fo43_2 rfl) ?_
    refine DT.qf rfl (.free rfl) rfl rfl (Yld.fieldAddr fo37_1 rfl) ?_
    refine DT.opT rfl (.free rfl) rfl rfl (Does.store i34 rfl rfl rfl p8 (SetAt.of (by simp [runC]))) ?_
    rintro _ w9 ⟨p9, hm9, _⟩
    refine DT.p rfl rfl rfl ?_
    refine DT.qf rfl (.free rfl) rfl rfl (Yld.fieldAddr fo43_2 rfl) ?_
    refine DT.qf rfl (.free rfl) rfl rfl (Yld.fieldAddr fo37_2 rfl) ?_
    refine DT.opT rfl (.free rfl) rfl rfl (Does.store i35 rfl rfl rfl p9 (SetAt.of (by simp [runC]))) ?_
    rintro _ w10 ⟨p10, hm10, _⟩
    have hm : Mod (fun b => b = p ∨ it.ownBlock = some b ∨ an.ownBlock = some b) w w10 := (hM8.mono fun _ _ h => Or.inr h).trans ((hm9.trans hm10).mono fun _ _ h => Or.inl h)
    refine DT.done ?_
    refine RK.seq ?_
    refine RK.region ?_
    refine RL.p rfl rfl ?_
    refine RL.op (.free rfl) rfl rfl (Does.call rfl e46 (hex_ok ((hs.mod hm).noM) hl hll)) ?_
    rintro _ w11 ⟨rfl, g11⟩
    refine RL.p rfl rfl ?_
    refine RL.done ?_
    refine RK.ret_of Tryz.func26 (res1 rfl rfl) ?_ _
    exact ⟨_, rfl, rfl, ⟨_, _, _, _, p10.mod g11 (fun h => h), ((it8.mod hm9 hui).mod hm10 hui).mod g11 (fun _ _ h => h), ((hr8.mod hm9 hua).mod hm10 hua).mod g11 (fun _ _ h => h), fr6, fr8⟩, hm.trans (Mod.any' g11)⟩
end
end Go.Proofs.YtcndimkkojdflaaGreatDoor
set_option linter.unusedVariables false
set_option linter.unusedSimpArgs false
set_option maxHeartbeats 6400000
set_option maxRecDepth 100000
namespace Go.Proofs.YtcndimkkojdflaaGreatDoor
open Go Go.X
theorem dockNew_ok (w : World) : Fx Tryz.prog 19 [.int .i64 3, .int .i64 2] w (fun u w' => (∃ b, u = pp b) ∧ Grow w w') := by
  refine enter Tryz.func19 rfl rfl rfl _ (Pick.sub (l := [0, 1]) (.cons rfl (.cons rfl .nil))) ?_
  refine RK.seq ?_
  refine RK.region ?_
  refine RL.p rfl rfl ?_
  refine RL.done ?_
  refine RK.seq ?_
  refine RK.region ?_
  refine RL.q (.free rfl) rfl rfl (Yld.build (v := .agg #[.slice none 0 0, .int .i64 1, .int .i64 0]) rfl (fun w => by kernel_rfl)) ?_
  refine RL.op (.free rfl) rfl rfl (Does.box rfl) ?_
  rintro _ w0 ⟨dd, rfl, hn0⟩
  have hz0 := hn0.size
  have ha0 := hn0.at_
  refine RL.p rfl rfl ?_
  refine RL.done ?_
  iterate 2 refine RK.seq ?_
  refine RK.region ?_
  refine RL.p rfl rfl ?_
  refine RL.q (.free rfl) rfl rfl (Yld.max2 rfl rfl) ?_
  refine RL.q (.free rfl) rfl rfl (Yld.min2 rfl rfl) ?_
  refine RL.p rfl rfl ?_
  refine RL.done ?_
  refine RK.block ?_
  refine RK.loop (fun k : Nat => [(0, .int .i64 3), (1, .int .i64 2), (4, .pointer none), (5, pp dd), (10, .int .i64 3), (11, .int .i64 (k : Int))]) (fun k w' => k ≤ 3 ∧ (∃ v xs, Blk w' dd 92 [v, .int .i64 1, .int .i64 0] ∧ Row w' 93 1 v k xs ∧ Fresh w0.heap.size v) ∧ Grow w w' ∧ w0.heap.size ≤ w'.heap.size) (fun k => 3 - k) 0 ⟨rfl, rfl, rfl, rfl, rfl, rfl, trivial⟩ ⟨Nat.zero_le _, ⟨_, _, hn0.blk, Row.nil _ _ _, fun b e => by simp [Value.ownBlock] at e⟩, hn0.grow, Nat.le_refl _⟩ (fun k w' hI ih => ?_)
  obtain ⟨hk, ⟨v, xs, hB, hr, hf⟩, hg, hz⟩ := hI
  have hlt := hB.lt
  refine RK.seq ?_
  refine RK.region ?_
  refine RL.p rfl rfl ?_
  refine RL.done ?_
  refine RK.seq ?_
  first | refine RK.condD rfl (fun h12 => ?_) (fun h12 => ?_) | refine RK.condN rfl (fun h12 => ?_) (fun h12 => ?_) | refine RK.cond rfl (fun h12 => ?_) (fun h12 => ?_)
  · have hBd := hB.mod (Mod.drew No _) (fun h => h)
    have hvd : ¬ v.ownBlock = some dd := fun e => (hr.ty e).ne hB.ty rfl rfl
    refine RK.skip ?_
    refine RK.seq ?_
    refine RK.block ?_
    refine RK.drawM (fun b => v.ownBlock = some b) [(0, false), (1, false), (2, false), (3, false), (4, false), (5, false), (6, false), (7, false), (8, true), (9, true), (10, true), (11, false), (12, false), (13, true)] [13] mixed (by kernel_rfl) ?_
    iterate 3 refine DL.p rfl rfl rfl ?_
    refine DL.qf rfl (.free rfl) rfl rfl (Yld.fieldAddr fo92_0 rfl) ?_
    refine DL.q rfl (.free rfl) rfl rfl rfl (Yld.load p90 rfl (atM (hBd.cell rfl) (hvd))) (Mod.drew _ _) ?_
    refine DL.p rfl rfl rfl ?_
    refine DL.q rfl (.free rfl) rfl rfl rfl (Yld.max2 rfl rfl) (Mod.drew _ _) ?_
    refine DL.q rfl (.free rfl) rfl rfl rfl (Yld.min2 rfl rfl) (Mod.drew _ _) ?_
    refine DL.op rfl (.free rfl) rfl rfl (Does.mkChan rfl (fun w => by kernel_rfl)) ?_
    rintro _ w2 ⟨⟨cb, rfl⟩, hg2⟩
    refine ⟨(Mod.drew _ _).trans (Mod.any' hg2), ?_⟩
    refine DL.op rfl (.free rfl) rfl rfl (Does.slice1 u90 i93 rfl rfl rfl rfl rfl) ?_
    rintro _ w3 ⟨b3, rfl, hn3⟩
    refine ⟨((Mod.drew _ _).trans (Mod.any' hg2)).trans (Mod.any' hn3.grow), ?_⟩
    have g3 : Grow w' w3 := ((Mod.drew No _).trans hg2).trans hn3.grow
    have hz2 := hg2.size
    have hzd : w'.drew.heap.size = w'.heap.size := rfl
    have hz3 := hn3.size
    refine DL.op rfl (.free rfl) rfl rfl (Does.append u90 i93 rfl rfl rfl rfl rfl (hr.mod g3 (fun _ _ h => h)) (Sl.new hn3 1 1 rfl (by decide) (fun h => h)) (rfl) (by omega)) ?_
    rintro u4 w4 ⟨hr4, hm4, hu4⟩
    refine ⟨(Mod.any' g3).trans hm4, ?_⟩
    have hf4 : Fresh w0.heap.size u4 := fun b e => by
        rcases hu4 with h | h <;> rw [h] at e
        · exact hf b e
        · cases e; omega
    have hB4 := (hB.mod g3 (fun h => h)).mod hm4 hvd
    obtain ⟨ad4, c4, rfl⟩ := hr4.slice
    refine DL.p rfl rfl rfl ?_
    refine DL.qf rfl (.free rfl) rfl rfl (Yld.fieldAddr fo92_0 rfl) ?_
    refine DL.opT rfl (.free rfl) rfl rfl (Does.store i90 rfl rfl rfl hB4 (.z)) ?_
    rintro _ w5 ⟨hb5, hm5, _⟩
    have hz4 := hm4.size
    have hz5 := hm5.size
    have hus : ¬ (Value.slice ad4 (k + 1) c4).ownBlock = some dd := fun e => (hr4.ty e).ne hB4.ty rfl rfl
    refine DL.done ?_
    refine RK.inBlock ?_
    refine RK.region ?_
    refine RL.p rfl rfl ?_
    refine RL.re (d := 26) rfl rfl (add_i64 (z := ((k + 1 : Nat) : Int)) (by simp) (by omega) (by omega)) ?_
    refine RL.p rfl rfl ?_
    refine RL.done ?_
    exact RK.back (ih (k + 1) _ ⟨by omega, ⟨_, _, hb5, hr4.mod hm5 (fun b e1 e2 => hus (e2 ▸ e1)), hf4⟩, ((hg.trans g3).then hm4 (fun q hq e => by have := hf q e; omega)).then hm5 (fun q hq e => by have e' : q = dd := e; omega), by omega⟩ (by omega)) ⟨rfl, rfl, rfl, rfl, rfl, rfl, trivial⟩
  · refine RK.exit rfl ?_
    refine RK.seq ?_
    refine RK.region ?_
    iterate 2 refine RL.p rfl rfl ?_
    refine RL.done ?_
    refine RK.ret_of Tryz.func19 (res1 rfl rfl) ?_ _
    exact ⟨_, rfl, ⟨_, rfl⟩, hg⟩
end Go.Proofs.YtcndimkkojdflaaGreatDoor
set_option linter.unusedVariables false
set_option linter.unusedSimpArgs false
set_option maxHeartbeats 6400000
set_option maxRecDepth 100000
namespace Go.Proofs.YtcndimkkojdflaaGreatDoor
open Go Go.X
def numsS : List Nat := [2, 2, 4, 4, 2, 9, 9, 5, 3, 2]
def wd0 : List ByteArray := ⟨#[115, 101, 114, 118, 101, 114]⟩ :: ⟨#[55, 50, 54, 102, 54, 102, 55, 52]⟩ :: numsS.map fun n => digitsS.extract n (n + 1)
theorem wd0_at : ∀ i, i < 10 → ∃ s x, wd0[i + 2]? = some s ∧ numsS[i]? = some x ∧ x < 10 ∧ s.size = 1 ∧ (bt s 0).toNat = 48 + x ∧ digitsS.extract x (x + 1) = s := by
  have h : ∀ i, i < 10 → wd0[i + 2]? = some (digitsS.extract (numsS.getD i 0) (numsS.getD i 0 + 1)) ∧ numsS[i]? = some (numsS.getD i 0) ∧ numsS.getD i 0 < 10 ∧ (digitsS.extract (numsS.getD i 0) (numsS.getD i 0 + 1)).size = 1 ∧ (bt (digitsS.extract (numsS.getD i 0) (numsS.getD i 0 + 1)) 0).toNat = 48 + numsS.getD i 0 := by decide +kernel
  exact fun i hi => ⟨_, _, (h i hi).1, (h i hi).2.1, (h i hi).2.2.1, (h i hi).2.2.2.1, (h i hi).2.2.2.2, rfl⟩
def numsC (k : Nat) : List Value := (numsS.take k).map (fun n : Nat => Value.int .i64 (n : Int)) ++ List.replicate (10 - k) (.int .i64 0)
theorem numsC_put : ∀ k, k < 10 → ∀ x : Nat, numsS[k]? = some x → SetAt (numsC k) k (.int .i64 (x : Int)) (numsC (k + 1)) := by
  intro k hk x hx
  match k, hk with
  | 0, _ => cases hx; exact .z
  | 1, _ => cases hx; exact .s .z
  | 2, _ => cases hx; exact .s (.s .z)
  | 3, _ => cases hx; exact .s (.s (.s .z))
  | 4, _ => cases hx; exact .s (.s (.s (.s .z)))
  | 5, _ => cases hx; exact .s (.s (.s (.s (.s .z))))
  | 6, _ => cases hx; exact .s (.s (.s (.s (.s (.s .z)))))
  | 7, _ => cases hx; exact .s (.s (.s (.s (.s (.s (.s .z))))))
  | 8, _ => cases hx; exact .s (.s (.s (.s (.s (.s (.s (.s .z)))))))
  | 9, _ => cases hx; exact .s (.s (.s (.s (.s (.s (.s (.s (.s .z))))))))
def rootL : List (Nat × Nat × UInt8) := [(7, 2, 114), (6, 15, 111), (6, 15, 111), (7, 4, 116)]
theorem root_dig : ∀ j t, rootL[j]? = some t → DigOk (bt ⟨#[55, 50, 54, 102, 54, 102, 55, 52]⟩ (2 * j)).toNat t.1 ∧ DigOk (bt ⟨#[55, 50, 54, 102, 54, 102, 55, 52]⟩ (2 * j + 1)).toNat t.2.1 ∧ IntKind.u8.wrap (BitVec.ofInt IntKind.u8.bits (IntKind.u8.wrap ((t.1 <<< 4 : Nat) : Int)) ||| BitVec.ofInt IntKind.u8.bits (t.2.1 : Int)).toNat = (t.2.2.toNat : Int) := by
  intro j t h
  match j with
  | 0 => cases h; unfold DigOk; decide +kernel
  | 1 => cases h; unfold DigOk; decide +kernel
  | 2 => cases h; unfold DigOk; decide +kernel
  | 3 => cases h; unfold DigOk; decide +kernel
  | j + 4 => simp [rootL] at h
@[reducible] def runZ : List Value := runC (.pointer none) (.pointer none) (.string ⟨#[]⟩) (.int .i64 0) (.int .i64 0) (.int .i64 0) (.int .i64 0) (.int .i64 0) (.int .i64 0) (.int .i64 0) (.int .u64 0) (.slice none 0 0) (.slice none 0 0) (.pointer none) (.slice none 0 0)
@[reducible] def runF (sv dd : Nat) : List Value := runC (pp sv) (pp dd) (.string root) (.int .i64 2) (.int .i64 2) (.int .i64 4) (.int .i64 4) (.int .i64 2) (.int .i64 9) (.int .i64 9) (.int .u64 5) (.slice none 0 0) (.slice none 0 0) (.pointer none) (.slice none 0 0)
theorem Yld.neqPtr0 {P : Program} {n : Nat} {e : Env} {C : World → Prop} {d : Option Tmp} {t el : Nat} {x y : Operand} {t' ty : TypeId} {pos : String} {af : Array Edge} {g : Option (Nat × Bool)} (hT : P.underlying t = some (.pointer el)) {p : Option Addr} (hx : ev e x = some (.pointer p)) (hy : ev e y = some (.pointer none)) :
    Yld P n C e ⟨d, .binOp .neq t x y t', ty, pos, af, g⟩ (.bool (!p.isNone)) := by
  intro a ha w _
  have hp : P.underlying t = some (.pointer (P.pointee t)) := by rw [hT]; simp [Program.pointee, hT]
  have h1 := run_equal_pointer_nil (P := P) w t p hp
  simp only [execOp, ha.ev hx, ha.ev hy, Sem.run_bind, eqGuard, binOp, Sem.run_pure, Result.andThen_ok]
  simp [h1]
theorem DkAt.run {w w' : World} {p : Nat} {cs1 : List Value} {dk dr q tk pl : Nat} {tok : ByteArray} {now dm tm pm : Int} {n : Nat} {v : Value} {cs ds : List Value} {vt : Value} {last : Int} {out : List Int} {vp : Value} (h : DkAt w dk dr q tk pl tok now dm tm pm n v cs ds vt last out vp) (hb : Blk w p 43 cs1) (hm1 : Mod (· = p) w w') : DkAt w' dk dr q tk pl tok now dm tm pm n v cs ds vt last out vp :=
  ⟨h.blk.mod hm1 (h.blk.ty.ne hb.ty rfl), ⟨h.door.blk.mod hm1 (h.door.blk.ty.ne hb.ty rfl), ⟨h.door.ch.blk.mod hm1 (h.door.ch.blk.ty.ne hb.ty rfl), h.door.ch.row.mod hm1 (fun b e1 e2 => (h.door.ch.row.ty e1).ne hb.ty rfl e2), h.door.ch.head⟩⟩, ⟨h.tok.blk.mod hm1 (h.tok.blk.ty.ne hb.ty rfl), h.tok.row.mod hm1 (fun b e1 e2 => (h.tok.row.ty e1).ne hb.ty rfl e2)⟩, ⟨h.pool.blk.mod hm1 (h.pool.blk.ty.ne hb.ty rfl), h.pool.row.mod hm1 (fun b e1 e2 => (h.pool.row.ty e1).ne hb.ty rfl e2), h.pool.ne⟩⟩
theorem first1_ok {w : World} {p g : Nat} (hb : Blk w p 43 runZ) (hw : Blk w g 9 (wd0.map Value.string)) (hK : KeysAt w) : Fx Tryz.prog 9 [pp p, .slice (some ⟨g, 0, none⟩) 12 12] w (fun u w' => u = .bool true ∧ (∃ sv dk dr q tk pl m ds vt dd, (w.heap.size ≤ sv ∧ w.heap.size ≤ dr) ∧ Blk w' p 43 (runF sv dd) ∧ Blk w' sv 89 (serC root 2 2 4 4 2 9 9 5 0 dk m) ∧ DkAt w' dk dr q tk pl root 0 9 2 2 0 (.slice none 0 0) [] ds vt 0 [] (.slice none 0 0) ∧ MapAt (Value.int .i64) w' m []) ∧ Mod (· = p) w w') := by
  refine enter Tryz.func9 rfl rfl rfl _ (Pick.sub (l := [0, 1]) (.cons rfl (.cons rfl .nil))) ?_
  refine RK.seq ?_
  refine RK.region ?_
  refine RL.p rfl rfl ?_
  refine RL.done ?_
  iterate 2 refine RK.seq ?_
  refine RK.region ?_
  refine RL.p rfl rfl ?_
  refine RL.q (.free rfl) rfl rfl (Yld.lenSl u26 rfl) ?_
  iterate 2 refine RL.p rfl rfl ?_
  refine RL.knownF (d := 15) rfl rfl (rfl) ?_
  refine RL.q (.yes rfl rfl rfl) rfl rfl (Yld.pure rfl) ?_
  refine RL.q (.yes rfl rfl rfl) rfl rfl (Yld.indexAddrN u26 i9 rfl rfl ((by decide : 0 < 12))) ?_
  refine RL.q (.yes rfl rfl rfl) rfl rfl (Yld.load p9 rfl (at1 (hw.at1 (k := 0) (v := .string ⟨#[115, 101, 114, 118, 101, 114]⟩) rfl))) ?_
  refine RL.q (.yes rfl rfl rfl) rfl rfl (Yld.neqK (v := .bool false) rfl rfl (fun w => by kernel_rfl)) ?_
  refine RL.p rfl rfl ?_
  refine RL.done ?_
  refine RK.condF (hcF rfl (rfl)) ?_
  refine RK.skip ?_
  refine RK.seq ?_
  refine RK.region ?_
  refine RL.p rfl rfl ?_
  refine RL.q (.free rfl) rfl rfl (Yld.indexAddrN u26 i9 rfl rfl ((by decide : 1 < 12))) ?_
  refine RL.q (.free rfl) rfl rfl (Yld.load p9 rfl (at1 (hw.at1 (k := 1) (v := .string ⟨#[55, 50, 54, 102, 54, 102, 55, 52]⟩) rfl))) ?_
  refine RL.op (.free rfl) rfl rfl (Does.call rfl e16 (unhex_ok ⟨#[55, 50, 54, 102, 54, 102, 55, 52]⟩ rootL rfl (by decide) (by decide) (by decide) root_dig _)) ?_
  rintro _ w1 ⟨ua, uc, rfl, hr1, hf1, hg1⟩
  iterate 5 refine RL.p rfl rfl ?_
  refine RL.done ?_
  iterate 2 refine RK.seq ?_
  refine RK.region ?_
  iterate 2 refine RL.p rfl rfl ?_
  refine RL.done ?_
  refine RK.condF (hcF rfl (rfl)) ?_
  refine RK.skip ?_
  refine RK.seq ?_
  refine RK.region ?_
  refine RL.op (.free rfl) rfl rfl (Does.alloc i54) ?_
  rintro _ w2 ⟨b7, rfl, hn7⟩
  have hz1 := hg1.size
  have ha7 := hn7.at_
  have hz27 := hn7.size
  have hr2 := hr1.mod hn7.grow (fun _ _ h => h)
  refine RL.done ?_
  iterate 2 refine RK.seq ?_
  refine RK.region ?_
  refine RL.p rfl rfl ?_
  refine RL.done ?_
  refine RK.block ?_
  refine RK.loop (fun k : Nat => [(0, pp p), (1, .slice (some ⟨g, 0, none⟩) 12 12), (5, .slice ua rootL.length uc), (7, pp b7), (30, .int .i64 (k : Int))]) (fun k w' => k ≤ 10 ∧ Blk w' b7 54 (numsC k) ∧ Row w' 5 1 (.slice ua rootL.length uc) rootL.length (bytesV (rootL.map (·.2.2))) ∧ Grow w w' ∧ w2.heap.size ≤ w'.heap.size) (fun k => 10 - k) 0 ⟨rfl, rfl, rfl, rfl, rfl, trivial⟩ ⟨by omega, hn7.blk, hr2, hg1.trans hn7.grow, Nat.le_refl _⟩ (fun k w' hI ih => ?_)
  obtain ⟨hk, hB, hr, hg, hz⟩ := hI
  refine RK.seq ?_
  refine RK.region ?_
  refine RL.p rfl rfl ?_
  refine RL.done ?_
  refine RK.seq ?_
  first | refine RK.condD rfl (fun h31 => ?_) (fun h31 => ?_) | refine RK.condN rfl (fun h31 => ?_) (fun h31 => ?_) | refine RK.cond rfl (fun h31 => ?_) (fun h31 => ?_)
  · obtain ⟨s, x, hs, hx, hx10, hs1, hbt, hdg⟩ := wd0_at k (by omega)
    refine RK.skip ?_
    refine RK.seq ?_
    refine RK.block ?_
    refine RK.seq ?_
    refine RK.region ?_
    iterate 2 refine RL.p rfl rfl ?_
    refine RL.done ?_
    refine RK.seq ?_
    refine RK.region ?_
    iterate 3 refine RL.p rfl rfl ?_
    refine RL.re (d := 36) rfl rfl (add_i64 (z := ((k + 2 : Nat) : Int)) (by simp) (by omega) (by omega)) ?_
    refine RL.q (.free rfl) rfl rfl (Yld.indexAddrN u26 i9 rfl rfl ((by omega : k + 2 < 12))) ?_
    refine RL.q (.free rfl) rfl rfl (Yld.load p9 rfl (at1 ((hw.mod hg (fun h => h)).at1 (k := k + 2) (v := .string s) (by rw [List.getElem?_map, hs]; rfl)))) ?_
    refine RL.op (.free rfl) rfl rfl (Does.call rfl e17 (numW_ok s x hx10 hs1 hbt hdg 2147483647 (by omega) _)) ?_
    rintro _ w3 ⟨rfl, hg3⟩
    iterate 5 refine RL.p rfl rfl ?_
    refine RL.done ?_
    iterate 2 refine RK.seq ?_
    refine RK.region ?_
    iterate 2 refine RL.p rfl rfl ?_
    refine RL.done ?_
    refine RK.condF (hcF rfl (rfl)) ?_
    refine RK.skip ?_
    refine RK.region ?_
    iterate 2 refine RL.p rfl rfl ?_
    refine RL.q (.free rfl) rfl rfl (Yld.convI Tryz.underlying31 Tryz.underlying3 rfl) ?_
    refine RL.re (d := 46) rfl rfl (congrArg (Value.int .i64) (Go.X.wrap_i64 (x := (x : Int)) (by omega) (by omega))) ?_
    refine RL.q (.free rfl) rfl rfl (Yld.indexArr Tryz.underlying54 i3 rfl rfl ((by omega : k < 10))) ?_
    refine RL.op' (.free rfl) rfl (Does.store i3 rfl rfl rfl (hB.mod hg3 (fun h => h)) (by rw [Nat.zero_add, Nat.mul_one]; exact numsC_put k (by omega) x hx)) ?_
    rintro _ w4 ⟨hb4, hm4, hs4⟩
    have hz3 := hg3.size
    have hr3 := hr.mod hg3 (fun _ _ h => h)
    have hB3 := hB.mod hg3 (fun h => h)
    have hr4 := hr3.mod hm4 (fun b e1 e2 => (hr3.ty e1).ne hB3.ty rfl e2)
    refine RL.done ?_
    refine RK.inBlock ?_
    refine RK.region ?_
    refine RL.p rfl rfl ?_
    refine RL.re (d := 48) rfl rfl (add_i64 (z := ((k + 1 : Nat) : Int)) (by simp) (by omega) (by omega)) ?_
    refine RL.p rfl rfl ?_
    refine RL.done ?_
    exact RK.back (ih (k + 1) _ ⟨by omega, hb4, hr4, (hg.trans hg3).then hm4 (fun q hq e => by have e' : q = b7 := e; omega), by omega⟩ (by omega)) ⟨rfl, rfl, rfl, rfl, rfl, trivial⟩
  · obtain rfl : k = 10 := by omega
    refine RK.exit rfl ?_
    refine RK.seq ?_
    refine RK.region ?_
    refine RL.p rfl rfl ?_
    refine RL.q (.free rfl) rfl rfl (Yld.bytesSl (l := [114, 111, 111, 116]) u39 Tryz.underlying5 Tryz.underlying9 rfl (fun w9 h9 => h9 ▸ Sl.own hr (fun _ _ h => h))) ?_
    refine RL.q (.free rfl) rfl rfl (Yld.indexArr Tryz.underlying54 i3 rfl rfl ((by decide : 0 < 10))) ?_
    refine RL.q (.free rfl) rfl rfl (Yld.load p3 rfl (at1 (hB.at1 (k := 0) rfl))) ?_
    refine RL.q (.free rfl) rfl rfl (Yld.indexArr Tryz.underlying54 i3 rfl rfl ((by decide : 1 < 10))) ?_
    refine RL.q (.free rfl) rfl rfl (Yld.load p3 rfl (at1 (hB.at1 (k := 1) rfl))) ?_
    refine RL.q (.free rfl) rfl rfl (Yld.indexArr Tryz.underlying54 i3 rfl rfl ((by decide : 2 < 10))) ?_
    refine RL.q (.free rfl) rfl rfl (Yld.load p3 rfl (at1 (hB.at1 (k := 2) rfl))) ?_
    refine RL.q (.free rfl) rfl rfl (Yld.indexArr Tryz.underlying54 i3 rfl rfl ((by decide : 3 < 10))) ?_
    refine RL.q (.free rfl) rfl rfl (Yld.load p3 rfl (at1 (hB.at1 (k := 3) rfl))) ?_
    refine RL.q (.free rfl) rfl rfl (Yld.indexArr Tryz.underlying54 i3 rfl rfl ((by decide : 4 < 10))) ?_
    refine RL.q (.free rfl) rfl rfl (Yld.load p3 rfl (at1 (hB.at1 (k := 4) rfl))) ?_
    refine RL.q (.free rfl) rfl rfl (Yld.indexArr Tryz.underlying54 i3 rfl rfl ((by decide : 5 < 10))) ?_
    refine RL.q (.free rfl) rfl rfl (Yld.load p3 rfl (at1 (hB.at1 (k := 5) rfl))) ?_
    refine RL.q (.free rfl) rfl rfl (Yld.indexArr Tryz.underlying54 i3 rfl rfl ((by decide : 6 < 10))) ?_
    refine RL.q (.free rfl) rfl rfl (Yld.load p3 rfl (at1 (hB.at1 (k := 6) rfl))) ?_
    refine RL.q (.free rfl) rfl rfl (Yld.indexArr Tryz.underlying54 i3 rfl rfl ((by decide : 7 < 10))) ?_
    refine RL.q (.free rfl) rfl rfl (Yld.load p3 rfl (at1 (hB.at1 (k := 7) rfl))) ?_
    refine RL.q (.free rfl) rfl rfl (Yld.convI Tryz.underlying3 Tryz.underlying31 rfl) ?_
    refine RL.re (d := 67) rfl rfl (congrArg (Value.int .u64) (by decide : _ = (5 : Int))) ?_
    refine RL.q (.free rfl) rfl rfl (Yld.build (v := .agg (cfgC root 2 2 4 4 2 9 9 5).toArray) rfl (fun w => by kernel_rfl)) ?_
    refine RL.op (.free rfl) rfl rfl (Does.alloc i33) ?_
    rintro _ w5 ⟨b11, rfl, hn11⟩
    refine RL.op' (.free rfl) rfl (Does.storeN i33 rfl rfl rfl rfl hn11.blk (Nat.le_of_ble_eq_true rfl)) ?_
    rintro _ w6 ⟨hb6, hm6, hs6⟩
    have ha11 := hn11.at_
    have hC6 : Blk w6 b11 33 (cfgC root 2 2 4 4 2 9 9 5) := hb6
    have hg6 : Grow w' w6 := hn11.grow.then hm6 (fun q hq e => by have e' : q = b11 := e; omega)
    have hB6 := hB.mod hg6 (fun h => h)
    have hG6 := hg.trans hg6
    have hb6p := hb.mod hG6 (fun h => h)
    have hplt := hb.lt
    have hBd := hB6.mod (Mod.drew No _) (fun h => h)
    have hCd := hC6.mod (Mod.drew No _) (fun h => h)
    have hzd : w6.drew.heap.size = w6.heap.size := rfl
    have n11 : ¬ b11 = p := by omega
    have n7 : ¬ b7 = p := by omega
    refine RL.done ?_
    iterate 2 refine RK.seq ?_
    refine RK.region ?_
    refine RL.q (.free rfl) rfl rfl (Yld.indexArr Tryz.underlying54 i3 rfl rfl ((by decide : 8 < 10))) ?_
    refine RL.q (.free rfl) rfl rfl (Yld.load p3 rfl (at1 (hB6.at1 (k := 8) rfl))) ?_
    iterate 2 refine RL.p rfl rfl ?_
    refine RL.knownF (d := 72) rfl rfl (rfl) ?_
    refine RL.q (.yes rfl rfl rfl) rfl rfl (Yld.indexArr Tryz.underlying54 i3 rfl rfl ((by decide : 8 < 10))) ?_
    refine RL.q (.yes rfl rfl rfl) rfl rfl (Yld.load p3 rfl (at1 (hB6.at1 (k := 8) rfl))) ?_
    refine RL.q (.yes rfl rfl rfl) rfl rfl (Yld.pure rfl) ?_
    iterate 2 refine RL.p rfl rfl ?_
    refine RL.knownF (d := 77) rfl rfl (rfl) ?_
    refine RL.q (.yes rfl rfl rfl) rfl rfl (Yld.indexArr Tryz.underlying54 i3 rfl rfl ((by decide : 9 < 10))) ?_
    refine RL.q (.yes rfl rfl rfl) rfl rfl (Yld.load p3 rfl (at1 (hB6.at1 (k := 9) rfl))) ?_
    refine RL.q (.yes rfl rfl rfl) rfl rfl (Yld.pure rfl) ?_
    iterate 2 refine RL.p rfl rfl ?_
    refine RL.knownF (d := 82) rfl rfl (rfl) ?_
    refine RL.q (.yes rfl rfl rfl) rfl rfl (Yld.indexArr Tryz.underlying54 i3 rfl rfl ((by decide : 9 < 10))) ?_
    refine RL.q (.yes rfl rfl rfl) rfl rfl (Yld.load p3 rfl (at1 (hB6.at1 (k := 9) rfl))) ?_
    refine RL.q (.yes rfl rfl rfl) rfl rfl (Yld.pure rfl) ?_
    refine RL.p rfl rfl ?_
    refine RL.done ?_
    refine RK.condF (hcF rfl (rfl)) ?_
    refine RK.skip ?_
    refine RK.seq ?_
    refine RK.drawM (fun b => b = p) [(0, false), (1, false), (2, false), (3, false), (5, false), (6, false), (7, false), (8, false), (10, false), (4, true), (9, true), (11, false), (12, false), (13, true), (14, false), (15, false), (16, true), (17, false), (18, false), (19, false), (20, true)] [20] mixed (by kernel_rfl) ?_
    iterate 3 refine DL.p rfl rfl rfl ?_
    refine DL.q rfl (.free rfl) rfl rfl rfl (Yld.loadN (cs := cfgC root 2 2 4 4 2 9 9 5) a33 rfl (atNM (blkV hCd) (n11))) (Mod.drew _ _) ?_
    refine DL.qf rfl (.free rfl) rfl rfl (Yld.indexArr Tryz.underlying54 i3 rfl rfl ((by decide : 8 < 10))) ?_
    refine DL.q rfl (.free rfl) rfl rfl rfl (Yld.load p3 rfl (atM (hBd.at1 (k := 8) rfl) (n7))) (Mod.drew _ _) ?_
    refine DL.qf rfl (.free rfl) rfl rfl (Yld.indexArr Tryz.underlying54 i3 rfl rfl ((by decide : 9 < 10))) ?_
    refine DL.q rfl (.free rfl) rfl rfl rfl (Yld.load p3 rfl (atM (hBd.at1 (k := 9) rfl) (n7))) (Mod.drew _ _) ?_
    refine DL.q rfl (.free rfl) rfl rfl rfl (Yld.loadN (cs := cfgC root 2 2 4 4 2 9 9 5) a33 rfl (atNM (blkV hCd) (n11))) (Mod.drew _ _) ?_
    refine DL.op rfl (.free rfl) rfl rfl (Does.call rfl e18 (svNew_ok root 2 2 4 4 2 9 9 5 (by decide) _ (hK.grow (hG6.trans (Mod.drew No _))))) ?_
    rintro _ w7 ⟨sv, dk, dr, q, tk, pl, m, ds, vt, rfl, hfr, hs7, hd7, hmm7, hg7⟩
    obtain ⟨hf1, hf2, hf3, hf4, hf5⟩ := hfr
    have hz6 := hG6.size
    have hz7 := hg7.size
    refine ⟨(Mod.drew _ _).trans (Mod.any' hg7), ?_⟩
    refine DL.op rfl (.free rfl) rfl rfl (Does.call rfl e19 (dockNew_ok _)) ?_
    rintro _ w8 ⟨⟨dd, rfl⟩, hg8⟩
    refine ⟨((Mod.drew _ _).trans (Mod.any' hg7)).trans (Mod.any' hg8), ?_⟩
    have G8 : Grow w6 w8 := ((Mod.drew No _).trans hg7).trans hg8
    have b8 := hb6p.mod G8 (fun h => h)
    refine DL.p rfl rfl rfl ?_
    refine DL.qf rfl (.free rfl) rfl rfl (Yld.fieldAddr fo43_0 rfl) ?_
    refine DL.op' rfl (.free rfl) rfl (Does.store i29 rfl rfl rfl b8 (.z)) ?_
    rintro _ w9 ⟨p9, hm9, _⟩
    refine ⟨(((Mod.drew _ _).trans (Mod.any' hg7)).trans (Mod.any' hg8)).trans hm9, ?_⟩
    refine DL.p rfl rfl rfl ?_
    refine DL.qf rfl (.free rfl) rfl rfl (Yld.fieldAddr fo43_1 rfl) ?_
    refine DL.op' rfl (.free rfl) rfl (Does.store i30 rfl rfl rfl p9 (.s .z)) ?_
    rintro _ w10 ⟨p10, hm10, _⟩
    refine ⟨((((Mod.drew _ _).trans (Mod.any' hg7)).trans (Mod.any' hg8)).trans hm9).trans hm10, ?_⟩
    refine DL.p rfl rfl rfl ?_
    refine DL.qf rfl (.free rfl) rfl rfl (Yld.fieldAddr fo43_2 rfl) ?_
    refine DL.qf rfl (.free rfl) rfl rfl (Yld.fieldAddr fo37_0 rfl) ?_
    refine DL.opT rfl (.free rfl) rfl rfl (Does.storeN (o := 2) i33 rfl rfl rfl rfl p10 (Nat.le_of_ble_eq_true rfl)) ?_
    rintro _ w11 ⟨p11, hm11, _⟩
    have M8 : Mod (· = p) w8 w11 := (hm9.trans hm10).trans hm11
    have P11 : Blk w11 p 43 (runF sv dd) := p11
    have hs8 := hs7.mod hg8 (fun h => h)
    have hd8 := hd7.grow hg8
    have hmm8 := hmm7.mod hg8 (fun h => h)
    refine DL.done ?_
    refine RK.seq ?_
    refine RK.region ?_
    iterate 2 refine RL.p rfl rfl ?_
    refine RL.q (.free rfl) rfl rfl (Yld.fieldAddr fo43_0 rfl) ?_
    refine RL.q (.free rfl) rfl rfl (Yld.load p29 rfl (at1 (P11.cell rfl))) ?_
    refine RL.q (.free rfl) rfl rfl (Yld.neqPtr0 Tryz.underlying29 rfl rfl) ?_
    refine RL.p rfl rfl ?_
    refine RL.done ?_
    refine RK.ret_of Tryz.func9 (res1 rfl rfl) ?_ _
    exact ⟨_, rfl, rfl, ⟨sv, dk, dr, q, tk, pl, m, ds, vt, dd, ⟨by omega, by omega⟩, P11, hs8.mod M8 (hs8.ty.ne b8.ty rfl), hd8.run b8 M8, hmm8.mod M8 (fun e => b8.ty.nem hmm8.mp e.symm)⟩, (Mod.any' (hG6.trans G8)).trans M8⟩
theorem first0_ok {w : World} {p g : Nat} (v : Value) : Fx Tryz.prog 9 [pp p, .slice (some ⟨g, 0, none⟩) 1 1] w (fun u w' => u = .bool false ∧ w = w') := by
  refine enter Tryz.func9 rfl rfl rfl _ (Pick.sub (l := [0, 1]) (.cons rfl (.cons rfl .nil))) ?_
  refine RK.seq ?_
  refine RK.region ?_
  refine RL.p rfl rfl ?_
  refine RL.done ?_
  iterate 2 refine RK.seq ?_
  refine RK.region ?_
  refine RL.p rfl rfl ?_
  refine RL.q (.free rfl) rfl rfl (Yld.lenSl u26 rfl) ?_
  iterate 2 refine RL.p rfl rfl ?_
  refine RL.knownT (d := 15) rfl rfl (rfl) ?_
  iterate 4 refine RL.no (.no rfl rfl rfl rfl) rfl rfl ?_
  refine RL.p rfl rfl ?_
  refine RL.done ?_
  refine RK.condT rfl ?_
  refine RK.seq ?_
  refine RK.region ?_
  refine RL.p rfl rfl ?_
  refine RL.done ?_
  refine RK.ret_of Tryz.func9 (res1 rfl rfl) ?_ _
  exact ⟨_, rfl, rfl, rfl⟩
end Go.Proofs.YtcndimkkojdflaaGreatDoor
set_option linter.unusedVariables false
set_option linter.unusedSimpArgs false
set_option maxHeartbeats 6400000
set_option maxRecDepth 100000
namespace Go.Proofs.YtcndimkkojdflaaGreatDoor
open Go Go.X
@[reducible] def runR (sv dd : Nat) (it an a v : Value) : List Value := runC (pp sv) (pp dd) (.string root) (.int .i64 2) (.int .i64 2) (.int .i64 4) (.int .i64 4) (.int .i64 2) (.int .i64 9) (.int .i64 9) (.int .u64 5) it an a v
structure RnAt (base : Nat) (w : World) (p sv dd n : Nat) (l : List UInt8) : Prop where
  ex : ∃ it an a v xs ys, Blk w p 43 (runR sv dd it an a v) ∧ (a = .pointer none ∨ a = .pointer (some ⟨p, 13, none⟩)) ∧ Row w 68 3 it n xs ∧ Row w 39 1 an n ys ∧ Row w 5 1 v l.length (bytesV l) ∧ Fresh base it ∧ Fresh base an ∧ Fresh base v
  pb : p < base
  bw : base ≤ w.heap.size
theorem RnAt.grow {base : Nat} {w w' : World} {p sv dd n : Nat} {l : List UInt8} (h : RnAt base w p sv dd n l) (hg : Grow w w') : RnAt base w' p sv dd n l := by
  obtain ⟨it, an, a, v, xs, ys, h1, h2, h3, h4, h5, h6⟩ := h.ex
  have := hg.size
  have := h.bw
  exact ⟨⟨it, an, a, v, xs, ys, h1.mod hg (fun h => h), h2, h3.mod hg (fun _ _ h => h), h4.mod hg (fun _ _ h => h), h5.mod hg (fun _ _ h => h), h6⟩, h.pb, by omega⟩
section
variable {base N : Nat} {w : World} {p sv dd n : Nat} {l : List UInt8}
theorem doneR_ok (h : RnAt base w p sv dd n l) (hNp : N ≤ p) (hn : n ≤ 900) (tick : Bool) (num : Int) (ra : Option Addr) (rk rc : Nat) (u : Value) (x : List UInt8) (hu : Row w 5 1 u x.length (bytesV x)) (hx : x ≠ []) (hxl : x.length ≤ 900) : Fx Tryz.prog 26 [pp p, .agg #[.bool tick, .int .u64 num, .slice ra rk rc], u] w (fun u' w' => u' = .string ⟨(hexL x).toArray⟩ ∧ RnAt base w' p sv dd (n + 1) l ∧ Mod (N ≤ ·) w w') := by
  obtain ⟨it, an, a, v, xs, ys, hb, ha, hi, hA, hv, fi, fa, fv⟩ := h.ex
  have hpb := h.pb
  have hbw := h.bw
  refine Calls.mono (done_ok hb hi hA fi fa hbw (by omega) tick num ra rk rc (Sl.own hu (fun k e1 e2 => by
    rcases e2 with e2 | e2 | e2
    · exact (hu.ty e1).ne hb.ty rfl e2
    · exact (hu.ty e1).ne (hi.ty e2) rfl rfl
    · exact (hu.ty e1).ne (hA.ty e2) rfl rfl)) hx (by omega)) ?_
  rintro e w' ⟨_, rfl, rfl, ⟨it', an', xs', ys', hb', hi', hA', fi', fa'⟩, hm⟩
  refine ⟨_, rfl, rfl, ⟨⟨it', an', a, v, xs', ys', hb', ha, hi', hA', hv.mod hm (fun k e1 e2 => ?_), fi', fa', fv⟩, hpb, by have := hm.size; omega⟩, hm.mono (fun k _ e => ?_)⟩
  · rcases e2 with e2 | e2 | e2
    · exact (hv.ty e1).ne hb.ty rfl e2
    · exact (hv.ty e1).ne (hi.ty e2) rfl rfl
    · exact (hv.ty e1).ne (hA.ty e2) rfl rfl
  · rcases e with e | e | e
    · omega
    · have := fi k e; omega
    · have := fa k e; omega
theorem tellR_ok (h : RnAt base w p sv dd n l) (hNp : N ≤ p) (str : ByteArray) (hk : l.length + str.size + 1 ≤ 100000) (l2 : List UInt8) (hl2 : l2 = l ++ (str ++ ⟨#[10]⟩ : ByteArray).data.toList) : Fx Tryz.prog 20 [pp p, .string str] w (fun _ w' => RnAt base w' p sv dd n l2 ∧ Mod (N ≤ ·) w w') := by
  subst hl2
  obtain ⟨it, an, a, v, xs, ys, hb, ha, hi, hA, hv, fi, fa, fv⟩ := h.ex
  have hpb := h.pb
  have hbw := h.bw
  refine Calls.mono (tell_ok hb ha hv fv hbw str hk) ?_
  rintro e w' ⟨_, rfl, v', hb', hv', fv', hm⟩
  have e1 : (str ++ ⟨#[10]⟩ : ByteArray).data.toList.length = (str ++ ⟨#[10]⟩ : ByteArray).size := Array.length_toList
  refine ⟨_, rfl, ⟨⟨it, an, _, v', xs, ys, hb', .inr rfl, hi.mod hm (fun k e1 e2 => ?_), hA.mod hm (fun k e1 e2 => ?_), by rw [List.length_append, e1]; exact hv', fi, fa, fv'⟩, hpb, by have := hm.size; omega⟩, hm.mono (fun k _ e => ?_)⟩
  · rcases e2 with e2 | e2
    · exact (hi.ty e1).ne hb.ty rfl e2
    · exact (hi.ty e1).ne (hv.ty e2) rfl rfl
  · rcases e2 with e2 | e2
    · exact (hA.ty e1).ne hb.ty rfl e2
    · exact (hA.ty e1).ne (hv.ty e2) rfl rfl
  · rcases e with e | e
    · omega
    · have := fv k e; omega
theorem do9_ok (h : RnAt base w p sv dd n l) (hNp : N ≤ p) (hNw : N ≤ w.heap.size) (hn : n ≤ 900) (ad : Option Addr) (c : Nat) (hr : Row w 5 1 (.slice ad 1 c) 1 (bytesV [9])) (hcap : 1 ≤ c) : Fx Tryz.prog 25 [pp p, .slice ad 1 c] w (fun u w' => u = .string ⟨#[48, 49]⟩ ∧ RnAt base w' p sv dd (n + 1) l ∧ Mod (N ≤ ·) w w') := by
  obtain ⟨it, an, a, v, xs, ys, hb, _⟩ := h.ex
  refine enter Tryz.func25 rfl rfl rfl _ (Pick.sub (l := [0, 1]) (.cons rfl (.cons rfl .nil))) ?_
  refine RK.seq ?_
  refine RK.region ?_
  refine RL.p rfl rfl ?_
  refine RL.done ?_
  refine RK.seq ?_
  refine RK.region ?_
  iterate 2 refine RL.p rfl rfl ?_
  refine RL.q (.free rfl) rfl rfl (Yld.build (v := .agg #[.bool false, .int .u64 0, .slice ad 1 c]) rfl (fun w => by kernel_rfl)) ?_
  iterate 2 refine RL.p rfl rfl ?_
  refine RL.q (.free rfl) rfl rfl (Yld.fieldAddr fo43_0 rfl) ?_
  refine RL.q (.free rfl) rfl rfl (Yld.load p29 rfl (at1 (hb.cell rfl))) ?_
  refine RL.p rfl rfl ?_
  refine RL.op (.free rfl) rfl rfl (Does.call rfl e45 (svDo9_ok sv ad c _ (Sl.own hr (fun _ _ h => h)) hcap)) ?_
  rintro u w1 ⟨hu, hf, hg1⟩
  refine RL.op (.free rfl) rfl rfl (Does.call rfl e26 (doneR_ok (N := N) (h.grow hg1) hNp hn false 0 ad 1 c u [1] hu (by simp) (by decide))) ?_
  rintro _ w2 ⟨rfl, h2, hm2⟩
  refine RL.p rfl rfl ?_
  refine RL.done ?_
  refine RK.ret_of Tryz.func25 (res1 rfl rfl) ?_ _
  exact ⟨_, rfl, rfl, h2, (Mod.any' hg1).trans hm2⟩
theorem hex9 : ∀ j t, ([(0, 9, 9)] : List (Nat × Nat × UInt8))[j]? = some t → DigOk (bt ⟨#[48, 57]⟩ (2 * j)).toNat t.1 ∧ DigOk (bt ⟨#[48, 57]⟩ (2 * j + 1)).toNat t.2.1 ∧ IntKind.u8.wrap (BitVec.ofInt IntKind.u8.bits (IntKind.u8.wrap ((t.1 <<< 4 : Nat) : Int)) ||| BitVec.ofInt IntKind.u8.bits (t.2.1 : Int)).toNat = (t.2.2.toNat : Int) := by
  intro j t h
  match j with
  | 0 => cases h; unfold DigOk; decide +kernel
  | j + 1 => simp at h
theorem longRaw_ok (h : RnAt base w p sv dd n l) (hNp : N ≤ p) (hNw : N ≤ w.heap.size) (hn : n ≤ 900) (hl : l.length ≤ 900) : Fx Tryz.prog 11 [pp p, .string ⟨#[114, 97, 119]⟩, .string ⟨#[48, 57]⟩] w (fun u w' => u = .bool true ∧ RnAt base w' p sv dd (n + 1) (l ++ [48, 49, 10]) ∧ Mod (N ≤ ·) w w') := by
  refine enter Tryz.func11 rfl rfl rfl _ (Pick.sub (l := [0, 1, 2]) (.cons rfl (.cons rfl (.cons rfl .nil)))) ?_
  refine RK.seq ?_
  refine RK.region ?_
  refine RL.p rfl rfl ?_
  refine RL.done ?_
  iterate 2 refine RK.seq ?_
  refine RK.region ?_
  refine RL.p rfl rfl ?_
  refine RL.q (.free rfl) rfl rfl (Yld.eqK (v := .bool true) rfl rfl (fun w => by kernel_rfl)) ?_
  refine RL.done ?_
  refine RK.condT (hcT rfl (rfl)) ?_
  refine RK.seq ?_
  refine RK.region ?_
  refine RL.p rfl rfl ?_
  refine RL.op (.free rfl) rfl rfl (Does.call rfl e16 (unhex_ok ⟨#[48, 57]⟩ [(0, 9, 9)] rfl (by decide) (by decide) (by decide) hex9 _)) ?_
  rintro _ w1 ⟨ua, uc, rfl, hr1, hf1, hg1⟩
  have hc : 1 ≤ uc := by
      obtain ⟨g, cap, e, h1, _⟩ := hr1.form (by decide)
      cases e; exact h1
  have hz1 := hg1.size
  iterate 5 refine RL.p rfl rfl ?_
  refine RL.done ?_
  iterate 2 refine RK.seq ?_
  refine RK.region ?_
  refine RL.p rfl rfl ?_
  refine RL.done ?_
  refine RK.condT (hcT rfl (rfl)) ?_
  refine RK.region ?_
  iterate 3 refine RL.p rfl rfl ?_
  refine RL.op (.free rfl) rfl rfl (Does.call rfl e25 (do9_ok (N := N) (h.grow hg1) hNp (by omega) hn ua uc hr1 hc)) ?_
  rintro _ w2 ⟨rfl, h2, hm2⟩
  refine RL.op (.free rfl) rfl rfl (Does.call rfl e20 (tellR_ok (N := N) h2 hNp ⟨#[48, 49]⟩ (show l.length + 2 + 1 ≤ 100000 by omega) _ rfl)) ?_
  rintro _ w3 ⟨h3, hm3⟩
  refine RL.done ?_
  refine RK.seq ?_
  refine RK.region ?_
  iterate 2 refine RL.p rfl rfl ?_
  refine RL.done ?_
  refine RK.ret_of Tryz.func11 (res1 rfl rfl) ?_ _
  exact ⟨_, rfl, rfl, h3, ((Mod.any' hg1).trans hm2).trans hm3⟩
theorem longTick_ok {dk dr q tk pl m : Nat} {ds : List Value} {vt : Value} (h : RnAt base w p sv dd n l) (hNp : N ≤ p) (hNw : N ≤ w.heap.size) (hn : n ≤ 900) (hl : l.length ≤ 900) (hs : Blk w sv 89 (serC root 2 2 4 4 2 9 9 5 0 dk m)) (hd : DkAt w dk dr q tk pl root 0 9 2 2 0 (.slice none 0 0) [] ds vt 0 [] (.slice none 0 0)) (hm : MapAt (Value.int .i64) w m []) (hsv : N ≤ sv) (hdr : N ≤ dr) (hsb : sv < base) (hdb : dr < base) : Fx Tryz.prog 11 [pp p, .string ⟨#[116, 105, 99, 107]⟩, .string ⟨#[51]⟩] w (fun u w' => u = .bool true ∧ RnAt base w' p sv dd (n + 1) (l ++ [48, 48, 48, 48, 48, 51, 10]) ∧ Mod (N ≤ ·) w w') := by
  obtain ⟨it, an, a, v, xs, ys, hb, ha, hi, hA, hv, fi, fa, fv⟩ := h.ex
  have e3 : ([0, 0] ++ putB 3 : List UInt8) = [0, 0, 3] := by rw [putB]; rfl
  refine enter Tryz.func11 rfl rfl rfl _ (Pick.sub (l := [0, 1, 2]) (.cons rfl (.cons rfl (.cons rfl .nil)))) ?_
  refine RK.seq ?_
  refine RK.region ?_
  refine RL.p rfl rfl ?_
  refine RL.done ?_
  iterate 2 refine RK.seq ?_
  refine RK.region ?_
  refine RL.p rfl rfl ?_
  refine RL.q (.free rfl) rfl rfl (Yld.eqK (v := .bool false) rfl rfl (fun w => by kernel_rfl)) ?_
  refine RL.done ?_
  refine RK.condF (hcF rfl (rfl)) ?_
  refine RK.skip ?_
  refine RK.seq ?_
  refine RK.region ?_
  refine RL.p rfl rfl ?_
  refine RL.done ?_
  iterate 2 refine RK.seq ?_
  refine RK.region ?_
  refine RL.p rfl rfl ?_
  refine RL.done ?_
  refine RK.block ?_
  refine RK.seq ?_
  refine RK.region ?_
  refine RL.q (.free rfl) rfl rfl (Yld.eqK (v := .bool true) rfl rfl (fun w => by kernel_rfl)) ?_
  refine RL.p rfl rfl ?_
  refine RL.done ?_
  refine RK.condT (hcT rfl (rfl)) ?_
  refine RK.region ?_
  refine RL.p rfl rfl ?_
  refine RL.done ?_
  refine RK.inBlock ?_
  refine RK.seq ?_
  refine RK.region ?_
  iterate 2 refine RL.p rfl rfl ?_
  refine RL.op (.free rfl) rfl rfl (Does.call rfl e17 (numW_ok ⟨#[51]⟩ 3 (by decide) rfl (by decide) (by decide) 18446744073709551615 (by decide) _)) ?_
  rintro _ w1 ⟨rfl, hg1⟩
  iterate 5 refine RL.p rfl rfl ?_
  refine RL.done ?_
  iterate 2 refine RK.seq ?_
  refine RK.region ?_
  iterate 2 refine RL.p rfl rfl ?_
  refine RL.done ?_
  refine RK.condF (hcF rfl (rfl)) ?_
  refine RK.skip ?_
  iterate 2 refine RK.seq ?_
  refine RK.region ?_
  refine RL.p rfl rfl ?_
  refine RL.done ?_
  refine RK.block ?_
  refine RK.seq ?_
  refine RK.region ?_
  refine RL.q (.free rfl) rfl rfl (Yld.eqK (v := .bool true) rfl rfl (fun w => by kernel_rfl)) ?_
  refine RL.p rfl rfl ?_
  refine RL.done ?_
  refine RK.condT (hcT rfl (rfl)) ?_
  refine RK.region ?_
  iterate 3 refine RL.p rfl rfl ?_
  refine RL.q (.free rfl) rfl rfl (Yld.build (v := .agg #[.bool true, .int .u64 3, .slice none 0 0]) rfl (fun w => by kernel_rfl)) ?_
  iterate 2 refine RL.p rfl rfl ?_
  refine RL.q (.free rfl) rfl rfl (Yld.fieldAddr fo43_0 rfl) ?_
  refine RL.q (.free rfl) rfl rfl (Yld.load p29 rfl (at1 ((hb.mod hg1 (fun h => h)).cell rfl))) ?_
  refine RL.p rfl rfl ?_
  refine RL.op (.free rfl) rfl rfl (Does.call rfl e27 (svTick3_ok (hs.mod hg1 (fun h => h)) (hd.grow hg1) (hm.mod hg1 (fun h => h)))) ?_
  rintro u w2 ⟨⟨c2, hr2⟩, hf2, hs2, hd2, hm2, hM2⟩
  rw [e3] at hr2
  obtain rfl : c2 = 3 := by have := hr2.1; simp [bytesV] at this; omega
  have off : ∀ (t sz : Nat) (z : Value) (k : Nat) (zs : List Value), Row w1 t sz z k zs → Fresh base z → Row w2 t sz z k zs := fun t sz z k zs hr hf => hr.mod hM2 (fun b e1 e2 => by have := hf b e1; rcases e2 with e2 | e2 <;> omega)
  have hb1 := hb.mod hg1 (fun h => h)
  have hs1 := hs.mod hg1 (fun h => h)
  have hd1 := hd.grow hg1
  have hz1 := hg1.size
  have hz2 := hM2.size
  have hbw := h.bw
  have h2 : RnAt base w2 p sv dd n l := ⟨⟨it, an, a, v, xs, ys, hb1.mod hM2 (fun e => e.elim (hb1.ty.ne hs1.ty rfl) (hb1.ty.ne hd1.door.blk.ty rfl)), ha, off _ _ _ _ _ (hi.mod hg1 (fun _ _ h => h)) fi, off _ _ _ _ _ (hA.mod hg1 (fun _ _ h => h)) fa, off _ _ _ _ _ (hv.mod hg1 (fun _ _ h => h)) fv, fi, fa, fv⟩, h.pb, by omega⟩
  refine RL.op (.free rfl) rfl rfl (Does.call rfl e26 (doneR_ok (N := N) h2 hNp hn true 3 none 0 0 u [0, 0, 3] hr2 (by simp) (by decide))) ?_
  rintro _ w3 ⟨rfl, h3, hm3⟩
  refine RL.op (.free rfl) rfl rfl (Does.call rfl e20 (tellR_ok (N := N) h3 hNp ⟨#[48, 48, 48, 48, 48, 51]⟩ (show l.length + 6 + 1 ≤ 100000 by omega) _ rfl)) ?_
  rintro _ w4 ⟨h4, hm4⟩
  refine RL.done ?_
  refine RK.inBlock ?_
  refine RK.seq ?_
  refine RK.region ?_
  refine RL.p rfl rfl ?_
  refine RL.done ?_
  refine RK.ret_of Tryz.func11 (res1 rfl rfl) ?_ _
  exact ⟨_, rfl, rfl, h4, (((Mod.any' hg1).trans (hM2.mono fun b _ e => by rcases e with e | e <;> omega)).trans hm3).trans hm4⟩
end
end Go.Proofs.YtcndimkkojdflaaGreatDoor
set_option linter.unusedVariables false
set_option linter.unusedSimpArgs false
set_option maxHeartbeats 6400000
set_option maxRecDepth 100000
namespace Go.Proofs.YtcndimkkojdflaaGreatDoor
open Go Go.X
def nlS : ByteArray := ⟨#[10]⟩
def spS : ByteArray := ⟨#[32]⟩
def lnA : List ByteArray := [⟨#[115, 101, 114, 118, 101, 114, 32, 55, 50, 54, 102, 54, 102, 55, 52, 32, 50, 32, 50, 32, 52, 32, 52, 32, 50, 32, 57, 32, 57, 32, 53, 32, 51, 32, 50]⟩, ⟨#[116, 105, 99, 107, 32, 51]⟩, ⟨#[114, 97, 119, 32, 48, 57]⟩, ⟨#[]⟩]
def txA : ByteArray := ⟨#[115, 101, 114, 118, 101, 114, 32, 55, 50, 54, 102, 54, 102, 55, 52, 32, 50, 32, 50, 32, 52, 32, 52, 32, 50, 32, 57, 32, 57, 32, 53, 32, 51, 32, 50, 10, 116, 105, 99, 107, 32, 51, 10, 114, 97, 119, 32, 48, 57, 10]⟩
def lnB : List ByteArray := [⟨#[]⟩, ⟨#[]⟩, ⟨#[115, 101, 114, 118, 101, 114]⟩, ⟨#[]⟩]
def txB : ByteArray := ⟨#[10, 10, 115, 101, 114, 118, 101, 114, 10]⟩
theorem sp_cons {sep s p q : ByteArray} {r : List ByteArray} (t : ByteArray) (h1 : ∀ (w : World), (callFunc 102 #[.string s, .int .u8 ((bt sep 0).toNat : Int)]).run Tryz.prog w = .ok (.value (.int .i64 (p.size : Int))) w) (h2 : s.size ≤ 100000 ∧ p.size + 1 ≤ s.size) (h3 : s.extract 0 p.size = p) (ht : s.extract (p.size + 1) s.size = t) (h : SplitOk sep t (q :: r)) : SplitOk sep s (p :: q :: r) := ⟨h1, h2, h3, ht ▸ h⟩
theorem spA : SplitOk nlS txA lnA := by
  refine sp_cons _ (fun w => by kernel_rfl) (by decide) (by decide +kernel) rfl ?_
  refine sp_cons _ (fun w => by kernel_rfl) (by decide) (by decide +kernel) rfl ?_
  refine sp_cons _ (fun w => by kernel_rfl) (by decide) (by decide +kernel) rfl ?_
  unfold SplitOk; decide +kernel
theorem spB : SplitOk nlS txB lnB := by
  refine sp_cons _ (fun w => by kernel_rfl) (by decide) (by decide +kernel) rfl ?_
  refine sp_cons _ (fun w => by kernel_rfl) (by decide) (by decide +kernel) rfl ?_
  refine sp_cons _ (fun w => by kernel_rfl) (by decide) (by decide +kernel) rfl ?_
  unfold SplitOk; decide +kernel
def wdA : Nat → List ByteArray
  | 0 => wd0
  | 1 => [⟨#[116, 105, 99, 107]⟩, ⟨#[51]⟩]
  | _ => [⟨#[114, 97, 119]⟩, ⟨#[48, 57]⟩]
theorem spW0 : SplitOk spS ⟨#[115, 101, 114, 118, 101, 114, 32, 55, 50, 54, 102, 54, 102, 55, 52, 32, 50, 32, 50, 32, 52, 32, 52, 32, 50, 32, 57, 32, 57, 32, 53, 32, 51, 32, 50]⟩ wd0 := by
  unfold wd0 numsS
  simp only [List.map_cons, List.map_nil]
  iterate 11 refine sp_cons _ (fun w => by kernel_rfl) (by decide +kernel) (by decide +kernel) rfl ?_
  unfold SplitOk; decide +kernel
theorem spW1 : SplitOk spS ⟨#[116, 105, 99, 107, 32, 51]⟩ (wdA 1) := by
  refine sp_cons _ (fun w => by kernel_rfl) (by decide +kernel) (by decide +kernel) rfl ?_
  unfold SplitOk; decide +kernel
theorem spW2 : SplitOk spS ⟨#[114, 97, 119, 32, 48, 57]⟩ (wdA 2) := by
  refine sp_cons _ (fun w => by kernel_rfl) (by decide +kernel) (by decide +kernel) rfl ?_
  unfold SplitOk; decide +kernel
theorem splitA_ok (k : Nat) (hk : k < 3) (l : ByteArray) (hl : lnA[k]? = some l) (w : World) : Fx Tryz.prog 5 [.string l, .string spS] w (fun u w' => ∃ g, u = .slice (some ⟨g, 0, none⟩) (wdA k).length (wdA k).length ∧ Blk w' g 9 ((wdA k).map Value.string) ∧ w.heap.size ≤ g ∧ Grow w w') := by
  match k, hk with
  | 0, _ => cases hl; exact split_ok _ spS rfl wd0 11 rfl (by decide) (by decide) (by decide) spW0 (fun w => by kernel_rfl) w
  | 1, _ => cases hl; exact split_ok _ spS rfl (wdA 1) 1 rfl (by decide) (by decide) (by decide) spW1 (fun w => by kernel_rfl) w
  | 2, _ => cases hl; exact split_ok _ spS rfl (wdA 2) 1 rfl (by decide) (by decide) (by decide) spW2 (fun w => by kernel_rfl) w
def LnAt (N p : Nat) : Nat → World → Prop
  | 0, w => Blk w p 43 runZ
  | 1, w => ∃ sv dk dr q tk pl m ds vt dd base, RnAt base w p sv dd 0 [] ∧ Blk w sv 89 (serC root 2 2 4 4 2 9 9 5 0 dk m) ∧ DkAt w dk dr q tk pl root 0 9 2 2 0 (.slice none 0 0) [] ds vt 0 [] (.slice none 0 0) ∧ MapAt (Value.int .i64) w m [] ∧ N ≤ sv ∧ N ≤ dr ∧ sv < base ∧ dr < base
  | 2, w => ∃ sv dd base, RnAt base w p sv dd 1 [48, 48, 48, 48, 48, 51, 10]
  | _, w => ∃ sv dd base, RnAt base w p sv dd 2 [48, 48, 48, 48, 48, 51, 10, 48, 49, 10]
theorem LnAt.grow {N p k : Nat} {w w' : World} (h : LnAt N p k w) (hg : Grow w w') : LnAt N p k w' := by
  match k with
  | 0 => exact Blk.mod h hg (fun h => h)
  | 1 =>
    obtain ⟨sv, dk, dr, q, tk, pl, m, ds, vt, dd, base, h1, h2, h3, h4, h5⟩ := h
    exact ⟨sv, dk, dr, q, tk, pl, m, ds, vt, dd, base, h1.grow hg, h2.mod hg (fun h => h), h3.grow hg, h4.mod hg (fun h => h), h5⟩
  | 2 => obtain ⟨sv, dd, base, h1⟩ := h; exact ⟨sv, dd, base, h1.grow hg⟩
  | _ + 3 => obtain ⟨sv, dd, base, h1⟩ := h; exact ⟨sv, dd, base, h1.grow hg⟩
theorem line0_ok {N p g : Nat} {w : World} (h : LnAt N p 0 w) (hp : N ≤ p) (hw : Blk w g 9 (wd0.map Value.string)) (hK : KeysAt w) : Fx Tryz.prog 6 [pp p, .slice (some ⟨g, 0, none⟩) 12 12] w (fun u w' => u = .bool true ∧ LnAt N p 1 w' ∧ Mod (N ≤ ·) w w') := by
  have h0 : Blk w p 43 runZ := h
  have hlt := h0.lt
  refine enter Tryz.func6 rfl rfl rfl _ (Pick.sub (l := [0, 1]) (.cons rfl (.cons rfl .nil))) ?_
  refine RK.seq ?_
  refine RK.region ?_
  refine RL.p rfl rfl ?_
  refine RL.done ?_
  iterate 2 refine RK.seq ?_
  refine RK.region ?_
  iterate 2 refine RL.p rfl rfl ?_
  refine RL.q (.free rfl) rfl rfl (Yld.fieldAddr fo43_0 rfl) ?_
  refine RL.q (.free rfl) rfl rfl (Yld.load p29 rfl (at1 (h0.cell rfl))) ?_
  refine RL.q (.free rfl) rfl rfl (Yld.eqPtr Tryz.underlying29 rfl rfl) ?_
  refine RL.done ?_
  refine RK.condT (hcT rfl (rfl)) ?_
  refine RK.seq ?_
  refine RK.region ?_
  iterate 2 refine RL.p rfl rfl ?_
  refine RL.op (.free rfl) rfl rfl (Does.call rfl e9 (first1_ok h0 hw hK)) ?_
  rintro _ w1 ⟨rfl, ⟨sv, dk, dr, q, tk, pl, m, ds, vt, dd, ⟨hsv, hdr⟩, h1, h2, h3, h4⟩, hM⟩
  have hz := hM.size
  refine RL.p rfl rfl ?_
  refine RL.done ?_
  refine RK.ret_of Tryz.func6 (res1 rfl rfl) ?_ _
  exact ⟨_, rfl, rfl, ⟨sv, dk, dr, q, tk, pl, m, ds, vt, dd, w1.heap.size, ⟨⟨_, _, _, _, [], [], h1, .inl rfl, Row.nil _ _ _, Row.nil _ _ _, Row.nil _ _ _, fun b e => by simp [Value.ownBlock] at e, fun b e => by simp [Value.ownBlock] at e, fun b e => by simp [Value.ownBlock] at e⟩, h1.lt, Nat.le_refl _⟩, h2, h3, h4, by omega, by omega, h2.lt, h3.door.blk.lt⟩, hM.mono fun b _ e => by omega⟩
theorem line1_ok {N p g : Nat} {w : World} (h : LnAt N p 1 w) (hp : N ≤ p) (hw : Blk w g 9 ((wdA 1).map Value.string)) : Fx Tryz.prog 6 [pp p, .slice (some ⟨g, 0, none⟩) 2 2] w (fun u w' => u = .bool true ∧ LnAt N p 2 w' ∧ Mod (N ≤ ·) w w') := by
  obtain ⟨sv, dk, dr, q, tk, pl, m, ds, vt, dd, base, h1, h2, h3, h4, h5, h6, h7, h8⟩ := h
  obtain ⟨it, an, a, v, xs, ys, hb, _⟩ := h1.ex
  have hlt := hb.lt
  refine enter Tryz.func6 rfl rfl rfl _ (Pick.sub (l := [0, 1]) (.cons rfl (.cons rfl .nil))) ?_
  refine RK.seq ?_
  refine RK.region ?_
  refine RL.p rfl rfl ?_
  refine RL.done ?_
  iterate 2 refine RK.seq ?_
  refine RK.region ?_
  iterate 2 refine RL.p rfl rfl ?_
  refine RL.q (.free rfl) rfl rfl (Yld.fieldAddr fo43_0 rfl) ?_
  refine RL.q (.free rfl) rfl rfl (Yld.load p29 rfl (at1 (hb.cell rfl))) ?_
  refine RL.q (.free rfl) rfl rfl (Yld.eqPtr Tryz.underlying29 rfl rfl) ?_
  refine RL.done ?_
  refine RK.condF (hcF rfl (rfl)) ?_
  refine RK.skip ?_
  iterate 2 refine RK.seq ?_
  refine RK.region ?_
  refine RL.p rfl rfl ?_
  refine RL.q (.free rfl) rfl rfl (Yld.lenSl u26 rfl) ?_
  refine RL.done ?_
  refine RK.block ?_
  refine RK.seq ?_
  refine RK.region ?_
  iterate 2 refine RL.p rfl rfl ?_
  refine RL.done ?_
  refine RK.condF (hcF rfl (rfl)) ?_
  refine RK.seq ?_
  refine RK.region ?_
  iterate 2 refine RL.p rfl rfl ?_
  refine RL.done ?_
  refine RK.condT (hcT rfl (rfl)) ?_
  refine RK.seq ?_
  refine RK.drawF (N ≤ ·) [(0, false), (1, false), (2, false), (4, false), (5, false)] 3 6 [(6, true), (7, true), (8, false)] [(3, true), (7, true), (8, false)] [] mixed (by kernel_rfl) ?_
  iterate 2 refine DL.p rfl rfl rfl ?_
  refine DL.qf rfl (.free rfl) rfl rfl (Yld.indexAddrN u26 i9 rfl rfl ((by decide : 0 < 2))) ?_
  refine DL.p rfl rfl rfl ?_
  refine DL.qf rfl (.free rfl) rfl rfl (Yld.indexAddrN u26 i9 rfl rfl ((by decide : 1 < 2))) ?_
  refine DL.fork ?_ ?_
  · refine DL.lq rfl (.free rfl) rfl rfl (Yld.load p9 rfl (at1 ((hw.mod (Mod.drew No _) (fun h => h)).at1 (k := 0) (v := .string ⟨#[116, 105, 99, 107]⟩) rfl))) ?_
    refine DL.lq rfl (.free rfl) rfl rfl (Yld.load p9 rfl (at1 ((hw.mod (Mod.drew No _) (fun h => h)).at1 (k := 1) (v := .string ⟨#[51]⟩) rfl))) ?_
    refine DL.op rfl (.free rfl) rfl rfl (Does.call rfl e11 (longTick_ok (h1.grow (Mod.drew No _)) hp (show N ≤ w.heap.size by omega) (by omega) (by decide) (h2.mod (Mod.drew No _) (fun h => h)) (h3.grow (Mod.drew No _)) (h4.mod (Mod.drew No _) (fun h => h)) h5 h6 h7 h8)) ?_
    rintro _ w1 ⟨rfl, r1, hm1⟩
    refine ⟨(Mod.drew _ _).trans hm1, ?_⟩
    refine DL.p rfl rfl rfl ?_
    refine DL.done ?_
    refine RK.ret_of Tryz.func6 (res1 rfl rfl) ?_ _
    exact ⟨_, rfl, rfl, ⟨sv, dd, base, r1⟩, (Mod.drew _ _).trans hm1⟩
  · refine DL.lq rfl (.free rfl) rfl rfl (Yld.load p9 rfl (at1 ((hw.mod (Mod.drew No _) (fun h => h)).at1 (k := 1) (v := .string ⟨#[51]⟩) rfl))) ?_
    refine DL.lq rfl (.free rfl) rfl rfl (Yld.load p9 rfl (at1 ((hw.mod (Mod.drew No _) (fun h => h)).at1 (k := 0) (v := .string ⟨#[116, 105, 99, 107]⟩) rfl))) ?_
    refine DL.op rfl (.free rfl) rfl rfl (Does.call rfl e11 (longTick_ok (h1.grow (Mod.drew No _)) hp (show N ≤ w.heap.size by omega) (by omega) (by decide) (h2.mod (Mod.drew No _) (fun h => h)) (h3.grow (Mod.drew No _)) (h4.mod (Mod.drew No _) (fun h => h)) h5 h6 h7 h8)) ?_
    rintro _ w1 ⟨rfl, r1, hm1⟩
    refine ⟨(Mod.drew _ _).trans hm1, ?_⟩
    refine DL.p rfl rfl rfl ?_
    refine DL.done ?_
    refine RK.ret_of Tryz.func6 (res1 rfl rfl) ?_ _
    exact ⟨_, rfl, rfl, ⟨sv, dd, base, r1⟩, (Mod.drew _ _).trans hm1⟩
theorem line2_ok {N p g : Nat} {w : World} (h : LnAt N p 2 w) (hp : N ≤ p) (hw : Blk w g 9 ((wdA 2).map Value.string)) : Fx Tryz.prog 6 [pp p, .slice (some ⟨g, 0, none⟩) 2 2] w (fun u w' => u = .bool true ∧ LnAt N p 3 w' ∧ Mod (N ≤ ·) w w') := by
  obtain ⟨sv, dd, base, h1⟩ := h
  obtain ⟨it, an, a, v, xs, ys, hb, _⟩ := h1.ex
  have hlt := hb.lt
  refine enter Tryz.func6 rfl rfl rfl _ (Pick.sub (l := [0, 1]) (.cons rfl (.cons rfl .nil))) ?_
  refine RK.seq ?_
  refine RK.region ?_
  refine RL.p rfl rfl ?_
  refine RL.done ?_
  iterate 2 refine RK.seq ?_
  refine RK.region ?_
  iterate 2 refine RL.p rfl rfl ?_
  refine RL.q (.free rfl) rfl rfl (Yld.fieldAddr fo43_0 rfl) ?_
  refine RL.q (.free rfl) rfl rfl (Yld.load p29 rfl (at1 (hb.cell rfl))) ?_
  refine RL.q (.free rfl) rfl rfl (Yld.eqPtr Tryz.underlying29 rfl rfl) ?_
  refine RL.done ?_
  refine RK.condF (hcF rfl (rfl)) ?_
  refine RK.skip ?_
  iterate 2 refine RK.seq ?_
  refine RK.region ?_
  refine RL.p rfl rfl ?_
  refine RL.q (.free rfl) rfl rfl (Yld.lenSl u26 rfl) ?_
  refine RL.done ?_
  refine RK.block ?_
  refine RK.seq ?_
  refine RK.region ?_
  iterate 2 refine RL.p rfl rfl ?_
  refine RL.done ?_
  refine RK.condF (hcF rfl (rfl)) ?_
  refine RK.seq ?_
  refine RK.region ?_
  iterate 2 refine RL.p rfl rfl ?_
  refine RL.done ?_
  refine RK.condT (hcT rfl (rfl)) ?_
  refine RK.seq ?_
  refine RK.drawF (N ≤ ·) [(0, false), (1, false), (2, false), (4, false), (5, false)] 3 6 [(6, true), (7, true), (8, false)] [(3, true), (7, true), (8, false)] [] mixed (by kernel_rfl) ?_
  iterate 2 refine DL.p rfl rfl rfl ?_
  refine DL.qf rfl (.free rfl) rfl rfl (Yld.indexAddrN u26 i9 rfl rfl ((by decide : 0 < 2))) ?_
  refine DL.p rfl rfl rfl ?_
  refine DL.qf rfl (.free rfl) rfl rfl (Yld.indexAddrN u26 i9 rfl rfl ((by decide : 1 < 2))) ?_
  refine DL.fork ?_ ?_
  · refine DL.lq rfl (.free rfl) rfl rfl (Yld.load p9 rfl (at1 ((hw.mod (Mod.drew No _) (fun h => h)).at1 (k := 0) (v := .string ⟨#[114, 97, 119]⟩) rfl))) ?_
    refine DL.lq rfl (.free rfl) rfl rfl (Yld.load p9 rfl (at1 ((hw.mod (Mod.drew No _) (fun h => h)).at1 (k := 1) (v := .string ⟨#[48, 57]⟩) rfl))) ?_
    refine DL.op rfl (.free rfl) rfl rfl (Does.call rfl e11 (longRaw_ok (h1.grow (Mod.drew No _)) hp (show N ≤ w.heap.size by omega) (by omega) (by decide))) ?_
    rintro _ w1 ⟨rfl, r1, hm1⟩
    refine ⟨(Mod.drew _ _).trans hm1, ?_⟩
    refine DL.p rfl rfl rfl ?_
    refine DL.done ?_
    refine RK.ret_of Tryz.func6 (res1 rfl rfl) ?_ _
    exact ⟨_, rfl, rfl, ⟨sv, dd, base, r1⟩, (Mod.drew _ _).trans hm1⟩
  · refine DL.lq rfl (.free rfl) rfl rfl (Yld.load p9 rfl (at1 ((hw.mod (Mod.drew No _) (fun h => h)).at1 (k := 1) (v := .string ⟨#[48, 57]⟩) rfl))) ?_
    refine DL.lq rfl (.free rfl) rfl rfl (Yld.load p9 rfl (at1 ((hw.mod (Mod.drew No _) (fun h => h)).at1 (k := 0) (v := .string ⟨#[114, 97, 119]⟩) rfl))) ?_
    refine DL.op rfl (.free rfl) rfl rfl (Does.call rfl e11 (longRaw_ok (h1.grow (Mod.drew No _)) hp (show N ≤ w.heap.size by omega) (by omega) (by decide))) ?_
    rintro _ w1 ⟨rfl, r1, hm1⟩
    refine ⟨(Mod.drew _ _).trans hm1, ?_⟩
    refine DL.p rfl rfl rfl ?_
    refine DL.done ?_
    refine RK.ret_of Tryz.func6 (res1 rfl rfl) ?_ _
    exact ⟨_, rfl, rfl, ⟨sv, dd, base, r1⟩, (Mod.drew _ _).trans hm1⟩
theorem lineA_ok (k : Nat) (hk : k < 3) {N p g : Nat} {w : World} (h : LnAt N p k w) (hp : N ≤ p) (hw : Blk w g 9 ((wdA k).map Value.string)) (hK : KeysAt w) : Fx Tryz.prog 6 [pp p, .slice (some ⟨g, 0, none⟩) (wdA k).length (wdA k).length] w (fun u w' => u = .bool true ∧ LnAt N p (k + 1) w' ∧ Mod (N ≤ ·) w w') := by
  match k, hk with
  | 0, _ => exact line0_ok h hp hw hK
  | 1, _ => exact line1_ok h hp hw
  | 2, _ => exact line2_ok h hp hw
theorem runA_ok (w : World) (hK : KeysAt w) : Fx Tryz.prog 4 [.string txA] w (fun u w' => u = .tuple #[.string ⟨#[48, 48, 48, 48, 48, 51, 10, 48, 49, 10]⟩, .int .i64 0, .int .i64 0] ∧ Grow w w') := by
  have hpos := hK.pos
  refine enter Tryz.func4 rfl rfl rfl _ (Pick.sub (l := [0]) (.cons rfl .nil)) ?_
  refine RK.seq ?_
  refine RK.region ?_
  iterate 3 refine RL.p rfl rfl ?_
  refine RL.done ?_
  iterate 2 refine RK.seq ?_
  refine RK.region ?_
  refine RL.p rfl rfl ?_
  refine RL.q (.free rfl) rfl rfl (Yld.lenStr u9 rfl) ?_
  refine RL.p rfl rfl ?_
  refine RL.done ?_
  refine RK.condF (hcF rfl (rfl)) ?_
  refine RK.skip ?_
  refine RK.seq ?_
  refine RK.region ?_
  refine RL.p rfl rfl ?_
  refine RL.op (.free rfl) rfl rfl (Does.call rfl e5 (split_ok txA nlS rfl lnA 3 rfl (by decide) (by decide) (by decide) spA (fun w => by kernel_rfl) _)) ?_
  rintro _ w1 ⟨g, rfl, hg, hgz, hg1⟩
  have hglt := hg.lt
  refine RL.p rfl rfl ?_
  refine RL.done ?_
  iterate 2 refine RK.seq ?_
  refine RK.region ?_
  iterate 2 refine RL.p rfl rfl ?_
  refine RL.q (.free rfl) rfl rfl (Yld.lenSl u26 rfl) ?_
  refine RL.p rfl rfl ?_
  refine RL.q (.free rfl) rfl rfl (Yld.indexAddrN u26 i9 rfl rfl ((by decide : 3 < 4))) ?_
  refine RL.q (.free rfl) rfl rfl (Yld.load p9 rfl (at1 (hg.at1 (k := 3) (v := .string ⟨#[]⟩) rfl))) ?_
  refine RL.q (.free rfl) rfl rfl (Yld.eqK (v := .bool true) rfl rfl (fun w => by kernel_rfl)) ?_
  refine RL.done ?_
  refine RK.condT (hcT rfl (rfl)) ?_
  refine RK.region ?_
  iterate 2 refine RL.p rfl rfl ?_
  refine RL.q (.free rfl) rfl rfl (Yld.lenSl u26 rfl) ?_
  refine RL.p rfl rfl ?_
  refine RL.q (.free rfl) rfl rfl (Yld.sliceHi u26 i9 (m := 3) rfl rfl (by decide)) ?_
  refine RL.p rfl rfl ?_
  refine RL.done ?_
  refine RK.seq ?_
  refine RK.region ?_
  refine RL.q (.free rfl) rfl rfl (Yld.build (v := .agg runZ.toArray) rfl (fun w => by kernel_rfl)) ?_
  refine RL.op (.free rfl) rfl rfl (Does.box rfl) ?_
  rintro _ w2 ⟨p, rfl, hnp⟩
  have hz1 := hg1.size
  have hz2 := hnp.size
  have hpa := hnp.at_
  have hg2 := hg.mod hnp.grow (fun h => h)
  refine RL.p rfl rfl ?_
  refine RL.done ?_
  iterate 2 refine RK.seq ?_
  refine RK.region ?_
  refine RL.p rfl rfl ?_
  refine RL.q (.free rfl) rfl rfl (Yld.lenSl u26 rfl) ?_
  refine RL.p rfl rfl ?_
  refine RL.done ?_
  refine RK.block ?_
  refine RK.loop (fun k : Nat => [(5, .slice (some ⟨g, 0, none⟩) 3 4), (6, pp p), (28, .slice (some ⟨g, 0, none⟩) 3 4), (29, .int .i64 3), (30, .int .i64 (k : Int))]) (fun k w' => k ≤ 3 ∧ LnAt w2.heap.size.pred p k w' ∧ Mod (w2.heap.size.pred ≤ ·) w2 w') (fun k => 3 - k) 0 ⟨rfl, rfl, rfl, rfl, rfl, trivial⟩ ⟨by omega, hnp.blk, Mod.refl _ _⟩ (fun k w' hI ih => ?_)
  obtain ⟨hk, hL, hm⟩ := hI
  have hN : w2.heap.size.pred = p := by rw [Nat.pred_eq_sub_one]; omega
  refine RK.seq ?_
  refine RK.region ?_
  refine RL.p rfl rfl ?_
  refine RL.done ?_
  refine RK.seq ?_
  first | refine RK.condD rfl (fun h31 => ?_) (fun h31 => ?_) | refine RK.condN rfl (fun h31 => ?_) (fun h31 => ?_) | refine RK.cond rfl (fun h31 => ?_) (fun h31 => ?_)
  · obtain ⟨l, hl, hne⟩ : ∃ l, lnA[k]? = some l ∧ ∀ (w : World), ((do eqGuard .neq 9 (.tmp 35) (.const (.string ⟨#[]⟩)) (.string l) (.string ⟨#[]⟩); binOp .neq 9 (.string l) (.string ⟨#[]⟩)) : Sem Value).run Tryz.prog w = .ok (.bool true) w := by
        match k, (show k < 3 by omega) with
        | 0, _ => exact ⟨_, rfl, fun w => by kernel_rfl⟩
        | 1, _ => exact ⟨_, rfl, fun w => by kernel_rfl⟩
        | 2, _ => exact ⟨_, rfl, fun w => by kernel_rfl⟩
    refine RK.skip ?_
    refine RK.seq ?_
    refine RK.block ?_
    refine RK.seq ?_
    refine RK.region ?_
    refine RL.p rfl rfl ?_
    refine RL.q (.free rfl) rfl rfl (Yld.indexAddrN u26 i9 rfl rfl ((by omega : k < 3))) ?_
    refine RL.q (.free rfl) rfl rfl (Yld.load p9 rfl (at1 ((hg2.mod hm (by omega)).at1 (k := k) (v := .string l) (by rw [List.getElem?_map, hl]; rfl)))) ?_
    iterate 2 refine RL.p rfl rfl ?_
    refine RL.done ?_
    refine RK.seq ?_
    refine RK.region ?_
    refine RL.p rfl rfl ?_
    refine RL.q (.free rfl) rfl rfl (Yld.neqK (v := .bool true) rfl rfl hne) ?_
    refine RL.p rfl rfl ?_
    refine RL.knownT (d := 37) rfl rfl (rfl) ?_
    iterate 2 refine RL.q (.yes rfl rfl rfl) rfl rfl (Yld.pure rfl) ?_
    refine RL.op (.yes rfl rfl rfl) rfl rfl (Does.call rfl e5 (splitA_ok k (by omega) l hl _)) ?_
    rintro _ w3 ⟨g3, rfl, hb3, hz3, hg3⟩
    have hzm := hm.size
    refine RL.op (.yes rfl rfl rfl) rfl rfl (Does.call rfl e6 (lineA_ok k (by omega) (hL.grow hg3) (by omega) hb3 (((hK.grow (hg1.trans hnp.grow)).mod hm (by omega)).grow hg3))) ?_
    rintro _ w4 ⟨rfl, hL4, hm4⟩
    refine RL.q (.yes rfl rfl rfl) rfl rfl (Yld.pure rfl) ?_
    refine RL.p rfl rfl ?_
    refine RL.done ?_
    refine RK.condF (hcF rfl (rfl)) ?_
    refine RK.skip ?_
    refine RK.inBlock ?_
    refine RK.region ?_
    refine RL.p rfl rfl ?_
    refine RL.re (d := 46) rfl rfl (add_i64 (z := ((k + 1 : Nat) : Int)) (by simp) (by omega) (by omega)) ?_
    refine RL.p rfl rfl ?_
    refine RL.done ?_
    exact RK.back (ih (k + 1) _ ⟨by omega, hL4, (hm.trans (Mod.any' hg3)).trans hm4⟩ (by omega)) ⟨rfl, rfl, rfl, rfl, rfl, trivial⟩
  · obtain rfl : k = 3 := by omega
    obtain ⟨sv, dd, base, h1⟩ := (hL : ∃ sv dd base, RnAt base w' p sv dd 2 [48, 48, 48, 48, 48, 51, 10, 48, 49, 10])
    obtain ⟨it, an, a, v, xs, ys, hb, ha, hi, hA, hv, fi, fa, fv⟩ := h1.ex
    obtain ⟨rb, cap, rfl, _, _, _⟩ := hv.form (by decide)
    have hfv := fv rb rfl
    have hpb := h1.pb
    refine RK.exit rfl ?_
    iterate 2 refine RK.seq ?_
    refine RK.region ?_
    iterate 2 refine RL.p rfl rfl ?_
    refine RL.q (.free rfl) rfl rfl (Yld.fieldAddr fo43_0 rfl) ?_
    refine RL.q (.free rfl) rfl rfl (Yld.load p29 rfl (at1 (hb.cell rfl))) ?_
    refine RL.q (.free rfl) rfl rfl (Yld.eqPtr Tryz.underlying29 rfl rfl) ?_
    refine RL.done ?_
    refine RK.condF (hcF rfl (rfl)) ?_
    refine RK.skip ?_
    refine RK.seq ?_
    refine RK.region ?_
    iterate 2 refine RL.p rfl rfl ?_
    refine RL.q (.free rfl) rfl rfl (Yld.fieldAddr fo43_3 rfl) ?_
    refine RL.op (.free rfl) rfl rfl (Does.call rfl e7 (blStrR_ok hb hv (by simp))) ?_
    rintro _ w5 ⟨rfl, hm5⟩
    iterate 3 refine RL.p rfl rfl ?_
    refine RL.done ?_
    refine RK.ret_of Tryz.func4 (res3 rfl rfl rfl rfl) ?_ _
    exact ⟨_, rfl, rfl, ((hg1.trans hnp.grow).then hm (fun q hq e => by omega)).then hm5 (fun q hq e => by omega)⟩
theorem lineB_ok {p g : Nat} {w : World} (hb : Blk w p 43 runZ) : Fx Tryz.prog 6 [pp p, .slice (some ⟨g, 0, none⟩) 1 1] w (fun u w' => u = .bool false ∧ w = w') := by
  refine enter Tryz.func6 rfl rfl rfl _ (Pick.sub (l := [0, 1]) (.cons rfl (.cons rfl .nil))) ?_
  refine RK.seq ?_
  refine RK.region ?_
  refine RL.p rfl rfl ?_
  refine RL.done ?_
  iterate 2 refine RK.seq ?_
  refine RK.region ?_
  iterate 2 refine RL.p rfl rfl ?_
  refine RL.q (.free rfl) rfl rfl (Yld.fieldAddr fo43_0 rfl) ?_
  refine RL.q (.free rfl) rfl rfl (Yld.load p29 rfl (at1 (hb.cell rfl))) ?_
  refine RL.q (.free rfl) rfl rfl (Yld.eqPtr Tryz.underlying29 rfl rfl) ?_
  refine RL.done ?_
  refine RK.condT (hcT rfl (rfl)) ?_
  refine RK.seq ?_
  refine RK.region ?_
  iterate 2 refine RL.p rfl rfl ?_
  refine RL.op (.free rfl) rfl rfl (Does.call rfl e9 (first0_ok (.bool true))) ?_
  rintro _ _ ⟨rfl, rfl⟩
  refine RL.p rfl rfl ?_
  refine RL.done ?_
  refine RK.ret_of Tryz.func6 (res1 rfl rfl) ?_ _
  exact ⟨_, rfl, rfl, rfl⟩
theorem splitB_ok (w : World) : Fx Tryz.prog 5 [.string ⟨#[115, 101, 114, 118, 101, 114]⟩, .string spS] w (fun u w' => ∃ g, u = .slice (some ⟨g, 0, none⟩) 1 1 ∧ Blk w' g 9 [.string ⟨#[115, 101, 114, 118, 101, 114]⟩] ∧ w.heap.size ≤ g ∧ Grow w w') :=
  split_ok _ spS rfl [⟨#[115, 101, 114, 118, 101, 114]⟩] 0 rfl (by decide) (by decide) (by decide) rfl (fun w => by kernel_rfl) w
theorem runB_ok (w : World) : Fx Tryz.prog 4 [.string txB] w (fun u w' => u = .tuple #[.string ⟨#[]⟩, .int .i64 3, .int .i64 1] ∧ Grow w w') := by
  refine enter Tryz.func4 rfl rfl rfl _ (Pick.sub (l := [0]) (.cons rfl .nil)) ?_
  refine RK.seq ?_
  refine RK.region ?_
  iterate 3 refine RL.p rfl rfl ?_
  refine RL.done ?_
  iterate 2 refine RK.seq ?_
  refine RK.region ?_
  refine RL.p rfl rfl ?_
  refine RL.q (.free rfl) rfl rfl (Yld.lenStr u9 rfl) ?_
  refine RL.p rfl rfl ?_
  refine RL.done ?_
  refine RK.condF (hcF rfl (rfl)) ?_
  refine RK.skip ?_
  refine RK.seq ?_
  refine RK.region ?_
  refine RL.p rfl rfl ?_
  refine RL.op (.free rfl) rfl rfl (Does.call rfl e5 (split_ok txB nlS rfl lnB 3 rfl (by decide) (by decide) (by decide) spB (fun w => by kernel_rfl) _)) ?_
  rintro _ w1 ⟨g, rfl, hg, hgz, hg1⟩
  refine RL.p rfl rfl ?_
  refine RL.done ?_
  iterate 2 refine RK.seq ?_
  refine RK.region ?_
  iterate 2 refine RL.p rfl rfl ?_
  refine RL.q (.free rfl) rfl rfl (Yld.lenSl u26 rfl) ?_
  refine RL.p rfl rfl ?_
  refine RL.q (.free rfl) rfl rfl (Yld.indexAddrN u26 i9 rfl rfl ((by decide : 3 < 4))) ?_
  refine RL.q (.free rfl) rfl rfl (Yld.load p9 rfl (at1 (hg.at1 (k := 3) (v := .string ⟨#[]⟩) rfl))) ?_
  refine RL.q (.free rfl) rfl rfl (Yld.eqK (v := .bool true) rfl rfl (fun w => by kernel_rfl)) ?_
  refine RL.done ?_
  refine RK.condT (hcT rfl (rfl)) ?_
  refine RK.region ?_
  iterate 2 refine RL.p rfl rfl ?_
  refine RL.q (.free rfl) rfl rfl (Yld.lenSl u26 rfl) ?_
  refine RL.p rfl rfl ?_
  refine RL.q (.free rfl) rfl rfl (Yld.sliceHi u26 i9 (m := 3) rfl rfl (by decide)) ?_
  refine RL.p rfl rfl ?_
  refine RL.done ?_
  refine RK.seq ?_
  refine RK.region ?_
  refine RL.q (.free rfl) rfl rfl (Yld.build (v := .agg runZ.toArray) rfl (fun w => by kernel_rfl)) ?_
  refine RL.op (.free rfl) rfl rfl (Does.box rfl) ?_
  rintro _ w2 ⟨p, rfl, hnp⟩
  have hg2 := hg.mod hnp.grow (fun h => h)
  refine RL.p rfl rfl ?_
  refine RL.done ?_
  iterate 2 refine RK.seq ?_
  refine RK.region ?_
  refine RL.p rfl rfl ?_
  refine RL.q (.free rfl) rfl rfl (Yld.lenSl u26 rfl) ?_
  refine RL.p rfl rfl ?_
  refine RL.done ?_
  refine RK.block ?_
  refine RK.loop (fun k : Nat => [(5, .slice (some ⟨g, 0, none⟩) 3 4), (6, pp p), (28, .slice (some ⟨g, 0, none⟩) 3 4), (29, .int .i64 3), (30, .int .i64 (k : Int))]) (fun k w' => k ≤ 2 ∧ w2 = w') (fun k => 2 - k) 0 ⟨rfl, rfl, rfl, rfl, rfl, trivial⟩ ⟨by omega, rfl⟩ (fun k w' hI ih => ?_)
  obtain ⟨hk, rfl⟩ := hI
  obtain ⟨l, hl, h2, hne⟩ : ∃ l, lnB[k]? = some l ∧ (k = 2 → l = ⟨#[115, 101, 114, 118, 101, 114]⟩) ∧ ∀ (w : World), ((do eqGuard .neq 9 (.tmp 35) (.const (.string ⟨#[]⟩)) (.string l) (.string ⟨#[]⟩); binOp .neq 9 (.string l) (.string ⟨#[]⟩)) : Sem Value).run Tryz.prog w = .ok (.bool (decide (k = 2))) w := by
      match k, hk with
      | 0, _ => exact ⟨_, rfl, fun h => absurd h (by decide), fun w => by kernel_rfl⟩
      | 1, _ => exact ⟨_, rfl, fun h => absurd h (by decide), fun w => by kernel_rfl⟩
      | 2, _ => exact ⟨_, rfl, fun _ => rfl, fun w => by kernel_rfl⟩
  refine RK.seq ?_
  refine RK.region ?_
  refine RL.p rfl rfl ?_
  refine RL.done ?_
  refine RK.seq ?_
  refine RK.condT (hcT rfl (decide_eq_true (by omega))) ?_
  refine RK.skip ?_
  refine RK.seq ?_
  refine RK.block ?_
  refine RK.seq ?_
  refine RK.region ?_
  refine RL.p rfl rfl ?_
  refine RL.q (.free rfl) rfl rfl (Yld.indexAddrN u26 i9 rfl rfl ((by omega : k < 3))) ?_
  refine RL.q (.free rfl) rfl rfl (Yld.load p9 rfl (at1 (hg2.at1 (k := k) (v := .string l) (by rw [List.getElem?_map, hl]; rfl)))) ?_
  iterate 2 refine RL.p rfl rfl ?_
  refine RL.done ?_
  refine RK.seq ?_
  refine RK.region ?_
  refine RL.p rfl rfl ?_
  refine RL.q (.free rfl) rfl rfl (Yld.neqK (v := .bool (decide (k = 2))) rfl rfl hne) ?_
  refine RL.p rfl rfl ?_
  first | refine RL.splitD (d := 37) rfl rfl (fun h37 => ?_) (fun h37 => ?_) | refine RL.splitN (d := 37) rfl rfl (fun h37 => ?_) (fun h37 => ?_) | refine RL.split (d := 37) rfl rfl (fun h37 => ?_) (fun h37 => ?_)
  · obtain rfl : k = 2 := h37
    obtain rfl := h2 rfl
    iterate 2 refine RL.q (.yes rfl rfl rfl) rfl rfl (Yld.pure rfl) ?_
    refine RL.op (.yes rfl rfl rfl) rfl rfl (Does.call rfl e5 (splitB_ok _)) ?_
    rintro _ w3 ⟨g3, rfl, hb3, hz3, hg3⟩
    refine RL.op (.yes rfl rfl rfl) rfl rfl (Does.call rfl e6 (lineB_ok (hnp.blk.mod hg3 (fun h => h)))) ?_
    rintro _ _ ⟨rfl, rfl⟩
    refine RL.q (.yes rfl rfl rfl) rfl rfl (Yld.pure rfl) ?_
    refine RL.p rfl rfl ?_
    refine RL.done ?_
    refine RK.condT (hcT rfl (rfl)) ?_
    refine RK.seq ?_
    refine RK.region ?_
    iterate 2 refine RL.p rfl rfl ?_
    refine RL.re (d := 45) rfl rfl (add_i64 (z := 3) (by simp) (by omega) (by omega)) ?_
    iterate 3 refine RL.p rfl rfl ?_
    refine RL.done ?_
    refine RK.ret_of Tryz.func4 (res3 rfl rfl rfl rfl) ?_ _
    exact ⟨_, rfl, rfl, (hg1.trans hnp.grow).trans hg3⟩
  · iterate 5 refine RL.no (.no rfl rfl rfl rfl) rfl rfl ?_
    refine RL.p rfl rfl ?_
    refine RL.done ?_
    refine RK.condF (hcF rfl (rfl)) ?_
    refine RK.skip ?_
    refine RK.inBlock ?_
    refine RK.region ?_
    refine RL.p rfl rfl ?_
    refine RL.re (d := 46) rfl rfl (add_i64 (z := ((k + 1 : Nat) : Int)) (by simp) (by omega) (by omega)) ?_
    refine RL.p rfl rfl ?_
    refine RL.done ?_
    exact RK.back (ih (k + 1) _ ⟨by omega, rfl⟩ (by omega)) ⟨rfl, rfl, rfl, rfl, rfl, trivial⟩
theorem scruns_ok (w : World) (hK : KeysAt w) : Fx Tryz.prog 3 [] w (fun u w' => u = .bool true ∧ Grow w w') := by
  refine enter Tryz.func3 rfl rfl rfl _ (Pick.sub (l := []) .nil) ?_
  refine RK.seq ?_
  refine RK.region ?_
  refine RL.p rfl rfl ?_
  refine RL.done ?_
  refine RK.seq ?_
  refine RK.region ?_
  refine RL.op (.free rfl) rfl rfl (Does.call rfl e4 (runA_ok _ hK)) ?_
  rintro _ w1 ⟨rfl, hg1⟩
  iterate 7 refine RL.p rfl rfl ?_
  refine RL.done ?_
  refine RK.seq ?_
  refine RK.region ?_
  refine RL.op (.free rfl) rfl rfl (Does.call rfl e4 (runB_ok _)) ?_
  rintro _ w2 ⟨rfl, hg2⟩
  iterate 7 refine RL.p rfl rfl ?_
  refine RL.done ?_
  refine RK.seq ?_
  refine RK.region ?_
  refine RL.p rfl rfl ?_
  refine RL.q (.free rfl) rfl rfl (Yld.eqK (v := .bool true) rfl rfl (fun w => by kernel_rfl)) ?_
  refine RL.p rfl rfl ?_
  refine RL.knownT (d := 19) rfl rfl (rfl) ?_
  iterate 2 refine RL.q (.yes rfl rfl rfl) rfl rfl (Yld.pure rfl) ?_
  iterate 2 refine RL.p rfl rfl ?_
  refine RL.knownT (d := 23) rfl rfl (rfl) ?_
  iterate 2 refine RL.q (.yes rfl rfl rfl) rfl rfl (Yld.pure rfl) ?_
  iterate 2 refine RL.p rfl rfl ?_
  refine RL.knownT (d := 27) rfl rfl (rfl) ?_
  iterate 2 refine RL.q (.yes rfl rfl rfl) rfl rfl (Yld.pure rfl) ?_
  iterate 2 refine RL.p rfl rfl ?_
  refine RL.knownT (d := 31) rfl rfl (rfl) ?_
  iterate 2 refine RL.q (.yes rfl rfl rfl) rfl rfl (Yld.pure rfl) ?_
  iterate 2 refine RL.p rfl rfl ?_
  refine RL.done ?_
  refine RK.ret_of Tryz.func3 (res1 rfl rfl) ?_ _
  exact ⟨_, rfl, rfl, hg1.trans hg2⟩
end Go.Proofs.YtcndimkkojdflaaGreatDoor
namespace Go.Proofs.YtcndimkkojdflaaGreatDoor.scriptRuns
open Go.ChangeShapes Go.WideShapes Go.ChangeAt Go.RowKit Go.X
set_option linter.unusedVariables false
theorem own : ownKnob Tryz.prog.godebug = none := by kernel_rfl
theorem door_met (os : Os) (args : Array Value) : laidMetH Tryz.prog laid8 ((World.laidAll Tryz.prog os laid8).forCall (fun _ _ => 0) ⟨#[], args, []⟩).memory := by
  rw [MakeChecks.laidMetH_plain _ _ _ (by kernel_rfl)]
  exact laidMet_laidAll _ (by kernel_rfl) (by kernel_rfl)
set_option maxRecDepth 100000 in
theorem lifted (os : Os) (started : os.Started) (H : Type) (enc : TypeId × Value → H) :
    ReturnsInHanded {} Tryz.checked os 3 .any (fun w args => (Rows.scriptRunsSpec.pre enc Tryz.prog Tryz.f3 [] false w args ∧ laidMetH Tryz.prog laid8 w) ∧ sizedMet enc Tryz.prog Tryz.f3 (OpenSpec.ofChange Rows.scriptRunsSpec) false w args) (Rows.scriptRunsSpec.post enc Tryz.prog Tryz.f3 false true false false) := by
  refine returnsInHanded_of_change_and (C := Tryz.checked) (X := fun w _ => laidMetH Tryz.prog laid8 w) (fun _ _ _ hh h => h.of_heap hh) own started (by kernel_rfl) Tryz.func3
    (ChangeSpec.witness_shaped (enc := enc) (C := Tryz.checked) (os := os) (X := fun w _ => laidMetH Tryz.prog laid8 w) false (World.laidAll Tryz.prog os laid8) #[] 8 (World.laidAll_os _ _ _) (World.shaped_of_ZipB (by kernel_rfl) (by kernel_rfl)) (by kernel_rfl) (by kernel_rfl) (by kernel_rfl) (door_met os _)) ?_
  intro W base args ds gs before hval0 hW hcnd _ hL _
  have hW' := hW
  obtain ⟨p, q, hA0, hV, rfl, hfz, hnd⟩ := hW
  have hA : DataW.TrodAll enc Tryz.prog W 0 (fun _ => true) true Tryz.f3.params.toList args.toList ds p := hA0
  rw [Tryz.params3] at hA
  obtain ⟨rfl, rfl, rfl⟩ := trodAll_none hA
  obtain ⟨rfl, rfl⟩ := trodVars_none hV
  simp only [List.append_nil] at hW'
  refine Calls.mono (scruns_ok W (keysLaid hL)) ?_
  rintro e W' ⟨v, rfl, rfl, hg⟩
  exact ⟨_, rfl, post_grow hW' (fun _ _ _ => trodAll_cons_mk (shut_bool Tryz.underlying4 _) trodAll_mk0) (fun sp _ => rfl) (fun _ => rfl) hg (ok_one (by kernel_rfl) rfl (okWide_bool_mk Tryz.underlying4 _))⟩
end Go.Proofs.YtcndimkkojdflaaGreatDoor.scriptRuns
namespace Go.Proofs.YtcndimkkojdflaaGreatDoor.scriptRuns
open Go.ChangeShapes Go.WideShapes Go.ChangeAt Go.RowKit Go.X
set_option linter.unusedVariables false
theorem band2 {a b : Bool} (ha : a = true) (hb : b = true) : (a && b) = true := by rw [ha, hb]; rfl
theorem k1 : (Rows.scriptRunsRow.inPlace == Tryz.pinned.checked.prog.inPlace 3) = true := by kernel_rfl
theorem k2 : (Rows.scriptRunsRow.unfollowed == Tryz.pinned.checked.prog.unfollowed 3) = true := by kernel_rfl
theorem k3 : (Rows.scriptRunsRow.recurses == Tryz.pinned.checked.prog.recurses 3) = true := by kernel_rfl
theorem k4 : (Rows.scriptRunsRow.named == Tryz.pinned.checked.prog.varsNamed 3) = true := by kernel_rfl
set_option maxHeartbeats 40000000 in
theorem facts : joinedFacts Tryz.pinned.checked.prog 3 Tryz.f3 Rows.scriptRunsSpec Rows.scriptRunsRow = true := by
  unfold joinedFacts
  repeat' (with_reducible refine band2 ?_ ?_)
  all_goals first | with_reducible exact k1 | with_reducible exact k2 | with_reducible exact k3 | with_reducible exact k4 | (as_aux_lemma => kernel_rfl)
set_option maxHeartbeats 4000000 in
theorem over : Rows.ScriptRunsSaid :=
  OpenClaim.holds_of_wide 3 Tryz.f3 rfl rfl rfl rfl rfl rfl rfl ⟨rfl, rfl, rfl, rfl, rfl⟩ rfl rfl rfl rfl rfl (by as_aux_lemma => kernel_rfl) Tryz.func3 facts
    (of_decide_eq_true (by as_aux_lemma => kernel_rfl)) (by as_aux_lemma => unfold Func.isWrapper; first | (rw [if_pos (by decide +kernel)]; kernel_rfl) | (rw [if_neg (by decide +kernel)]; exact ⟨rfl, rfl⟩))
    (fun os started H enc _ => lifted os started H enc)
end Go.Proofs.YtcndimkkojdflaaGreatDoor.scriptRuns
