/- What the claim stands on, part 7. Of own lemmas only those that it reaches. -/
import Derived.Test.YtnnmgfnhblbolaaGreatDoorKc6
set_option linter.unusedVariables false
set_option linter.unusedSimpArgs false
set_option maxHeartbeats 6400000
set_option maxRecDepth 100000
namespace Go.Proofs.YtnnmgfnhblbolaaGreatDoor
open Go Go.X
def By (w : World) (n : Nat) (v : Value) : Prop := ∃ cs, WW .u8 n cs ∧ Sl No w v 1 n cs
theorem By.grow {w w' : World} {n : Nat} {v : Value} (h : By w n v) (hg : Grow w w') : By w' n v := by
  obtain ⟨cs, h1, h2⟩ := h
  exact ⟨cs, h1, h2.mod (Mod.any' hg)⟩
theorem By.drew {w : World} {n : Nat} {v : Value} (h : By w n v) : By w.drew n v := h.grow (Mod.drew No w)
theorem By.row {w : World} {n : Nat} {v : Value} {cs : List Value} (h : Row w 5 1 v n cs) (hw : WW .u8 n cs) : By w n v := ⟨cs, hw, Sl.own h (fun _ _ h => h)⟩
theorem By.rowB {w : World} {v : Value} {l : List UInt8} (h : Row w 5 1 v l.length (bytesV l)) : By w l.length v := ⟨_, WW.bytes l, Sl.own h (fun _ _ h => h)⟩
theorem By.shape {w : World} {n : Nat} {v : Value} (h : By w n v) : ∃ a c, v = .slice a n c := by
  obtain ⟨cs, _, h2⟩ := h
  exact h2.shape
def sumB (l : List (Value × Nat)) : Nat := (l.map (·.2)).sum
theorem byPairs {w : World} : ∀ l : List (Value × Nat), (∀ p ∈ l, By w p.2 p.1) → ∃ pr : List (Value × List Value), pr.map (·.1) = l.map (·.1) ∧ (∀ p ∈ pr, Sl No w p.1 1 p.2.length p.2) ∧ (∀ p ∈ pr, p.2.all (·.oneCell') = true) ∧ totalB pr = sumB l ∧ WW .u8 (sumB l) (pr.flatMap (·.2))
  | [], _ => ⟨[], rfl, fun _ h => (by cases h), fun _ h => (by cases h), rfl, ⟨rfl, fun i hi => absurd hi (Nat.not_lt_zero _)⟩⟩
  | x :: l, h => by
    obtain ⟨pr, h1, h2, h3, h4, h5⟩ := byPairs l fun p hp => h p (List.mem_cons_of_mem _ hp)
    obtain ⟨cs, hw, hs⟩ := h x List.mem_cons_self
    refine ⟨(x.1, cs) :: pr, by simp [h1], ?_, ?_, ?_, ?_⟩
    · intro p hp
      rcases List.mem_cons.1 hp with rfl | hp
      · simp only; rw [hw.1]; exact hs
      · exact h2 p hp
    · intro p hp
      rcases List.mem_cons.1 hp with rfl | hp
      · exact hw.one
      · exact h3 p hp
    · simp only [totalB, sumB, List.map_cons, List.sum_cons, hw.1] at h4 ⊢
      rw [h4]
    · rw [List.flatMap_cons, sumB, List.map_cons, List.sum_cons]
      exact hw.app h5
theorem concatW (l : List (Value × Nat)) (v : Value) (M : Nat → Prop) (w : World) (hv : Sl M w v 1 l.length (l.map (·.1))) (h : ∀ p ∈ l, By w p.2 p.1) (hb : sumB l ≤ 100000) : Fx Tryz.prog 100 [v] w (fun u w' => By w' (sumB l) u ∧ Fresh w.heap.size u ∧ Grow w w') := by
  obtain ⟨pr, h1, h2, h3, h4, h5⟩ := byPairs l h
  have hl : pr.length = l.length := by have := congrArg List.length h1; simpa using this
  refine (concatB_ok No pr v w (by rw [hl, h1]; exact hv.noM) h2 h3 (by omega)).mono ?_
  rintro u w' ⟨hr, hf, hg⟩
  rw [h5.1] at hr
  exact ⟨By.row hr h5, hf, hg⟩
theorem putW (x : Int) (w : World) : Fx Tryz.prog 105 [.int .u64 x] w (fun u w' => By w' 8 u ∧ Grow w w') := by
  refine (putWord_ok x w).mono ?_
  rintro u w' ⟨g, ps, rfl, hB, hps, hg⟩
  exact ⟨⟨ps, hps, slBlk hB hps.1 (by decide) (fun h => h)⟩, hg⟩
theorem mBytes0_ok (w : World) : Fx Tryz.prog 101 [.slice none 0 0] w (fun u w' => By w' 1 u ∧ Grow w w') := by
  refine enter Tryz.func101 rfl rfl rfl _ (Pick.sub (l := [0]) (.cons rfl .nil)) ?_
  refine RK.seq ?_
  refine RK.region ?_
  refine RL.p rfl rfl ?_
  refine RL.done ?_
  iterate 2 refine RK.seq ?_
  refine RK.region ?_
  refine RL.p rfl rfl ?_
  refine RL.op (.free rfl) rfl rfl (Does.call rfl e134 (mlist0_ok _)) ?_
  rintro _ _ ⟨rfl, rfl⟩
  refine RL.p rfl rfl ?_
  refine RL.done ?_
  refine RK.condF (hcF rfl (rfl)) ?_
  refine RK.skip ?_
  refine RK.seq ?_
  refine RK.region ?_
  refine RL.p rfl rfl ?_
  refine RL.q (.free rfl) rfl rfl (Yld.lenSl u30 rfl) ?_
  refine RL.q (.free rfl) rfl rfl (Yld.convI Tryz.underlying3 Tryz.underlying24 rfl) ?_
  refine RL.op (.free rfl) rfl rfl (Does.call rfl e86 (vput_ok 0 (by decide) _)) ?_
  rintro u9 w9 ⟨hr9, hf9, hg9⟩
  refine RL.p rfl rfl ?_
  refine RL.done ?_
  iterate 2 refine RK.seq ?_
  refine RK.region ?_
  refine RL.p rfl rfl ?_
  refine RL.q (.free rfl) rfl rfl (Yld.lenSl u30 rfl) ?_
  refine RL.p rfl rfl ?_
  refine RL.done ?_
  refine RK.block ?_
  refine RK.loop (fun _ : Unit => [(13, .slice none 0 0), (14, .int .i64 0), (15, .int .i64 0), (3, u9)]) (fun _ w' => w9 = w') (fun _ => 0) () ⟨rfl, rfl, rfl, rfl, trivial⟩ rfl (fun _ w' hI ih => ?_)
  subst hI
  refine RK.seq ?_
  refine RK.region ?_
  refine RL.p rfl rfl ?_
  refine RL.done ?_
  refine RK.seq ?_
  refine RK.condF (hcF rfl (rfl)) ?_
  refine RK.exit rfl ?_
  refine RK.seq ?_
  refine RK.region ?_
  iterate 2 refine RL.p rfl rfl ?_
  refine RL.done ?_
  refine RK.ret_of Tryz.func101 (res1 rfl rfl) ?_ _
  exact ⟨_, rfl, (show (putB 0).length = 1 from by rw [putB]; rfl) ▸ By.rowB hr9, hg9⟩
theorem lBytes0_ok (w : World) : Fx Tryz.prog 104 [.slice none 0 0] w (fun u w' => By w' 0 u ∧ Grow w w') := by
  refine enter Tryz.func104 rfl rfl rfl _ (Pick.sub (l := [0]) (.cons rfl .nil)) ?_
  refine RK.seq ?_
  refine RK.region ?_
  refine RL.p rfl rfl ?_
  refine RL.done ?_
  iterate 2 refine RK.seq ?_
  refine RK.region ?_
  refine RL.p rfl rfl ?_
  refine RL.op (.free rfl) rfl rfl (Does.call rfl e179 (is_ok No [] _ _ (Sl.own (Row.nil _ 261 2) (fun _ _ h => h)))) ?_
  rintro _ w1 ⟨rfl, hg1⟩
  refine RL.p rfl rfl ?_
  refine RL.done ?_
  refine RK.condT (hcT rfl (by first | decide | simp [isS])) ?_
  refine RK.seq ?_
  refine RK.region ?_
  refine RL.p rfl rfl ?_
  refine RL.done ?_
  refine RK.ret_of Tryz.func104 (res1 rfl rfl) ?_ _
  exact ⟨_, rfl, ⟨[], ⟨rfl, fun i hi => absurd hi (Nat.not_lt_zero _)⟩, nilB _⟩, hg1⟩
theorem putBand0_ok (w : World) : Fx Tryz.prog 102 [.agg band0.toArray] w (fun u w' => By w' 17 u ∧ Grow w w') := by
  refine enter Tryz.func102 rfl rfl rfl _ (Pick.sub (l := [0]) (.cons rfl .nil)) ?_
  refine RK.seq ?_
  refine RK.region ?_
  refine RL.op (.free rfl) rfl rfl (Does.box rfl) ?_
  rintro _ w1 ⟨b1, rfl, hn1⟩
  have hB : Blk w1 b1 33 band0 := hn1.blk
  have hBd := hB.mod (Mod.drew No _) (fun h => h)
  refine RL.p rfl rfl ?_
  refine RL.done ?_
  iterate 2 refine RK.seq ?_
  refine RK.region ?_
  refine RL.q (.free rfl) rfl rfl (Yld.fieldAddr fo33_0 rfl) ?_
  refine RL.q (.free rfl) rfl rfl (Yld.load p4 rfl (at1 (hB.cell rfl))) ?_
  refine RL.done ?_
  refine RK.condF (hcF rfl (rfl)) ?_
  refine RK.skip ?_
  refine RK.seq ?_
  refine RK.drawT No (.op 1 false (.op 2 false (.op 5 false (.op 6 false (.fork 0 (.op 3 true (.op 4 true (.op 7 true (.op 8 true (.op 9 true (.op 10 true (.op 11 false .nil))))))) 3 (.fork 0 (.op 4 true (.op 7 true (.op 8 true (.op 9 true (.op 10 true (.op 11 false .nil)))))) 4 (.fork 0 (.op 7 true (.op 8 true (.op 9 true (.op 10 true (.op 11 false .nil))))) 7 (.fork 0 (.op 8 true (.op 9 true (.op 10 true (.op 11 false .nil)))) 8 (.op 0 true (.op 9 true (.op 10 true (.op 11 false .nil)))))))))))) [] mixed (by kernel_rfl) ?_
  refine DT.qf rfl (.free rfl) rfl rfl (Yld.fieldAddr fo33_1 rfl) ?_
  refine DT.q rfl (.free rfl) rfl rfl rfl (Yld.load p31 rfl (atM (hBd.cell rfl) id)) (Mod.drew _ _) ?_
  refine DT.qf rfl (.free rfl) rfl rfl (Yld.fieldAddr fo33_2 rfl) ?_
  refine DT.q rfl (.free rfl) rfl rfl rfl (Yld.load p31 rfl (atM (hBd.cell rfl) id)) (Mod.drew _ _) ?_
  refine DT.fork ?_ ?_
  · refine DT.op rfl (.free rfl) rfl rfl (Does.bslice (el := 5) ([.int .u8 0]) rfl (fun w => by kernel_rfl)) ?_
    rintro _ w21 ⟨b21, rfl, hn21⟩
    have hy21 : By w21 1 (.slice (some ⟨b21, 0, none⟩) 1 1) := ⟨_, WW.zero .u8 1, Sl.new hn21 1 1 rfl (by decide) (fun h => h)⟩
    refine ⟨(Mod.drew No _).trans hn21.grow, ?_⟩
    refine DT.op rfl (.free rfl) rfl rfl (Does.call rfl e106 (bits_ok _ _)) ?_
    rintro _ _ ⟨rfl, rfl⟩
    refine ⟨(Mod.drew No _).trans hn21.grow, ?_⟩
    refine DT.op rfl (.free rfl) rfl rfl (Does.call rfl e105 (putW _ _)) ?_
    rintro u23 w23 ⟨hy23, hg23⟩
    obtain ⟨a23, c23, rfl⟩ := hy23.shape
    refine ⟨((Mod.drew No _).trans hn21.grow).trans hg23, ?_⟩
    refine DT.op rfl (.free rfl) rfl rfl (Does.call rfl e106 (bits_ok _ _)) ?_
    rintro _ _ ⟨rfl, rfl⟩
    refine ⟨((Mod.drew No _).trans hn21.grow).trans hg23, ?_⟩
    refine DT.op rfl (.free rfl) rfl rfl (Does.call rfl e105 (putW _ _)) ?_
    rintro u25 w25 ⟨hy25, hg25⟩
    obtain ⟨a25, c25, rfl⟩ := hy25.shape
    refine ⟨(((Mod.drew No _).trans hn21.grow).trans hg23).trans hg25, ?_⟩
    refine DT.op rfl (.free rfl) rfl rfl (Does.bslice (el := 43) ([.slice (some ⟨b21, 0, none⟩) 1 1, .slice a23 8 c23, .slice a25 8 c25]) rfl (fun w => by kernel_rfl)) ?_
    rintro _ wT ⟨bT, rfl, hnT⟩
    refine ⟨((((Mod.drew No _).trans hn21.grow).trans hg23).trans hg25).trans hnT.grow, ?_⟩
    have hpr : ∀ p ∈ [((.slice (some ⟨b21, 0, none⟩) 1 1 : Value), 1), ((.slice a23 8 c23 : Value), 8), ((.slice a25 8 c25 : Value), 8)], By wT p.2 p.1 := by
        intro p hp
        simp only [List.mem_cons, List.not_mem_nil, or_false] at hp
        rcases hp with rfl | rfl | rfl
        · exact hy21.grow (((hg23).trans hg25).trans hnT.grow)
        · exact hy23.grow ((hg25).trans hnT.grow)
        · exact hy25.grow (hnT.grow)
    refine DT.op rfl (.free rfl) rfl rfl (Does.call rfl e100 (concatW _ _ No _ (Sl.new hnT 1 3 rfl (by decide) (fun h => h)) hpr (by simp [sumB]))) ?_
    rintro uZ wZ ⟨hyZ, hfZ, hgZ⟩
    refine ⟨(((((Mod.drew No _).trans hn21.grow).trans hg23).trans hg25).trans hnT.grow).trans hgZ, ?_⟩
    refine DT.p rfl rfl rfl ?_
    refine DT.done ?_
    refine RK.ret_of Tryz.func102 (res1 rfl rfl) ?_ _
    exact ⟨_, rfl, hyZ, hn1.grow.trans ((((((Mod.drew No _).trans hn21.grow).trans hg23).trans hg25).trans hnT.grow).trans hgZ)⟩
  · refine DT.op rfl (.free rfl) rfl rfl (Does.call rfl e106 (bits_ok _ _)) ?_
    rintro _ _ ⟨rfl, rfl⟩
    refine ⟨Mod.drew No _, ?_⟩
    refine DT.fork ?_ ?_
    · refine DT.op rfl (.free rfl) rfl rfl (Does.bslice (el := 5) ([.int .u8 0]) rfl (fun w => by kernel_rfl)) ?_
      rintro _ w22 ⟨b22, rfl, hn22⟩
      have hy22 : By w22 1 (.slice (some ⟨b22, 0, none⟩) 1 1) := ⟨_, WW.zero .u8 1, Sl.new hn22 1 1 rfl (by decide) (fun h => h)⟩
      refine ⟨(Mod.drew No _).trans hn22.grow, ?_⟩
      refine DT.op rfl (.free rfl) rfl rfl (Does.call rfl e105 (putW _ _)) ?_
      rintro u23 w23 ⟨hy23, hg23⟩
      obtain ⟨a23, c23, rfl⟩ := hy23.shape
      refine ⟨((Mod.drew No _).trans hn22.grow).trans hg23, ?_⟩
      refine DT.op rfl (.free rfl) rfl rfl (Does.call rfl e106 (bits_ok _ _)) ?_
      rintro _ _ ⟨rfl, rfl⟩
      refine ⟨((Mod.drew No _).trans hn22.grow).trans hg23, ?_⟩
      refine DT.op rfl (.free rfl) rfl rfl (Does.call rfl e105 (putW _ _)) ?_
      rintro u25 w25 ⟨hy25, hg25⟩
      obtain ⟨a25, c25, rfl⟩ := hy25.shape
      refine ⟨(((Mod.drew No _).trans hn22.grow).trans hg23).trans hg25, ?_⟩
      refine DT.op rfl (.free rfl) rfl rfl (Does.bslice (el := 43) ([.slice (some ⟨b22, 0, none⟩) 1 1, .slice a23 8 c23, .slice a25 8 c25]) rfl (fun w => by kernel_rfl)) ?_
      rintro _ wT ⟨bT, rfl, hnT⟩
      refine ⟨((((Mod.drew No _).trans hn22.grow).trans hg23).trans hg25).trans hnT.grow, ?_⟩
      have hpr : ∀ p ∈ [((.slice (some ⟨b22, 0, none⟩) 1 1 : Value), 1), ((.slice a23 8 c23 : Value), 8), ((.slice a25 8 c25 : Value), 8)], By wT p.2 p.1 := by
          intro p hp
          simp only [List.mem_cons, List.not_mem_nil, or_false] at hp
          rcases hp with rfl | rfl | rfl
          · exact hy22.grow (((hg23).trans hg25).trans hnT.grow)
          · exact hy23.grow ((hg25).trans hnT.grow)
          · exact hy25.grow (hnT.grow)
      refine DT.op rfl (.free rfl) rfl rfl (Does.call rfl e100 (concatW _ _ No _ (Sl.new hnT 1 3 rfl (by decide) (fun h => h)) hpr (by simp [sumB]))) ?_
      rintro uZ wZ ⟨hyZ, hfZ, hgZ⟩
      refine ⟨(((((Mod.drew No _).trans hn22.grow).trans hg23).trans hg25).trans hnT.grow).trans hgZ, ?_⟩
      refine DT.p rfl rfl rfl ?_
      refine DT.done ?_
      refine RK.ret_of Tryz.func102 (res1 rfl rfl) ?_ _
      exact ⟨_, rfl, hyZ, hn1.grow.trans ((((((Mod.drew No _).trans hn22.grow).trans hg23).trans hg25).trans hnT.grow).trans hgZ)⟩
    · refine DT.op rfl (.free rfl) rfl rfl (Does.call rfl e105 (putW _ _)) ?_
      rintro u22 w22 ⟨hy22, hg22⟩
      obtain ⟨a22, c22, rfl⟩ := hy22.shape
      refine ⟨(Mod.drew No _).trans hg22, ?_⟩
      refine DT.fork ?_ ?_
      · refine DT.op rfl (.free rfl) rfl rfl (Does.bslice (el := 5) ([.int .u8 0]) rfl (fun w => by kernel_rfl)) ?_
        rintro _ w23 ⟨b23, rfl, hn23⟩
        have hy23 : By w23 1 (.slice (some ⟨b23, 0, none⟩) 1 1) := ⟨_, WW.zero .u8 1, Sl.new hn23 1 1 rfl (by decide) (fun h => h)⟩
        refine ⟨((Mod.drew No _).trans hg22).trans hn23.grow, ?_⟩
        refine DT.op rfl (.free rfl) rfl rfl (Does.call rfl e106 (bits_ok _ _)) ?_
        rintro _ _ ⟨rfl, rfl⟩
        refine ⟨((Mod.drew No _).trans hg22).trans hn23.grow, ?_⟩
        refine DT.op rfl (.free rfl) rfl rfl (Does.call rfl e105 (putW _ _)) ?_
        rintro u25 w25 ⟨hy25, hg25⟩
        obtain ⟨a25, c25, rfl⟩ := hy25.shape
        refine ⟨(((Mod.drew No _).trans hg22).trans hn23.grow).trans hg25, ?_⟩
        refine DT.op rfl (.free rfl) rfl rfl (Does.bslice (el := 43) ([.slice (some ⟨b23, 0, none⟩) 1 1, .slice a22 8 c22, .slice a25 8 c25]) rfl (fun w => by kernel_rfl)) ?_
        rintro _ wT ⟨bT, rfl, hnT⟩
        refine ⟨((((Mod.drew No _).trans hg22).trans hn23.grow).trans hg25).trans hnT.grow, ?_⟩
        have hpr : ∀ p ∈ [((.slice (some ⟨b23, 0, none⟩) 1 1 : Value), 1), ((.slice a22 8 c22 : Value), 8), ((.slice a25 8 c25 : Value), 8)], By wT p.2 p.1 := by
            intro p hp
            simp only [List.mem_cons, List.not_mem_nil, or_false] at hp
            rcases hp with rfl | rfl | rfl
            · exact hy23.grow ((hg25).trans hnT.grow)
            · exact hy22.grow (((hn23.grow).trans hg25).trans hnT.grow)
            · exact hy25.grow (hnT.grow)
        refine DT.op rfl (.free rfl) rfl rfl (Does.call rfl e100 (concatW _ _ No _ (Sl.new hnT 1 3 rfl (by decide) (fun h => h)) hpr (by simp [sumB]))) ?_
        rintro uZ wZ ⟨hyZ, hfZ, hgZ⟩
        refine ⟨(((((Mod.drew No _).trans hg22).trans hn23.grow).trans hg25).trans hnT.grow).trans hgZ, ?_⟩
        refine DT.p rfl rfl rfl ?_
        refine DT.done ?_
        refine RK.ret_of Tryz.func102 (res1 rfl rfl) ?_ _
        exact ⟨_, rfl, hyZ, hn1.grow.trans ((((((Mod.drew No _).trans hg22).trans hn23.grow).trans hg25).trans hnT.grow).trans hgZ)⟩
      · refine DT.op rfl (.free rfl) rfl rfl (Does.call rfl e106 (bits_ok _ _)) ?_
        rintro _ _ ⟨rfl, rfl⟩
        refine ⟨(Mod.drew No _).trans hg22, ?_⟩
        refine DT.fork ?_ ?_
        · refine DT.op rfl (.free rfl) rfl rfl (Does.bslice (el := 5) ([.int .u8 0]) rfl (fun w => by kernel_rfl)) ?_
          rintro _ w24 ⟨b24, rfl, hn24⟩
          have hy24 : By w24 1 (.slice (some ⟨b24, 0, none⟩) 1 1) := ⟨_, WW.zero .u8 1, Sl.new hn24 1 1 rfl (by decide) (fun h => h)⟩
          refine ⟨((Mod.drew No _).trans hg22).trans hn24.grow, ?_⟩
          refine DT.op rfl (.free rfl) rfl rfl (Does.call rfl e105 (putW _ _)) ?_
          rintro u25 w25 ⟨hy25, hg25⟩
          obtain ⟨a25, c25, rfl⟩ := hy25.shape
          refine ⟨(((Mod.drew No _).trans hg22).trans hn24.grow).trans hg25, ?_⟩
          refine DT.op rfl (.free rfl) rfl rfl (Does.bslice (el := 43) ([.slice (some ⟨b24, 0, none⟩) 1 1, .slice a22 8 c22, .slice a25 8 c25]) rfl (fun w => by kernel_rfl)) ?_
          rintro _ wT ⟨bT, rfl, hnT⟩
          refine ⟨((((Mod.drew No _).trans hg22).trans hn24.grow).trans hg25).trans hnT.grow, ?_⟩
          have hpr : ∀ p ∈ [((.slice (some ⟨b24, 0, none⟩) 1 1 : Value), 1), ((.slice a22 8 c22 : Value), 8), ((.slice a25 8 c25 : Value), 8)], By wT p.2 p.1 := by
              intro p hp
              simp only [List.mem_cons, List.not_mem_nil, or_false] at hp
              rcases hp with rfl | rfl | rfl
              · exact hy24.grow ((hg25).trans hnT.grow)
              · exact hy22.grow (((hn24.grow).trans hg25).trans hnT.grow)
              · exact hy25.grow (hnT.grow)
          refine DT.op rfl (.free rfl) rfl rfl (Does.call rfl e100 (concatW _ _ No _ (Sl.new hnT 1 3 rfl (by decide) (fun h => h)) hpr (by simp [sumB]))) ?_
          rintro uZ wZ ⟨hyZ, hfZ, hgZ⟩
          refine ⟨(((((Mod.drew No _).trans hg22).trans hn24.grow).trans hg25).trans hnT.grow).trans hgZ, ?_⟩
          refine DT.p rfl rfl rfl ?_
          refine DT.done ?_
          refine RK.ret_of Tryz.func102 (res1 rfl rfl) ?_ _
          exact ⟨_, rfl, hyZ, hn1.grow.trans ((((((Mod.drew No _).trans hg22).trans hn24.grow).trans hg25).trans hnT.grow).trans hgZ)⟩
        · refine DT.op rfl (.free rfl) rfl rfl (Does.call rfl e105 (putW _ _)) ?_
          rintro u24 w24 ⟨hy24, hg24⟩
          obtain ⟨a24, c24, rfl⟩ := hy24.shape
          refine ⟨((Mod.drew No _).trans hg22).trans hg24, ?_⟩
          refine DT.op rfl (.free rfl) rfl rfl (Does.bslice (el := 5) ([.int .u8 0]) rfl (fun w => by kernel_rfl)) ?_
          rintro _ w25 ⟨b25, rfl, hn25⟩
          have hy25 : By w25 1 (.slice (some ⟨b25, 0, none⟩) 1 1) := ⟨_, WW.zero .u8 1, Sl.new hn25 1 1 rfl (by decide) (fun h => h)⟩
          refine ⟨(((Mod.drew No _).trans hg22).trans hg24).trans hn25.grow, ?_⟩
          refine DT.op rfl (.free rfl) rfl rfl (Does.bslice (el := 43) ([.slice (some ⟨b25, 0, none⟩) 1 1, .slice a22 8 c22, .slice a24 8 c24]) rfl (fun w => by kernel_rfl)) ?_
          rintro _ wT ⟨bT, rfl, hnT⟩
          refine ⟨((((Mod.drew No _).trans hg22).trans hg24).trans hn25.grow).trans hnT.grow, ?_⟩
          have hpr : ∀ p ∈ [((.slice (some ⟨b25, 0, none⟩) 1 1 : Value), 1), ((.slice a22 8 c22 : Value), 8), ((.slice a24 8 c24 : Value), 8)], By wT p.2 p.1 := by
              intro p hp
              simp only [List.mem_cons, List.not_mem_nil, or_false] at hp
              rcases hp with rfl | rfl | rfl
              · exact hy25.grow (hnT.grow)
              · exact hy22.grow (((hg24).trans hn25.grow).trans hnT.grow)
              · exact hy24.grow ((hn25.grow).trans hnT.grow)
          refine DT.op rfl (.free rfl) rfl rfl (Does.call rfl e100 (concatW _ _ No _ (Sl.new hnT 1 3 rfl (by decide) (fun h => h)) hpr (by simp [sumB]))) ?_
          rintro uZ wZ ⟨hyZ, hfZ, hgZ⟩
          refine ⟨(((((Mod.drew No _).trans hg22).trans hg24).trans hn25.grow).trans hnT.grow).trans hgZ, ?_⟩
          refine DT.p rfl rfl rfl ?_
          refine DT.done ?_
          refine RK.ret_of Tryz.func102 (res1 rfl rfl) ?_ _
          exact ⟨_, rfl, hyZ, hn1.grow.trans ((((((Mod.drew No _).trans hg22).trans hg24).trans hn25.grow).trans hnT.grow).trans hgZ)⟩
theorem link_ok (ds : List Value) (hds : WW .u8 32 ds) (n : Nat) (hn : n ≤ 1000) (v : Value) (w : World) (hv : By w n v) : Fx Tryz.prog 110 [.agg ds.toArray, v] w (fun u w' => By w' (33 + n) u ∧ Grow w w') := by
  obtain ⟨a0, c0, rfl⟩ := hv.shape
  refine enter Tryz.func110 rfl rfl rfl _ (Pick.sub (l := [0, 1]) (.cons rfl (.cons rfl .nil))) ?_
  refine RK.seq ?_
  refine RK.region ?_
  refine RL.op (.free rfl) rfl rfl (Does.box rfl) ?_
  rintro _ w2 ⟨b2, rfl, hn2⟩
  have hB : Blk w2 b2 44 ds := hn2.blk
  refine RL.p rfl rfl ?_
  refine RL.done ?_
  refine RK.seq ?_
  refine RK.region ?_
  refine RL.op (.free rfl) rfl rfl (Does.bslice (el := 5) ([.int .u8 1]) rfl (fun w => by kernel_rfl)) ?_
  rintro _ w5 ⟨b5, rfl, hn5⟩
  refine RL.q (.free rfl) rfl rfl (Yld.sliceArr Tryz.underlying44 i5 rfl) ?_
  refine RL.p rfl rfl ?_
  refine RL.op (.free rfl) rfl rfl (Does.bslice (el := 43) ([.slice (some ⟨b5, 0, none⟩) 1 1, .slice (some ⟨b2, 0, none⟩) 32 32, .slice a0 n c0]) rfl (fun w => by kernel_rfl)) ?_
  rintro _ wT ⟨bT, rfl, hnT⟩
  have hy5 : By w5 1 (.slice (some ⟨b5, 0, none⟩) 1 1) := By.rowB (l := [1]) (Row.new hn5 1 1 rfl (by omega))
  have hy6 : By w2 32 (.slice (some ⟨b2, 0, none⟩) 32 32) := ⟨_, hds, slBlk hB hds.1 (by decide) (fun h => h)⟩
  have hpr : ∀ p ∈ [((.slice (some ⟨b5, 0, none⟩) 1 1 : Value), 1), (.slice (some ⟨b2, 0, none⟩) 32 32, 32), (.slice a0 n c0, n)], By wT p.2 p.1 := by
      intro p hp
      simp only [List.mem_cons, List.not_mem_nil, or_false] at hp
      rcases hp with rfl | rfl | rfl
      · exact hy5.grow hnT.grow
      · exact hy6.grow (hn5.grow.trans hnT.grow)
      · exact hv.grow ((hn2.grow.trans hn5.grow).trans hnT.grow)
  refine RL.op (.free rfl) rfl rfl (Does.call rfl e100 (concatW _ _ No _ (Sl.new hnT 1 3 rfl (by decide) (fun h => h)) hpr (by simp [sumB]; omega))) ?_
  rintro uZ wZ ⟨hyZ, hfZ, hgZ⟩
  have hs : sumB [((.slice (some ⟨b5, 0, none⟩) 1 1 : Value), 1), (.slice (some ⟨b2, 0, none⟩) 32 32, 32), (.slice a0 n c0, n)] = 33 + n := by simp [sumB]; omega
  refine RL.p rfl rfl ?_
  refine RL.done ?_
  refine RK.ret_of Tryz.func110 (res1 rfl rfl) ?_ _
  exact ⟨_, rfl, hs ▸ hyZ, ((hn2.grow.trans hn5.grow).trans hnT.grow).trans hgZ⟩
end Go.Proofs.YtnnmgfnhblbolaaGreatDoor
set_option linter.unusedVariables false
set_option linter.unusedSimpArgs false
set_option maxHeartbeats 6400000
set_option maxRecDepth 100000
namespace Go.Proofs.YtnnmgfnhblbolaaGreatDoor
open Go Go.X
theorem Row.capLe {w : World} {t sz k c : Nat} {ad : Option Addr} {xs : List Value} (h : Row w t sz (.slice ad k c) k xs) : k ≤ c := by
  rcases h.2 with ⟨hv, rfl⟩ | ⟨g, cap, cur, hv, _, _, hc, _⟩
  · exact Nat.zero_le _
  · cases hv; exact hc
end Go.Proofs.YtnnmgfnhblbolaaGreatDoor
set_option linter.unusedVariables false
set_option linter.unusedSimpArgs false
set_option maxHeartbeats 6400000
set_option maxRecDepth 100000
namespace Go.Proofs.YtnnmgfnhblbolaaGreatDoor
open Go Go.X
structure TkAt (w : World) (p : Nat) (most : Int) (v : Value) (l : List (ByteArray × Int)) : Prop where
  blk : Blk w p 224 [.int .i64 most, v]
  row : Row w 227 2 v l.length (l.flatMap fun x => [.string x.1, .int .i64 x.2])
theorem TkAt.grow {w w' : World} {p : Nat} {most : Int} {v : Value} {l : List (ByteArray × Int)} (h : TkAt w p most v l) (hg : Grow w w') : TkAt w' p most v l := ⟨h.blk.mod hg (fun h => h), h.row.mod hg (fun _ _ h => h)⟩
end Go.Proofs.YtnnmgfnhblbolaaGreatDoor
set_option linter.unusedVariables false
set_option linter.unusedSimpArgs false
set_option maxHeartbeats 1000000
set_option maxRecDepth 100000
namespace Go.Proofs.YtnnmgfnhblbolaaGreatDoor
open Go Go.X
structure Sp where
  drop : Bool
  id : Int
  labs : List Int
  v : Value
def Sp.Ok (w : World) (x : Sp) : Prop := Sl No w x.v 1 x.labs.length (ints x.labs) ∧ (∀ n ∈ x.labs, -9223372036854775808 ≤ n ∧ n ≤ 9223372036854775807) ∧ -9223372036854775808 ≤ x.id ∧ x.id ≤ 9223372036854775807
end Go.Proofs.YtnnmgfnhblbolaaGreatDoor
set_option linter.unusedVariables false
set_option linter.unusedSimpArgs false
set_option maxHeartbeats 2000000
set_option maxRecDepth 100000
namespace Go.Proofs.YtnnmgfnhblbolaaGreatDoor
open Go Go.X
end Go.Proofs.YtnnmgfnhblbolaaGreatDoor
set_option linter.unusedVariables false
set_option linter.unusedSimpArgs false
set_option maxHeartbeats 1000000
set_option maxRecDepth 100000
namespace Go.Proofs.YtnnmgfnhblbolaaGreatDoor
open Go Go.X
end Go.Proofs.YtnnmgfnhblbolaaGreatDoor
set_option linter.unusedVariables false
set_option linter.unusedSimpArgs false
set_option maxHeartbeats 2000000
set_option maxRecDepth 100000
namespace Go.Proofs.YtnnmgfnhblbolaaGreatDoor
open Go Go.X
end Go.Proofs.YtnnmgfnhblbolaaGreatDoor
set_option linter.unusedVariables false
set_option linter.unusedSimpArgs false
namespace Go.X
open Go Go.RowKit
structure IterAt {κ : Type} (enc : κ → Value) (w : World) (r m : Nat) (rest : List (κ × Value)) : Prop where
  out : ∃ es clock seen, w.heap[m]? = some (.map es clock) ∧ w.heap[r]? = some (.mapIter (some m) clock seen clock) ∧ (es.toList.map (·.born)).Nodup ∧ (∀ e ∈ es.toList, e.born < clock) ∧ (es.toList.filter fun e => !seen.contains e.born).map (fun e => (e.key, e.val)) = rest.map fun p => (enc p.1, p.2)
structure EntryAt (w : World) (r m : Nat) (k v : Value) : Prop where
  out : ∃ es clock seen stamp e, w.heap[m]? = some (.map es clock) ∧ w.heap[r]? = some (.mapIter (some m) clock (Array.push seen stamp) clock) ∧ es.find? (·.born == stamp) = some e ∧ e.key = k ∧ e.val = v
theorem IterAt.mod {κ : Type} {enc : κ → Value} {M : Nat → Prop} {w w' : World} {r m : Nat} {rest : List (κ × Value)} (h : IterAt enc w r m rest) (hm : Mod M w w') (h1 : ¬ M r) (h2 : ¬ M m) : IterAt enc w' r m rest := by
  obtain ⟨es, c, s, a1, a2, a3⟩ := h.out
  exact ⟨es, c, s, hm.heap a1 h2, hm.heap a2 h1, a3⟩
theorem IterAt.lt {κ : Type} {enc : κ → Value} {w : World} {r m : Nat} {rest : List (κ × Value)} (h : IterAt enc w r m rest) : r < w.heap.size ∧ m < w.heap.size := by
  obtain ⟨es, c, s, a1, a2, a3⟩ := h.out
  exact ⟨(Array.getElem?_eq_some_iff.1 a2).1, (Array.getElem?_eq_some_iff.1 a1).1⟩
theorem EntryAt.mod {M : Nat → Prop} {w w' : World} {r m : Nat} {k v : Value} (h : EntryAt w r m k v) (hm : Mod M w w') (h1 : ¬ M r) (h2 : ¬ M m) : EntryAt w' r m k v := by
  obtain ⟨es, c, s, t, e, a1, a2, a3⟩ := h.out
  exact ⟨es, c, s, t, e, hm.heap a1 h2, hm.heap a2 h1, a3⟩
section
variable {P : Program} {n : Nat} {e : Env} {w : World} {κ : Type} {enc : κ → Value}
end
end Go.X
set_option linter.unusedVariables false
set_option linter.unusedSimpArgs false
set_option maxHeartbeats 1000000
set_option maxRecDepth 100000
namespace Go.Proofs.YtnnmgfnhblbolaaGreatDoor
open Go Go.X
end Go.Proofs.YtnnmgfnhblbolaaGreatDoor
set_option linter.unusedVariables false
set_option linter.unusedSimpArgs false
set_option maxHeartbeats 1000000
set_option maxRecDepth 100000
namespace Go.Proofs.YtnnmgfnhblbolaaGreatDoor
open Go Go.X
end Go.Proofs.YtnnmgfnhblbolaaGreatDoor
set_option linter.unusedVariables false
set_option linter.unusedSimpArgs false
set_option maxHeartbeats 1000000
set_option maxRecDepth 100000
namespace Go.Proofs.YtnnmgfnhblbolaaGreatDoor
open Go Go.X
end Go.Proofs.YtnnmgfnhblbolaaGreatDoor
set_option linter.unusedVariables false
set_option linter.unusedSimpArgs false
set_option maxHeartbeats 1000000
set_option maxRecDepth 100000
namespace Go.X
open Ieee
end Go.X
namespace Go.Proofs.YtnnmgfnhblbolaaGreatDoor
open Go Go.X
end Go.Proofs.YtnnmgfnhblbolaaGreatDoor
set_option linter.unusedVariables false
set_option linter.unusedSimpArgs false
set_option maxHeartbeats 1000000
set_option maxRecDepth 100000
namespace Go.Proofs.YtnnmgfnhblbolaaGreatDoor
open Go Go.X
end Go.Proofs.YtnnmgfnhblbolaaGreatDoor
set_option linter.unusedVariables false
set_option linter.unusedSimpArgs false
set_option maxHeartbeats 1000000
set_option maxRecDepth 100000
namespace Go.Proofs.YtnnmgfnhblbolaaGreatDoor
open Go Go.X
end Go.Proofs.YtnnmgfnhblbolaaGreatDoor
set_option linter.unusedVariables false
set_option linter.unusedSimpArgs false
set_option maxHeartbeats 1000000
set_option maxRecDepth 100000
namespace Go.Proofs.YtnnmgfnhblbolaaGreatDoor
open Go Go.X
end Go.Proofs.YtnnmgfnhblbolaaGreatDoor
set_option linter.unusedVariables false
set_option linter.unusedSimpArgs false
set_option maxHeartbeats 1000000
set_option maxRecDepth 100000
namespace Go.Proofs.YtnnmgfnhblbolaaGreatDoor
open Go Go.X
theorem KX.lt {O M : Nat → Prop} {w : World} {p : Nat} {s : St} (h : KX O M w p s) {b : Nat} (hb : M b) : b < w.heap.size := h.at_.lt hb
structure Sv where
  d : Int
  id : Int
  labs : List Int
  val : Nat
  v : Value
def Sv.Ok (w : World) (x : Sv) : Prop := Sl No w x.v 1 x.labs.length (ints x.labs) ∧ (∀ n ∈ x.labs, -9223372036854775808 ≤ n ∧ n ≤ 9223372036854775807) ∧ x.val < 18446744073709551616
end Go.Proofs.YtnnmgfnhblbolaaGreatDoor
set_option linter.unusedVariables false
set_option linter.unusedSimpArgs false
set_option maxHeartbeats 1000000
set_option maxRecDepth 100000
namespace Go.Proofs.YtnnmgfnhblbolaaGreatDoor
open Go Go.X
end Go.Proofs.YtnnmgfnhblbolaaGreatDoor
set_option linter.unusedVariables false
set_option linter.unusedSimpArgs false
set_option maxHeartbeats 1000000
set_option maxRecDepth 100000
namespace Go.Proofs.YtnnmgfnhblbolaaGreatDoor
open Go Go.X Go.Sort
abbrev strs (xs : List ByteArray) : List Value := xs.map Value.string
theorem allOne_strs (xs : List ByteArray) : ((strs xs).all fun x => x.oneCell') = true := by rw [List.all_eq_true]; intro u hu; obtain ⟨x, _, rfl⟩ := List.mem_map.1 hu; rfl
end Go.Proofs.YtnnmgfnhblbolaaGreatDoor
set_option linter.unusedVariables false
set_option linter.unusedSimpArgs false
set_option maxHeartbeats 1000000
set_option maxRecDepth 100000
namespace Go.Proofs.YtnnmgfnhblbolaaGreatDoor
open Go Go.X
end Go.Proofs.YtnnmgfnhblbolaaGreatDoor
set_option linter.unusedVariables false
set_option linter.unusedSimpArgs false
set_option maxHeartbeats 2000000
set_option maxRecDepth 100000
namespace Go.Proofs.YtnnmgfnhblbolaaGreatDoor
open Go Go.X
end Go.Proofs.YtnnmgfnhblbolaaGreatDoor
set_option linter.unusedVariables false
set_option linter.unusedSimpArgs false
set_option maxHeartbeats 6400000
set_option maxRecDepth 100000
namespace Go.Proofs.YtnnmgfnhblbolaaGreatDoor
open Go Go.X
@[reducible] def cfgC (tok : ByteArray) (a b c d e f g r : Int) : List Value := [.string tok, .int .i64 a, .int .i64 b, .int .i64 c, .int .i64 d, .int .i64 e, .int .i64 f, .int .i64 g, .int .u64 r]
structure DkAt (w : World) (dk dr q tk pl : Nat) (tok : ByteArray) (now dm tm pm : Int) (n : Nat) (v : Value) (cs ds : List Value) (vt : Value) (last : Int) (out : List Int) (vp : Value) : Prop where
  blk : Blk w dk 151 [pp dr, pp tk, pp pl]
  door : DoorAt w dr q 0 now dm n v cs ds
  tok : TkAt w tk tm vt [(tok, 0)]
  pool : PoolAt w pl pm last out vp
theorem PoolAt.grow' {w w' : World} {p : Nat} {most last : Int} {out : List Int} {v : Value} (h : PoolAt w p most last out v) (hg : Grow w w') : PoolAt w' p most last out v := ⟨h.blk.mod hg (fun h => h), h.row.mod hg (fun _ _ h => h), h.ne⟩
theorem DkAt.grow {w w' : World} {dk dr q tk pl : Nat} {tok : ByteArray} {now dm tm pm : Int} {n : Nat} {v : Value} {cs ds : List Value} {vt : Value} {last : Int} {out : List Int} {vp : Value} (h : DkAt w dk dr q tk pl tok now dm tm pm n v cs ds vt last out vp) (hg : Grow w w') : DkAt w' dk dr q tk pl tok now dm tm pm n v cs ds vt last out vp := ⟨h.blk.mod hg (fun h => h), h.door.grow hg, h.tok.grow hg, h.pool.grow' hg⟩
end Go.Proofs.YtnnmgfnhblbolaaGreatDoor
set_option linter.unusedVariables false
set_option linter.unusedSimpArgs false
set_option maxHeartbeats 6400000
set_option maxRecDepth 100000
namespace Go.Proofs.YtnnmgfnhblbolaaGreatDoor
open Go Go.X
theorem Does.callm {P : Program} {n : Nat} {e : Env} {w : World} {d : Option Tmp} {gf : FuncId} {f : Operand} {first cap : Array Value} {args : Array Operand} {ats : Array TypeId} {ty : TypeId} {pos : String} {af : Array Edge} {g : Option (Nat × Bool)} {vs : List Value} {Q : Value → World → Prop} (hf : ev e f = some (.func (.func gf) first cap)) (ha : evs e args.toList = some vs) (hE : Go.Proofs.Enters P gf) (hc : Fx P gf (first.toList ++ vs ++ cap.toList) w Q) :
    Does P n e w ⟨d, .call { callee := .value f, args := args, argTypes := ats }, ty, pos, af, g⟩ Q := by
  refine Does.of_enter (fun a ht => ?_) hc
  have h1 := ht.evs ha
  have : args.map a.eval = vs.toArray := by rw [← h1, ← Array.toList_map]
  have e2 : (first.toList ++ vs ++ cap.toList).toArray = first ++ vs.toArray ++ cap := by simp
  rw [e2]
  simp [execOp, resolve, this, ht.ev hf, Deferred.ofValue, invoke, hE _ _]
end Go.Proofs.YtnnmgfnhblbolaaGreatDoor
set_option linter.unusedVariables false
set_option linter.unusedSimpArgs false
set_option maxHeartbeats 800000
set_option maxRecDepth 100000
namespace Go.Proofs.YtnnmgfnhblbolaaGreatDoor
open Go Go.X
structure En where
  due : Int
  id : Int
deriving DecidableEq
def enC (e : En) : List Value := [.int .u64 e.due, .int .i64 e.id]
def ltE (x y : En) : Prop := x.due < y.due ∨ (x.due = y.due ∧ x.id < y.id)
instance (x y : En) : Decidable (ltE x y) := inferInstanceAs (Decidable (_ ∨ _))
def SortE (q : List En) : Prop := q.Pairwise ltE
end Go.Proofs.YtnnmgfnhblbolaaGreatDoor
set_option linter.unusedVariables false
set_option linter.unusedSimpArgs false
set_option maxHeartbeats 1600000
set_option maxRecDepth 100000
namespace Go.Proofs.YtnnmgfnhblbolaaGreatDoor
open Go Go.X
structure QAt (w : World) (p : Nat) (q : List En) (v : Value) : Prop where
  blk : Blk w p 174 [v]
  row : Row w 310 2 v q.length (q.flatMap enC)
  ne : v.ownBlock ≠ some p
theorem QAt.mod {M : Nat → Prop} {w w' : World} {p : Nat} {q : List En} {v : Value} (h : QAt w p q v) (hm : Mod M w w') (hp : ¬ M p) (hv : ∀ b, v.ownBlock = some b → ¬ M b) : QAt w' p q v := ⟨h.blk.mod hm hp, h.row.mod hm hv, h.ne⟩
theorem QAt.grow {w w' : World} {p : Nat} {q : List En} {v : Value} (h : QAt w p q v) (hm : Grow w w') : QAt w' p q v := h.mod hm (fun h => h) (fun _ _ h => h)
theorem reapNew_ok (w : World) : Fx Tryz.prog 49 [] w (fun u w' => ∃ p, u = pp p ∧ p = w.heap.size ∧ QAt w' p [] (.slice none 0 0) ∧ Grow w w' ∧ w'.heap.size = w.heap.size + 1) := by
  refine enter Tryz.func49 rfl rfl rfl _ (Pick.sub (l := []) .nil) ?_
  refine RK.seq ?_
  refine RK.region ?_
  refine RL.p rfl rfl ?_
  refine RL.done ?_
  refine RK.seq ?_
  refine RK.region ?_
  refine RL.q (.free rfl) rfl rfl (Yld.build (v := .agg #[.slice none 0 0]) rfl (fun w => by kernel_rfl)) ?_
  refine RL.op (.free rfl) rfl rfl (Does.box rfl) ?_
  rintro _ w1 ⟨b1, rfl, hn1⟩
  refine RL.p rfl rfl ?_
  refine RL.done ?_
  refine RK.ret_of Tryz.func49 (res1 rfl rfl) ?_ _
  exact ⟨_, rfl, b1, rfl, hn1.at_, ⟨hn1.blk, Row.nil _ _ _, by simp [Value.ownBlock]⟩, hn1.grow, hn1.size⟩
end Go.Proofs.YtnnmgfnhblbolaaGreatDoor
set_option linter.unusedVariables false
set_option linter.unusedSimpArgs false
set_option maxHeartbeats 1000000
set_option maxRecDepth 100000
namespace Go.Proofs.YtnnmgfnhblbolaaGreatDoor
open Go Go.X Go.Rex
structure AlOk (M : Nat → Prop) (w : World) (a : Al) : Prop where
  l : SlL M w a.v a.ls
  z : ∀ x ∈ a.ls, x.value.size ≤ 100000
theorem AlOk.mod {M : Nat → Prop} {w w' : World} {a : Al} (h : AlOk M w a) (hm : Mod M w w') : AlOk M w' a := ⟨h.l.mod hm, h.z⟩
end Go.Proofs.YtnnmgfnhblbolaaGreatDoor
set_option linter.unusedVariables false
set_option linter.unusedSimpArgs false
set_option maxHeartbeats 2000000
set_option maxRecDepth 100000
namespace Go.Proofs.YtnnmgfnhblbolaaGreatDoor
open Go Go.X Go.Rex
structure Sil where
  id : Int
  ver : Int
  start : Int
  stop : Int
  mv : Value
  ms : List Mt
  bd : Bd
def silC (s : Sil) : List Value := [.int .i64 s.id, .int .i64 s.ver, .int .u64 s.start, .int .u64 s.stop, s.mv, .bool s.bd.all, .float .f64 s.bd.lo, .float .f64 s.bd.hi]
theorem ruC_one {M : Nat → Prop} {w : World} {r : Ru} (h : r.Ok M w) : ((Value.agg (ruC r).toArray).cells.toList.all fun x => x.oneCell') = true := by
  obtain ⟨ad, c, e⟩ := h.s.shape
  obtain ⟨ad2, c2, e2⟩ := h.t.shape
  obtain ⟨ad3, c3, e3⟩ := h.e.shape
  show (ruC r).all _ = true
  unfold ruC
  rw [e, e2, e3]; rfl
structure PlainIn (w : World) (t : Al) (sils : List Sil) (vs : Value) (als : List Al) (va : Value) (rs : List Ru) (vr : Value) : Prop where
  t : AlOk No w t
  s : Sl No w vs 8 sils.length (sils.flatMap silC)
  sm : ∀ s ∈ sils, SlM No w s.mv s.ms
  a : Sl No w va 3 als.length (als.flatMap alC)
  al : ∀ a ∈ als, AlOk No w a
  r : Sl No w vr 6 rs.length (rs.flatMap ruC)
  rl : ∀ r ∈ rs, r.Ok No w
  n1 : sils.length ≤ 1000
  n2 : als.length ≤ 1000
  n3 : rs.length ≤ 1000
theorem PlainIn.mod {w w' : World} {t : Al} {sils : List Sil} {vs : Value} {als : List Al} {va : Value} {rs : List Ru} {vr : Value} (h : PlainIn w t sils vs als va rs vr) (hg : Grow w w') : PlainIn w' t sils vs als va rs vr :=
  ⟨h.t.mod hg, h.s.mod hg, fun s hs => (h.sm s hs).mod hg, h.a.mod hg, fun a ha => (h.al a ha).mod hg, h.r.mod hg, fun r hr => (h.rl r hr).mod hg, h.n1, h.n2, h.n3⟩
end Go.Proofs.YtnnmgfnhblbolaaGreatDoor
set_option linter.unusedVariables false
set_option linter.unusedSimpArgs false
set_option maxHeartbeats 400000
namespace Go.Proofs.YtnnmgfnhblbolaaGreatDoor
open Go Go.X
abbrev CRows := List (ByteArray × List Int)
abbrev CKeys := List (Int × ByteArray)
def addC (rows : CRows) (k : ByteArray) (id : Int) : CRows := putM rows k (mkRow ((lookM rows k).getD [] ++ [id]))
def cutC (rows : CRows) (k : ByteArray) (id : Int) : CRows := if cutRow ((lookM rows k).getD []) id = [] then cutM (putM rows k (cutRow ((lookM rows k).getD []) id)) k else putM rows k (cutRow ((lookM rows k).getD []) id)
def dropC (c : CRows × CKeys) (id : Int) : CRows × CKeys := match lookM c.2 id with
  | none => c
  | some k => (cutC c.1 k id, cutM c.2 id)
def putC (c : CRows × CKeys) (id : Int) (s : Bool) (k : ByteArray) : CRows × CKeys := if s = true then (addC (dropC c id).1 k id, putM (dropC c id).2 id k) else dropC c id
structure CI (c : CRows × CKeys) : Prop where
  nk : (c.2.map (·.1)).Nodup
  nr : (c.1.map (·.1)).Nodup
  row : ∀ t ∈ c.1, Ris t.2 ∧ t.2 ≠ []
  mem : ∀ k id, id ∈ (lookM c.1 k).getD [] ↔ lookM c.2 id = some k
theorem CI.nil : CI ([], []) := ⟨by simp, by simp, by simp, by simp [lookM, placeM]⟩
theorem lookC_add (rows : CRows) (k k' : ByteArray) (id j : Int) : j ∈ (lookM (addC rows k id) k').getD [] ↔ j ∈ (lookM rows k').getD [] ∨ j = id ∧ k' = k := by
  unfold addC
  rw [lookM_putM]
  by_cases hk : k' = k
  · subst hk; simp [mem_mkRow]
  · rw [if_neg hk]; simp [hk]
theorem lookC_cut {rows : CRows} (h : (rows.map (·.1)).Nodup) (k k' : ByteArray) (id j : Int) : j ∈ (lookM (cutC rows k id) k').getD [] ↔ j ∈ (lookM rows k').getD [] ∧ ¬ (j = id ∧ k' = k) := by
  have hp := putM_nodup (k := k) (v := cutRow ((lookM rows k).getD []) id) h
  have e : (lookM (cutC rows k id) k').getD [] = if k' = k then cutRow ((lookM rows k).getD []) id else (lookM rows k').getD [] := by
    unfold cutC
    split
    · rename_i h0
      rw [lookM_cutM hp, lookM_putM]
      split
      · simp [h0]
      · rfl
    · rw [lookM_putM]
      split <;> rfl
  rw [e]
  by_cases hk : k' = k
  · subst hk; simp [mem_cutRow]
  · rw [if_neg hk]; simp [hk]
theorem addC_rows {rows : CRows} (hr : ∀ t ∈ rows, Ris t.2 ∧ t.2 ≠ []) (k : ByteArray) (id : Int) : ∀ t ∈ addC rows k id, Ris t.2 ∧ t.2 ≠ [] := fun t ht => by
  rcases mem_putM ht with h1 | rfl
  · exact hr t h1
  · exact ⟨mkRow_ris _, mkRow_ne (x := id) (by simp)⟩
theorem cutC_rows {rows : CRows} (hn : (rows.map (·.1)).Nodup) (hr : ∀ t ∈ rows, Ris t.2 ∧ t.2 ≠ []) (k : ByteArray) (id : Int) : ((cutC rows k id).map (·.1)).Nodup ∧ ∀ t ∈ cutC rows k id, Ris t.2 ∧ t.2 ≠ [] := by
  have hp := putM_nodup (k := k) (v := cutRow ((lookM rows k).getD []) id) hn
  unfold cutC
  split
  · refine ⟨cutM_nodup hp, fun t ht => ?_⟩
    obtain ⟨h1, h2⟩ := (mem_cutM hp).1 ht
    rcases mem_putM h1 with h3 | rfl
    · exact hr t h3
    · exact absurd rfl h2
  · rename_i hne
    refine ⟨hp, fun t ht => ?_⟩
    rcases mem_putM ht with h3 | rfl
    · exact hr t h3
    · exact ⟨cutRow_ris _ _, hne⟩
theorem dropC_look {c : CRows × CKeys} (h : CI c) (id j : Int) : lookM (dropC c id).2 j = if j = id then none else lookM c.2 j := by
  unfold dropC
  cases hk : lookM c.2 id with
  | none =>
    simp only
    split
    · rename_i e; rw [e]; exact hk
    · rfl
  | some k => exact lookM_cutM h.nk
theorem CI.drop {c : CRows × CKeys} (h : CI c) (id : Int) : CI (dropC c id) := by
  have hl := dropC_look h id
  unfold dropC at hl ⊢
  cases hk : lookM c.2 id with
  | none => exact h
  | some k =>
    rw [hk] at hl
    obtain ⟨h1, h2⟩ := cutC_rows h.nr h.row k id
    refine ⟨cutM_nodup h.nk, h1, h2, fun k' j => ?_⟩
    have h3 := hl j
    simp only at h3 ⊢
    rw [lookC_cut h.nr, h.mem, h3]
    by_cases e : j = id
    · subst e
      rw [hk]
      simp only [true_and, if_true, Option.some.injEq, reduceCtorEq, iff_false]
      intro hh
      exact hh.2 hh.1.symm
    · simp [e]
theorem putC_look {c : CRows × CKeys} (h : CI c) (id : Int) (s : Bool) (k : ByteArray) (j : Int) : lookM (putC c id s k).2 j = if j = id then (if s = true then some k else none) else lookM c.2 j := by
  unfold putC
  cases s with
  | true =>
    simp only [if_true]
    rw [lookM_putM, dropC_look h]
    by_cases e : j = id <;> simp [e]
  | false =>
    simp only [Bool.false_eq_true, if_false]
    rw [dropC_look h]
theorem CI.put {c : CRows × CKeys} (h : CI c) (id : Int) (s : Bool) (k : ByteArray) : CI (putC c id s k) := by
  have hd := h.drop id
  have hl := putC_look h id s k
  unfold putC at hl ⊢
  cases s with
  | false => exact hd
  | true =>
    simp only [if_true] at hl ⊢
    refine ⟨putM_nodup hd.nk, putM_nodup hd.nr, addC_rows hd.row _ _, fun k' j => ?_⟩
    have h3 := hl j
    simp only at h3 ⊢
    rw [lookC_add, hd.mem, h3, dropC_look h]
    by_cases e : j = id
    · subst e; simp [eq_comm]
    · simp [e]
def CB (c : CRows × CKeys) (B : Nat) : Prop := (∀ t ∈ c.1, t.2.length ≤ B) ∧ c.2.length ≤ B
theorem CB.nil : CB ([], []) 0 := ⟨by simp, by simp⟩
theorem CB.mono {c : CRows × CKeys} {B B' : Nat} (h : CB c B) (hB : B ≤ B') : CB c B' := ⟨fun t ht => Nat.le_trans (h.1 t ht) hB, Nat.le_trans h.2 hB⟩
theorem CB.look {c : CRows × CKeys} {B : Nat} (h : CB c B) (k : ByteArray) : ((lookM c.1 k).getD []).length ≤ B := by
  cases hl : lookM c.1 k with
  | none => simp
  | some a => exact h.1 _ (lookM_mem hl)
theorem cutM_len {κ α : Type} [DecidableEq κ] (k : κ) (l : List (κ × α)) : (cutM l k).length ≤ l.length := (cutM_sub k l).length_le
theorem CB.drop {c : CRows × CKeys} {B : Nat} (h : CB c B) (id : Int) : CB (dropC c id) B := by
  unfold dropC
  cases hk : lookM c.2 id with
  | none => exact h
  | some k =>
    refine ⟨fun t ht => ?_, Nat.le_trans (cutM_len _ _) h.2⟩
    have hp : ∀ t ∈ putM c.1 k (cutRow ((lookM c.1 k).getD []) id), t.2.length ≤ B := fun t ht => by
      rcases mem_putM ht with h1 | rfl
      · exact h.1 t h1
      · exact Nat.le_trans (cutRow_le _ _) (h.look k)
    simp only [cutC] at ht
    split at ht
    · exact hp t (mem_cutM' ht)
    · exact hp t ht
theorem CB.put {c : CRows × CKeys} {B : Nat} (h : CB c B) (id : Int) (s : Bool) (k : ByteArray) : CB (putC c id s k) (B + 1) := by
  have hd := h.drop id
  unfold putC
  cases s with
  | false => exact ⟨fun t ht => Nat.le_succ_of_le (hd.1 t ht), Nat.le_succ_of_le hd.2⟩
  | true =>
    simp only [if_true]
    refine ⟨fun t ht => ?_, ?_⟩
    · rcases mem_putM ht with h1 | rfl
      · exact Nat.le_succ_of_le (hd.1 t h1)
      · have h1 := mkRow_le ((lookM (dropC c id).1 k).getD [] ++ [id])
        have h2 := hd.look k
        simp at h1 ⊢
        omega
    · have h2 := hd.2
      rw [putM_len]
      split <;> omega
end Go.Proofs.YtnnmgfnhblbolaaGreatDoor
set_option linter.unusedVariables false
set_option linter.unusedSimpArgs false
set_option maxHeartbeats 400000
namespace Go.Proofs.YtnnmgfnhblbolaaGreatDoor
open Go Go.X
section
variable {α : Type} (idf : α → Int) (src : α → Bool) (key : α → ByteArray)
def leftA (all : List α) (id : Int) : List α := all.filter fun a => decide (idf a ≠ id)
structure CR (c : CRows × CKeys) (all : List α) : Prop where
  ci : CI c
  nd : (all.map idf).Nodup
  look : ∀ id k, lookM c.2 id = some k ↔ ∃ a ∈ all, idf a = id ∧ src a = true ∧ key a = k
end
section
variable {α : Type} {idf : α → Int} {src : α → Bool} {key : α → ByteArray} {c : CRows × CKeys} {all : List α}
theorem CR.nil : CR idf src key ([], []) [] := ⟨CI.nil, by simp, by simp [lookM, placeM]⟩
theorem mem_leftA {id : Int} {a : α} : a ∈ leftA idf all id ↔ a ∈ all ∧ idf a ≠ id := by simp [leftA]
theorem leftA_nd (h : (all.map idf).Nodup) (id : Int) : ((leftA idf all id).map idf).Nodup := h.sublist (List.filter_sublist.map _)
theorem CR.drop (h : CR idf src key c all) (id : Int) : CR idf src key (dropC c id) (leftA idf all id) := by
  refine ⟨h.ci.drop id, leftA_nd h.nd id, fun j k => ?_⟩
  rw [dropC_look h.ci]
  by_cases e : j = id
  · rw [if_pos e]
    simp only [reduceCtorEq, false_iff]
    rintro ⟨a, ha, e1, _⟩
    exact (mem_leftA.1 ha).2 (e1.trans e)
  · rw [if_neg e, h.look]
    constructor
    · rintro ⟨a, ha, e1, e2⟩
      exact ⟨a, mem_leftA.2 ⟨ha, fun e3 => e (e1 ▸ e3)⟩, e1, e2⟩
    · rintro ⟨a, ha, e1, e2⟩
      exact ⟨a, (mem_leftA.1 ha).1, e1, e2⟩
theorem CR.put (h : CR idf src key c all) (a : α) : CR idf src key (putC c (idf a) (src a) (key a)) (leftA idf all (idf a) ++ [a]) := by
  refine ⟨h.ci.put _ _ _, ?_, fun j k => ?_⟩
  · rw [List.map_append, List.nodup_append]
    refine ⟨leftA_nd h.nd _, by simp, fun x hx y hy e => ?_⟩
    simp only [List.map_cons, List.map_nil, List.mem_singleton] at hy
    obtain ⟨b, hb, e2⟩ := List.mem_map.1 hx
    exact (mem_leftA.1 hb).2 (e2.trans (e.trans hy))
  · rw [putC_look h.ci]
    by_cases e : j = idf a
    · subst e
      simp only [if_true]
      constructor
      · intro h1
        cases hs : src a with
        | false => rw [hs] at h1; simp at h1
        | true =>
          rw [hs] at h1
          simp only [if_true, Option.some.injEq] at h1
          exact ⟨a, by simp, rfl, hs, h1⟩
      · rintro ⟨b, hb, e1, e2, e3⟩
        rcases List.mem_append.1 hb with hb | hb
        · exact absurd e1 (mem_leftA.1 hb).2
        · rw [List.mem_singleton] at hb
          subst hb
          rw [if_pos e2, e3]
    · rw [if_neg e, h.look]
      constructor
      · rintro ⟨b, hb, e1, e2⟩
        exact ⟨b, List.mem_append_left _ (mem_leftA.2 ⟨hb, fun e3 => e (e1 ▸ e3)⟩), e1, e2⟩
      · rintro ⟨b, hb, e1, e2⟩
        rcases List.mem_append.1 hb with hb | hb
        · exact ⟨b, (mem_leftA.1 hb).1, e1, e2⟩
        · rw [List.mem_singleton] at hb
          exact absurd (hb ▸ e1).symm e
theorem keys_nil {l : CKeys} (h : ∀ j k, lookM l j ≠ some k) : l = [] := by
  cases l with
  | nil => rfl
  | cons t l => exact absurd (by rw [lookM_cons, if_pos rfl]) (h t.1 t.2)
theorem CI.empty (h : CI c) (h2 : c.2 = []) : c.1 = [] := by
  cases hc : c.1 with
  | nil => rfl
  | cons t l =>
    have ht : t ∈ c.1 := by rw [hc]; simp
    obtain ⟨_, hne⟩ := h.row t ht
    obtain ⟨j, hj⟩ := List.exists_mem_of_ne_nil _ hne
    have hl : lookM c.1 t.1 = some t.2 := (lookM_iff h.nr).2 ht
    have := (h.mem t.1 j).1 (by rw [hl]; exact hj)
    rw [h2] at this
    simp [lookM, placeM] at this
theorem CR.empty (h : CR idf src key c []) : c.1 = [] ∧ c.2 = [] := by
  have h2 : c.2 = [] := keys_nil fun j k e => by
    obtain ⟨a, ha, _⟩ := (h.look j k).1 e
    cases ha
  exact ⟨h.ci.empty h2, h2⟩
end
end Go.Proofs.YtnnmgfnhblbolaaGreatDoor
set_option linter.unusedVariables false
set_option linter.unusedSimpArgs false
set_option maxHeartbeats 1000000
set_option maxRecDepth 100000
namespace Go.Proofs.YtnnmgfnhblbolaaGreatDoor
open Go Go.X Go.Rex
theorem cloneM_ok (M : Nat → Prop) (xs : List Mt) (v : Value) (w : World) (hv : SlM M w v xs) (hb : xs.length ≤ 1000000) :
    Fx Tryz.prog 115 [v] w (fun u w' => Row w' 29 3 u xs.length (xs.flatMap mtC) ∧ Fresh w.heap.size u ∧ Grow w w') := by
  obtain ⟨ad, c, b, o, rfl, hf⟩ := hv.open
  refine enter Tryz.func115 rfl rfl rfl _ (Pick.sub (l := [0]) (.cons rfl .nil)) ?_
  refine RK.seq ?_
  refine RK.region ?_
  refine RL.p rfl rfl ?_
  refine RL.done ?_
  iterate 2 refine RK.seq ?_
  refine RK.region ?_
  refine RL.p rfl rfl ?_
  refine RL.q (.free rfl) rfl rfl (Yld.eqNil u30 rfl rfl) ?_
  refine RL.done ?_
  first | refine RK.condD rfl (fun h4 => ?_) (fun h4 => ?_) | refine RK.condN rfl (fun h4 => ?_) (fun h4 => ?_) | refine RK.cond rfl (fun h4 => ?_) (fun h4 => ?_)
  · refine RK.seq ?_
    refine RK.region ?_
    refine RL.p rfl rfl ?_
    refine RL.done ?_
    refine RK.ret_of Tryz.func115 (res1 rfl rfl) ?_ _
    exact ⟨_, rfl, by cases ad with | none => (have h0 : xs.length = 0 := by (rcases Nat.eq_zero_or_pos xs.length with h | h; exact h; exact absurd (hf h).1 (by simp))); have : xs = [] := List.eq_nil_of_length_eq_zero h0; subst this; exact ⟨Row.nil _ _ _, fun b hb => by simp [Value.ownBlock] at hb, Mod.refl _ _⟩ | some a => simp at h4⟩
  · refine RK.skip ?_
    refine RK.seq ?_
    refine RK.region ?_
    refine RL.op (.free rfl) rfl rfl (Does.slice0 u30 i29) ?_
    rintro _ w1 ⟨b1, rfl, hn1⟩
    refine RL.p rfl rfl ?_
    refine RL.op (.free rfl) rfl rfl (Does.append u30 i29 rfl rfl rfl rfl rfl (Row.new hn1 3 0 rfl (by omega)) ((hv.mod (Mod.any' hn1.grow)).noM) (allOne_mts xs) (by omega)) ?_
    rintro u w2 ⟨hr, hm, hu⟩
    refine RL.p rfl rfl ?_
    refine RL.done ?_
    refine RK.ret_of Tryz.func115 (res1 rfl rfl) ?_ _
    exact ⟨_, rfl, by simpa using hr, fun b hb => by rcases hu with hu | hu <;> rw [hu] at hb <;> simp [Value.ownBlock] at hb <;> (have := hn1.at_; have := hn1.size; omega), hn1.grow.then hm (fun x hx e => by simp [Value.ownBlock] at e; have := hn1.at_; omega)⟩
theorem cloneS_ok (M : Nat → Prop) (xs : List ByteArray) (v : Value) (w : World) (hv : Sl M w v 1 xs.length (strsV xs)) (hb : xs.length ≤ 1000000) :
    Fx Tryz.prog 250 [v] w (fun u w' => Row w' 9 1 u xs.length (strsV xs) ∧ Fresh w.heap.size u ∧ Grow w w') := by
  obtain ⟨ad, c, b, o, rfl, hf⟩ := hv.open
  refine enter Tryz.func250 rfl rfl rfl _ (Pick.sub (l := [0]) (.cons rfl .nil)) ?_
  refine RK.seq ?_
  refine RK.region ?_
  refine RL.p rfl rfl ?_
  refine RL.done ?_
  iterate 2 refine RK.seq ?_
  refine RK.region ?_
  refine RL.p rfl rfl ?_
  refine RL.q (.free rfl) rfl rfl (Yld.eqNil u34 rfl rfl) ?_
  refine RL.done ?_
  first | refine RK.condD rfl (fun h4 => ?_) (fun h4 => ?_) | refine RK.condN rfl (fun h4 => ?_) (fun h4 => ?_) | refine RK.cond rfl (fun h4 => ?_) (fun h4 => ?_)
  · refine RK.seq ?_
    refine RK.region ?_
    refine RL.p rfl rfl ?_
    refine RL.done ?_
    refine RK.ret_of Tryz.func250 (res1 rfl rfl) ?_ _
    exact ⟨_, rfl, by cases ad with | none => (have h0 : xs.length = 0 := by (rcases Nat.eq_zero_or_pos xs.length with h | h; exact h; exact absurd (hf h).1 (by simp))); have : xs = [] := List.eq_nil_of_length_eq_zero h0; subst this; exact ⟨Row.nil _ _ _, fun b hb => by simp [Value.ownBlock] at hb, Mod.refl _ _⟩ | some a => simp at h4⟩
  · refine RK.skip ?_
    refine RK.seq ?_
    refine RK.region ?_
    refine RL.op (.free rfl) rfl rfl (Does.slice0 u34 i9) ?_
    rintro _ w1 ⟨b1, rfl, hn1⟩
    refine RL.p rfl rfl ?_
    refine RL.op (.free rfl) rfl rfl (Does.append u34 i9 rfl rfl rfl rfl rfl (Row.new hn1 1 0 rfl (by omega)) ((hv.mod (Mod.any' hn1.grow)).noM) (allOne_strs xs) (by omega)) ?_
    rintro u w2 ⟨hr, hm, hu⟩
    refine RL.p rfl rfl ?_
    refine RL.done ?_
    refine RK.ret_of Tryz.func250 (res1 rfl rfl) ?_ _
    exact ⟨_, rfl, by simpa using hr, fun b hb => by rcases hu with hu | hu <;> rw [hu] at hb <;> simp [Value.ownBlock] at hb <;> (have := hn1.at_; have := hn1.size; omega), hn1.grow.then hm (fun x hx e => by simp [Value.ownBlock] at e; have := hn1.at_; omega)⟩
def ruAt (r : Ru) (v1 v2 v3 : Value) : Ru := ⟨v1, v2, v3, r.src, r.tgt, r.bd, r.eq⟩
theorem Ru.Ok.noM' {M : Nat → Prop} {w : World} {r : Ru} (h : r.Ok M w) : r.Ok No w := ⟨h.s.noM, h.t.noM, h.e.noM⟩
theorem Ru.Ok.pass' {M M' : Nat → Prop} {w w' : World} {r : Ru} (h : r.Ok M w) (hm : Mod M w w') (hM : ∀ b, M' b → M b ∨ w.heap.size ≤ b) : r.Ok M' w' := ⟨h.s.pass (by omega) hm hM, h.t.pass (by omega) hm hM, h.e.pass (by omega) hm hM⟩
structure Ru.Few (r : Ru) : Prop where
  s : r.src.length ≤ 1000000
  t : r.tgt.length ≤ 1000000
  e : r.eq.length ≤ 1000000
theorem blkL {w : World} {b t : Nat} {cs ds : List Value} (h : Blk w b t (cs ++ ds)) : ∀ (j : Nat) (u : Value), cs[j]? = some u → w.cell? ⟨b, 0 + j, none⟩ = some u := fun j u hj => by
  rw [Nat.zero_add]
  refine h.cell' ?_
  rw [List.getElem?_append_left (List.getElem?_eq_some_iff.1 hj).1]
  exact hj
theorem copyRu_ok (M : Nat → Prop) (r : Ru) (w : World) (hr : r.Ok M w) (hf : r.Few) : Fx Tryz.prog 191 [.agg (ruC r).toArray] w (fun u w' => ∃ v1 v2 v3, u = .agg (ruC (ruAt r v1 v2 v3)).toArray ∧ (∀ M', (∀ b, b < w'.heap.size → M' b → b < w.heap.size) → (ruAt r v1 v2 v3).Ok M' w') ∧ Grow w w') := by
  obtain ⟨a1, c1, hv1⟩ := hr.s.shape
  obtain ⟨a2, c2, hv2⟩ := hr.t.shape
  obtain ⟨a3, c3, hv3⟩ := hr.e.shape
  refine enter Tryz.func191 rfl rfl rfl _ (Pick.sub (l := [0]) (.cons rfl .nil)) ?_
  refine RK.seq ?_
  refine RK.region ?_
  refine RL.op (.free rfl) rfl rfl (Does.box rfl) ?_
  rintro _ w1 ⟨b1, rfl, hn1⟩
  refine RL.op (.free rfl) rfl rfl (Does.alloc i36) ?_
  rintro _ w2 ⟨b2, rfl, hn2⟩
  have hB1 := hn1.blk.mod hn2.grow (fun h => h)
  have hg02 := hn1.grow.trans hn2.grow
  have hs1 := hn1.at_
  have hs2 := hn2.at_
  have hz1 := hn1.size
  have hz2 := hn2.size
  refine RL.done ?_
  refine RK.seq ?_
  refine RK.drawM No [(0, false), (1, false), (3, false), (4, false), (6, false), (7, false), (8, false), (9, false), (2, true), (5, true), (10, true), (11, false), (12, true)] [12] mixed (by kernel_rfl) ?_
  refine DL.qf rfl (.free rfl) rfl rfl (Yld.fieldAddr fo36_0 rfl) ?_
  refine DL.q rfl (.free rfl) rfl rfl rfl (Yld.load p30 rfl (atM (hB1.cell rfl) (fun h => h))) (Mod.drew _ _) ?_
  refine DL.qf rfl (.free rfl) rfl rfl (Yld.fieldAddr fo36_1 rfl) ?_
  refine DL.q rfl (.free rfl) rfl rfl rfl (Yld.load p30 rfl (atM (hB1.cell rfl) (fun h => h))) (Mod.drew _ _) ?_
  refine DL.qf rfl (.free rfl) rfl rfl (Yld.fieldAddr fo36_2 rfl) ?_
  refine DL.q rfl (.free rfl) rfl rfl rfl (Yld.loadN (cs := bdC r.bd) a33 rfl (atNM (fldN hB1 2 3) (fun h => h))) (Mod.drew _ _) ?_
  refine DL.qf rfl (.free rfl) rfl rfl (Yld.fieldAddr fo36_3 rfl) ?_
  refine DL.q rfl (.free rfl) rfl rfl rfl (Yld.load p34 rfl (atM (hB1.cell rfl) (fun h => h))) (Mod.drew _ _) ?_
  refine DL.op rfl (.free rfl) rfl rfl (Does.call rfl e115 (cloneM_ok M r.src _ _ ((hr.s.mod (Mod.any' hg02)).mod (Mod.drew _ _)) hf.s)) ?_
  rintro u3 w3 ⟨hr3, hf3, hg3⟩
  have hd3 := (Mod.drew No w2).trans hg3
  refine ⟨hd3, ?_⟩
  refine DL.op rfl (.free rfl) rfl rfl (Does.call rfl e115 (cloneM_ok M r.tgt _ _ ((hr.t.mod (Mod.any' hg02)).mod (Mod.any' hd3)) hf.t)) ?_
  rintro u4 w4 ⟨hr4, hf4, hg4⟩
  have hd4 := hd3.trans hg4
  refine ⟨hd4, ?_⟩
  refine DL.op rfl (.free rfl) rfl rfl (Does.call rfl e250 (cloneS_ok M r.eq _ _ ((hr.e.mod (Mod.any' hg02)).mod (Mod.any' hd4)) hf.e)) ?_
  rintro u5 w5 ⟨hr5, hf5, hg5⟩
  have hd5 := hd4.trans hg5
  refine ⟨hd5, ?_⟩
  obtain ⟨ad3, e3, rfl⟩ := hr3.slice
  obtain ⟨ad4, e4, rfl⟩ := hr4.slice
  obtain ⟨ad5, e5, rfl⟩ := hr5.slice
  refine DL.qf rfl (.free rfl) rfl rfl (Yld.build (v := .agg (ruC (ruAt r (.slice ad3 r.src.length e3) (.slice ad4 r.tgt.length e4) (.slice ad5 r.eq.length e5))).toArray) rfl (fun w => by kernel_rfl)) ?_
  refine DL.opT rfl (.free rfl) rfl rfl (Does.storeN i36 rfl rfl rfl rfl (hn2.blk.mod hd5 (fun h => h)) (Nat.le_refl 6)) ?_
  rintro _ w6 ⟨hb6, hm6, _⟩
  have hz3 := hd3.size
  have hz4 := hg4.size
  have hz5 := hg5.size
  have hz6 := hm6.size
  have hlt3 := fun b e => hr3.lt (b := b) e
  have hlt4 := fun b e => hr4.lt (b := b) e
  have hlt5 := fun b e => hr5.lt (b := b) e
  have hbb : w.heap.size ≤ b2 := by omega
  have hno : ∀ (M' : Nat → Prop), (∀ b, b < w6.heap.size → M' b → b < w.heap.size) → ∀ b, w2.heap.size ≤ b → b < w6.heap.size → ¬ (M' b ∨ b = b2) := fun M' hM b h1 h2 h => by
      rcases h with h | h
      · have := hM b h2 h; omega
      · omega
  refine DL.done ?_
  refine RK.ret_of Tryz.func191 (resC (cs := ruC (ruAt r (.slice ad3 r.src.length e3) (.slice ad4 r.tgt.length e4) (.slice ad5 r.eq.length e5))) rfl rfl a36 hb6) ?_ _
  exact ⟨_, rfl, _, _, _, rfl, fun M' hM => ⟨((Sl.own (hr3.mod (hg4.trans hg5) (fun _ _ h => h)) (M := fun b => M' b ∨ b = b2) (fun b e h => hno M' hM b (by have h1 := hf3 b e; simp only [World.drew] at h1; omega) (by have := hlt3 b e; omega) h)).mod (hm6.mono (fun b _ e => .inr e))).off (by omega) (fun b _ e => .inl e), ((Sl.own (hr4.mod hg5 (fun _ _ h => h)) (M := fun b => M' b ∨ b = b2) (fun b e h => hno M' hM b (by have h1 := hf4 b e; omega) (by have := hlt4 b e; omega) h)).mod (hm6.mono (fun b _ e => .inr e))).off (by omega) (fun b _ e => .inl e), ((Sl.own hr5 (M := fun b => M' b ∨ b = b2) (fun b e h => hno M' hM b (by have h1 := hf5 b e; omega) (by have := hlt5 b e; omega) h)).mod (hm6.mono (fun b _ e => .inr e))).off (by omega) (fun b _ e => .inl e)⟩, (hg02.trans hd5).then hm6 (fun y hy e => by have e' : y = b2 := e; omega)⟩
structure CacheAt (M : Nat → Prop) (w : World) (p mr mk : Nat) (r : Ru) (c : CRows × CKeys) : Prop where
  blk : Blk w p 147 (ruC r ++ [.map (some mr), .map (some mk)])
  ne : mr ≠ mk
  ok : r.Ok M w
  rl : ∃ l : List (ByteArray × (List Int × Value)), l.map (fun t => (t.1, t.2.1)) = c.1 ∧ MapAt Value.string w mr (l.map fun t => (t.1, t.2.2)) ∧ ∀ t ∈ l, Sl M w t.2.2 1 t.2.1.length (ints t.2.1)
  kl : MapAt (Value.int .i64) w mk (c.2.map fun t => (t.1, Value.string t.2))
theorem CacheAt.mod {M M0 : Nat → Prop} {w w' : World} {p mr mk : Nat} {r : Ru} {c : CRows × CKeys} (h : CacheAt M w p mr mk r c) (hm : Mod M0 w w') (h0 : ∀ b, b < w.heap.size → M0 b → M b) (n1 : ¬ M0 p) (n2 : ¬ M0 mr) (n3 : ¬ M0 mk) : CacheAt M w' p mr mk r c := by
  obtain ⟨l, hl1, hl2, hl3⟩ := h.rl
  exact ⟨h.blk.mod hm n1, h.ne, h.ok.mod (hm.mono h0), ⟨l, hl1, hl2.mod hm n2, fun t ht => (hl3 t ht).mod (hm.mono h0)⟩, h.kl.mod hm n3⟩
theorem CacheAt.grow {M : Nat → Prop} {w w' : World} {p mr mk : Nat} {r : Ru} {c : CRows × CKeys} (h : CacheAt M w p mr mk r c) (hm : Grow w w') : CacheAt M w' p mr mk r c := h.mod hm (fun b _ e => e.elim) (fun h => h) (fun h => h) (fun h => h)
theorem CacheAt.off {M M' : Nat → Prop} {w : World} {p mr mk : Nat} {r : Ru} {c : CRows × CKeys} (h : CacheAt M w p mr mk r c) (hM : ∀ b, b < w.heap.size → M' b → M b) : CacheAt M' w p mr mk r c := by
  obtain ⟨l, hl1, hl2, hl3⟩ := h.rl
  exact ⟨h.blk, h.ne, ⟨h.ok.s.off (by omega) hM, h.ok.t.off (by omega) hM, h.ok.e.off (by omega) hM⟩, ⟨l, hl1, hl2, fun t ht => (hl3 t ht).off (by omega) hM⟩, h.kl⟩
theorem cacheNew_ok (M0 : Nat → Prop) (r : Ru) (w : World) (hr : r.Ok M0 w) (hf : r.Few) : Fx Tryz.prog 125 [.agg (ruC r).toArray] w (fun u w' => ∃ p mr mk v1 v2 v3, u = pp p ∧ (w.heap.size ≤ p ∧ w.heap.size ≤ mr ∧ w.heap.size ≤ mk ∧ p < w'.heap.size) ∧ (∀ M, (∀ b, b < w'.heap.size → M b → b < w.heap.size ∨ b = mr ∨ b = mk) → CacheAt M w' p mr mk (ruAt r v1 v2 v3) ([], [])) ∧ Grow w w') := by
  obtain ⟨a1, c1, hv1⟩ := hr.s.shape
  refine enter Tryz.func125 rfl rfl rfl _ (Pick.sub (l := [0]) (.cons rfl .nil)) ?_
  refine RK.seq ?_
  refine RK.region ?_
  refine RL.op (.free rfl) rfl rfl (Does.box rfl) ?_
  rintro _ w1 ⟨b1, rfl, hn1⟩
  refine RL.p rfl rfl ?_
  refine RL.done ?_
  refine RK.seq ?_
  refine RK.region ?_
  refine RL.q (.free rfl) rfl rfl (Yld.loadN (cs := ruC r) a36 rfl (atN (blk0' hn1.blk))) ?_
  refine RL.op (.free rfl) rfl rfl (Does.call rfl e191 (copyRu_ok M0 r _ (hr.mod (Mod.any' hn1.grow)) hf)) ?_
  rintro _ w2 ⟨v1, v2, v3, rfl, hok, hg2⟩
  refine RL.op (.free rfl) rfl rfl (Does.makeMap Value.string) ?_
  rintro _ w3 ⟨mr, rfl, hmr, hm3, hg3, hs3⟩
  refine RL.op (.free rfl) rfl rfl (Does.makeMap (Value.int .i64)) ?_
  rintro _ w4 ⟨mk, rfl, hmk, hm4, hg4, hs4⟩
  refine RL.q (.free rfl) rfl rfl (Yld.build (v := .agg (ruC (ruAt r v1 v2 v3) ++ [Value.map (some mr), Value.map (some mk)]).toArray) rfl (fun w => by kernel_rfl)) ?_
  refine RL.op (.free rfl) rfl rfl (Does.box rfl) ?_
  rintro _ w8 ⟨b8, rfl, hn8⟩
  have hg24 := hg3.trans hg4
  have hg28 := hg24.trans hn8.grow
  have hz1 := hn1.grow.size
  have hz2 := hg2.size
  have hz3 := hg3.size
  have hz4 := hg4.size
  have hz8 := hn8.size
  have ha8 := hn8.at_
  refine RL.p rfl rfl ?_
  refine RL.done ?_
  refine RK.ret_of Tryz.func125 (res1 rfl rfl) ?_ _
  exact ⟨_, rfl, b8, mr, mk, v1, v2, v3, rfl, ⟨by omega, by omega, by omega, by omega⟩, fun M hM => ⟨hn8.blk, by omega, (hok (fun b => M b ∧ b < w2.heap.size) (fun b _ e => by have e2 := e.2; rcases hM b (by omega) e.1 with h | h | h <;> omega)).pass' (Mod.any' hg28) (fun b e => by by_cases hb : b < w2.heap.size; exact .inl ⟨e, hb⟩; exact .inr (by omega)), ⟨[], rfl, (hm3.mod hg4 (fun h => h)).mod hn8.grow (fun h => h), by simp⟩, hm4.mod hn8.grow (fun h => h)⟩, (hn1.grow.trans hg2).trans hg28⟩
theorem cacheLen_ok (M : Nat → Prop) (w : World) (p mr mk : Nat) (r : Ru) (c : CRows × CKeys) (h : CacheAt M w p mr mk r c) : Fx Tryz.prog 30 [pp p] w (fun u w' => u = .int .i64 c.2.length ∧ Grow w w') := by
  refine enter Tryz.func30 rfl rfl rfl _ (Pick.sub (l := [0]) (.cons rfl .nil)) ?_
  refine RK.seq ?_
  refine RK.region ?_
  refine RL.p rfl rfl ?_
  refine RL.done ?_
  refine RK.seq ?_
  refine RK.region ?_
  iterate 2 refine RL.p rfl rfl ?_
  refine RL.q (.free rfl) rfl rfl (Yld.fieldAddr fo147_2 rfl) ?_
  refine RL.q (.free rfl) rfl rfl (Yld.load p145 rfl (at1 (h.blk.cell rfl))) ?_
  refine RL.q (.free rfl) rfl rfl (Yld.lenMap Tryz.underlying145 rfl (fun w' e => e ▸ h.kl)) ?_
  refine RL.p rfl rfl ?_
  refine RL.done ?_
  refine RK.ret_of Tryz.func30 (res1 rfl rfl) ?_ _
  exact ⟨_, rfl, by simp, Mod.refl _ _⟩
theorem cacheRule_ok (M : Nat → Prop) (w : World) (p mr mk : Nat) (r : Ru) (c : CRows × CKeys) (h : CacheAt M w p mr mk r c) (hf : r.Few) : Fx Tryz.prog 124 [pp p] w (fun u w' => ∃ v1 v2 v3, u = .agg (ruC (ruAt r v1 v2 v3)).toArray ∧ (ruAt r v1 v2 v3).Ok No w' ∧ Grow w w') := by
  refine enter Tryz.func124 rfl rfl rfl _ (Pick.sub (l := [0]) (.cons rfl .nil)) ?_
  refine RK.seq ?_
  refine RK.region ?_
  refine RL.op (.free rfl) rfl rfl (Does.alloc i36) ?_
  rintro _ w2 ⟨b2, rfl, hn2⟩
  refine RL.done ?_
  refine RK.seq ?_
  refine RK.region ?_
  iterate 2 refine RL.p rfl rfl ?_
  refine RL.q (.free rfl) rfl rfl (Yld.fieldAddr fo147_0 rfl) ?_
  refine RL.q (.free rfl) rfl rfl (Yld.loadN (cs := ruC r) a36 rfl (atN (blkL (h.blk.mod hn2.grow (fun h => h))))) ?_
  refine RL.op (.free rfl) rfl rfl (Does.call rfl e191 (copyRu_ok M r _ (h.ok.mod (Mod.any' hn2.grow)) hf)) ?_
  rintro _ w3 ⟨v1, v2, v3, rfl, hok, hg3⟩
  have hok3 := hok (fun b => b = b2) (fun b _ e => by have := hn2.blk.lt; omega)
  refine RL.op' (.free rfl) rfl (Does.storeN i36 rfl rfl rfl (ruC_one hok3) (hn2.blk.mod hg3 (fun h => h)) (Nat.le_refl 6)) ?_
  rintro _ w4 ⟨hb4, hm4, _⟩
  refine RL.done ?_
  refine RK.ret_of Tryz.func124 (resC (cs := ruC (ruAt r v1 v2 v3)) rfl rfl a36 hb4) ?_ _
  exact ⟨_, rfl, v1, v2, v3, rfl, (hok3.mod hm4).noM', (hn2.grow.trans hg3).then hm4 (fun y hy e => by have e' : y = b2 := e; have := hn2.at_; omega)⟩
end Go.Proofs.YtnnmgfnhblbolaaGreatDoor
set_option linter.unusedVariables false
set_option linter.unusedSimpArgs false
set_option maxHeartbeats 1600000
set_option maxRecDepth 100000
namespace Go.Proofs.YtnnmgfnhblbolaaGreatDoor
open Go Go.X
structure Slz where
  id : Int
  start : Int
  stop : Int
  ms : List Mt
  bd : Bd
def pubZ (a : Sil) : Slz := ⟨a.id, a.start, a.stop, a.ms, a.bd⟩
structure SS where
  ret : Int
  most : Int
  last : Int
  sl : List Slz
def ownS (p pl qu : Nat) (vp vq vs : Value) (b : Nat) : Prop := b = p ∨ b = pl ∨ b = qu ∨ vp.ownBlock = some b ∨ vq.ownBlock = some b ∨ vs.ownBlock = some b
structure ZA (w : World) (p : Nat) (s : SS) (M : Nat → Prop) (pl qu : Nat) (vp vq vs : Value) (al : List Sil) (q : List En) : Prop where
  blk : Blk w p 113 [pp pl, pp qu, .int .u64 s.ret, vs]
  pool : PoolAt w pl s.most s.last (al.map (·.id)) vp
  que : QAt w qu q vq
  row : Row w 197 8 vs al.length (al.flatMap silC)
  als : al.map pubZ = s.sl
  sms : ∀ a ∈ al, SlM M w a.mv a.ms
  sort : SortE q
  perm : q.Perm (al.map fun a => ⟨a.stop + s.ret, a.id⟩)
  ownM : ∀ b, ownS p pl qu vp vq vs b → M b
  ltM : ∀ b, M b → b < w.heap.size
def ZStore (O M : Nat → Prop) (w : World) (p : Nat) (s : SS) : Prop := ∃ pl qu vp vq vs al q, (∀ b, O b ↔ ownS p pl qu vp vq vs b) ∧ ZA w p s M pl qu vp vq vs al q
section
variable {w : World} {p : Nat} {s : SS} {M : Nat → Prop} {pl qu : Nat} {vp vq vs : Value} {al : List Sil} {q : List En}
theorem ZA.len (h : ZA w p s M pl qu vp vq vs al q) : al.length = s.sl.length := by rw [← h.als, List.length_map]
theorem ZA.ids (h : ZA w p s M pl qu vp vq vs al q) : al.map (·.id) = s.sl.map (·.id) := by rw [← h.als, List.map_map]; rfl
theorem ZA.own_lt (h : ZA w p s M pl qu vp vq vs al q) {b : Nat} (e : ownS p pl qu vp vq vs b) : b < w.heap.size := h.ltM b (h.ownM b e)
theorem ZA.grow {w' : World} (h : ZA w p s M pl qu vp vq vs al q) (hg : Grow w w') : ZA w' p s M pl qu vp vq vs al q :=
  ⟨h.blk.mod hg (fun h => h), ⟨h.pool.blk.mod hg (fun h => h), h.pool.row.mod hg (fun _ _ h => h), h.pool.ne⟩, h.que.grow hg, h.row.mod hg (fun _ _ h => h), h.als, fun a ha => (h.sms a ha).mod (Mod.any' hg), h.sort, h.perm, h.ownM, fun b hb => Nat.lt_of_lt_of_le (h.ltM b hb) hg.size⟩
end
theorem ZStore.grow {O M : Nat → Prop} {w w' : World} {p : Nat} {s : SS} (h : ZStore O M w p s) (hg : Grow w w') : ZStore O M w' p s := by
  obtain ⟨pl, qu, vp, vq, vs, al, q, hO, h⟩ := h
  exact ⟨pl, qu, vp, vq, vs, al, q, hO, h.grow hg⟩
theorem ZStore.lt {O M : Nat → Prop} {w : World} {p : Nat} {s : SS} (h : ZStore O M w p s) : ∀ b, O b → b < w.heap.size := by
  obtain ⟨pl, qu, vp, vq, vs, al, q, hO, h⟩ := h
  exact fun b hb => h.own_lt ((hO b).1 hb)
end Go.Proofs.YtnnmgfnhblbolaaGreatDoor
set_option linter.unusedVariables false
set_option linter.unusedSimpArgs false
set_option maxHeartbeats 1600000
set_option maxRecDepth 100000
namespace Go.Proofs.YtnnmgfnhblbolaaGreatDoor
open Go Go.X
def clampS (x lo hi : Int) : Int := if hi < (if lo > x then lo else x) then hi else (if lo > x then lo else x)
theorem newZ_ok (m r : Int) (w : World) : Fx Tryz.prog 21 [.int .i64 m, .int .u64 r] w (fun u w' => ∃ p O, u = pp p ∧ ZStore O O w' p ⟨clampS r 1 1048576, clampS m 1 12, 0, []⟩ ∧ Grow w w' ∧ ∀ b, O b → w.heap.size ≤ b) := by
  refine enter Tryz.func21 rfl rfl rfl _ (Pick.sub (l := [0, 1]) (.cons rfl (.cons rfl .nil))) ?_
  refine RK.seq ?_
  refine RK.region ?_
  refine RL.p rfl rfl ?_
  refine RL.done ?_
  refine RK.seq ?_
  refine RK.region ?_
  refine RL.p rfl rfl ?_
  refine RL.q (.free rfl) rfl rfl (Yld.max2 rfl rfl) ?_
  refine RL.q (.free rfl) rfl rfl (Yld.min2 rfl rfl) ?_
  refine RL.op (.free rfl) rfl rfl (Does.call rfl e23 (poolNew_ok _ _)) ?_
  rintro _ w1 ⟨pl, rfl, hpa, hp1, hg1, hz1⟩
  refine RL.op (.free rfl) rfl rfl (Does.call rfl e49 (reapNew_ok _)) ?_
  rintro _ w2 ⟨qu, rfl, hqa, hq2, hg2, hz2⟩
  refine RL.p rfl rfl ?_
  refine RL.q (.free rfl) rfl rfl (Yld.max2k rfl rfl) ?_
  refine RL.q (.free rfl) rfl rfl (Yld.min2k rfl rfl) ?_
  refine RL.q (.free rfl) rfl rfl (Yld.build (v := .agg #[pp pl, pp qu, .int .u64 (clampS r 1 1048576), .slice none 0 0]) rfl (fun w => by kernel_rfl)) ?_
  refine RL.op (.free rfl) rfl rfl (Does.box rfl) ?_
  rintro _ w3 ⟨b14, rfl, hn14⟩
  have hmost : (if 0 > clampS m 1 12 then 0 else clampS m 1 12) = clampS m 1 12 := by unfold clampS; split <;> split <;> (try split) <;> omega
  have hp3 : PoolAt w3 pl (clampS m 1 12) 0 [] (.slice none 0 0) := by
      have h1 : PoolAt w1 pl (clampS m 1 12) 0 [] (.slice none 0 0) := hmost ▸ hp1
      exact ⟨h1.blk.mod (hg2.trans hn14.grow) (fun h => h), h1.row.mod (hg2.trans hn14.grow) (fun _ _ h => h), h1.ne⟩
  have hlt : ∀ b, ownS b14 pl qu (.slice none 0 0) (.slice none 0 0) (.slice none 0 0) b → b < w3.heap.size ∧ w.heap.size ≤ b := fun b e => by
      have h1 := hn14.at_
      have h2 := hg1.size
      have h3 := hn14.blk.lt
      have h4 := hp3.blk.lt
      have h5 := (hq2.grow hn14.grow).blk.lt
      have h6 := hg2.size
      rcases e with e | e | e | e | e | e
      · omega
      · omega
      · omega
      · simp [Value.ownBlock] at e
      · simp [Value.ownBlock] at e
      · simp [Value.ownBlock] at e
  refine RL.p rfl rfl ?_
  refine RL.done ?_
  refine RK.ret_of Tryz.func21 (res1 rfl rfl) ?_ _
  exact ⟨_, rfl, b14, ownS b14 pl qu (.slice none 0 0) (.slice none 0 0) (.slice none 0 0), rfl, ⟨pl, qu, .slice none 0 0, .slice none 0 0, .slice none 0 0, [], [], fun _ => Iff.rfl, ⟨hn14.blk, hp3, hq2.grow hn14.grow, Row.nil _ _ _, rfl, fun a ha => (by cases ha), List.Pairwise.nil, List.Perm.nil, fun b e => e, fun b e => (hlt b e).1⟩⟩, (hg1.trans hg2).trans hn14.grow, fun b e => (hlt b e).2⟩
end Go.Proofs.YtnnmgfnhblbolaaGreatDoor
set_option linter.unusedVariables false
set_option linter.unusedSimpArgs false
set_option maxHeartbeats 6400000
set_option maxRecDepth 100000
namespace Go.Proofs.YtnnmgfnhblbolaaGreatDoor
open Go Go.X
structure PtE (base : Nat) (w : World) (pt dr q sl al ix mr : Nat) : Prop where
  fr : base ≤ pt ∧ base ≤ dr ∧ base ≤ q ∧ base ≤ sl ∧ base ≤ al ∧ base ≤ ix ∧ base ≤ mr
  blk : ∃ ids, Blk w pt 79 [pp dr, pp sl, pp al, pp ids, .slice none 0 0]
  door : ∃ x y, Blk w dr 109 [x, y, pp q]
  ch : ∃ x ds, Blk w q 171 (x :: .slice none 0 0 :: ds)
  sil : ∃ x y z ad c, Blk w sl 113 [x, y, z, .slice ad 0 c]
  alr : ∃ x ad c, Blk w al 118 [x, pp ix, .slice ad 0 c]
  idx : ∃ x, Blk w ix 178 [x, .map (some mr)]
  mp : MapAt pairV w mr []
theorem PtE.mod {base : Nat} {w w' : World} {M : Nat → Prop} {pt dr q sl al ix mr : Nat} (h : PtE base w pt dr q sl al ix mr) (hm : Mod M w w') (hM : ∀ b, base ≤ b → ¬ M b) : PtE base w' pt dr q sl al ix mr := by
  obtain ⟨h1, h2, h3, h4, h5, h6, h7⟩ := h.fr
  obtain ⟨ids, hb⟩ := h.blk
  obtain ⟨x1, y1, hd⟩ := h.door
  obtain ⟨x2, ds, hc⟩ := h.ch
  obtain ⟨x3, y3, z3, a3, c3, hs⟩ := h.sil
  obtain ⟨x4, a4, c4, ha⟩ := h.alr
  obtain ⟨x5, hi⟩ := h.idx
  exact ⟨h.fr, ⟨ids, hb.mod hm (hM _ h1)⟩, ⟨x1, y1, hd.mod hm (hM _ h2)⟩, ⟨x2, ds, hc.mod hm (hM _ h3)⟩, ⟨x3, y3, z3, a3, c3, hs.mod hm (hM _ h4)⟩, ⟨x4, a4, c4, ha.mod hm (hM _ h5)⟩, ⟨x5, hi.mod hm (hM _ h6)⟩, h.mp.mod hm (hM _ h7)⟩
theorem PtE.grow {base : Nat} {w w' : World} {pt dr q sl al ix mr : Nat} (h : PtE base w pt dr q sl al ix mr) (hg : Grow w w') : PtE base w' pt dr q sl al ix mr := h.mod hg (fun _ _ h => h)
theorem eIdx_ok {w : World} {ix mr : Nat} {x : Value} (hi : Blk w ix 178 [x, .map (some mr)]) (hm : MapAt pairV w mr []) : Fx Tryz.prog 73 [pp ix] w (fun u w' => u = .int .i64 0 ∧ w = w') := by
  refine enter Tryz.func73 rfl rfl rfl _ (Pick.sub (l := [0]) (.cons rfl .nil)) ?_
  refine RK.seq ?_
  refine RK.region ?_
  refine RL.p rfl rfl ?_
  refine RL.done ?_
  refine RK.seq ?_
  refine RK.region ?_
  iterate 2 refine RL.p rfl rfl ?_
  refine RL.q (.free rfl) rfl rfl (Yld.fieldAddr fo178_1 rfl) ?_
  refine RL.q (.free rfl) rfl rfl (Yld.load p176 rfl (at1 (hi.cell rfl))) ?_
  refine RL.q (.free rfl) rfl rfl (Yld.lenMap Tryz.underlying176 rfl (fun w' e => e ▸ hm)) ?_
  refine RL.p rfl rfl ?_
  refine RL.done ?_
  refine RK.ret_of Tryz.func73 (res1 rfl rfl) ?_ _
  exact ⟨_, rfl, rfl, rfl⟩
@[reducible] def cnt0 : List Value := [.int .i64 0, .int .i64 0, .int .i64 0, .int .i64 0, .int .i64 0, .int .i64 0, .int .i64 0]
end Go.Proofs.YtnnmgfnhblbolaaGreatDoor
set_option linter.unusedVariables false
set_option linter.unusedSimpArgs false
set_option maxHeartbeats 6400000
set_option maxRecDepth 100000
namespace Go.Proofs.YtnnmgfnhblbolaaGreatDoor
open Go Go.X
def mQ : Mt := ⟨1, ⟨#[97]⟩, ⟨#[49]⟩⟩
def bQ : Bd := ⟨true, 0, 0⟩
@[reducible] def ruQ (sv tv ev : Value) : Ru := ⟨sv, tv, ev, [mQ], [mQ], bQ, []⟩
theorem mQ_list : listM [mQ] = true := by kernel_rfl
theorem ruQ_is (sv tv ev : Value) : isRu (ruQ sv tv ev) = true := by kernel_rfl
theorem ruQ_large (sv tv ev : Value) : largeRu (ruQ sv tv ev) = false := by kernel_rfl
theorem putB0 : putB 0 = [0] := by rw [putB]; rfl
theorem putB1 : putB 1 = [1] := by rw [putB]; rfl
theorem putTa : putT ⟨#[97]⟩ = [1, 97] := by
  have e : (⟨#[97]⟩ : ByteArray).size = 1 := rfl
  unfold putT; rw [e, putB1]; rfl
theorem putT1 : putT ⟨#[49]⟩ = [1, 49] := by
  have e : (⟨#[49]⟩ : ByteArray).size = 1 := rfl
  unfold putT; rw [e, putB1]; rfl
theorem mBytesQ_ok (v : Value) (w : World) (hv : SlM No w v [mQ]) : Fx Tryz.prog 101 [v] w (fun u w' => Row w' 5 1 u 6 (bytesV [1, 1, 1, 97, 1, 49]) ∧ Fresh w.heap.size u ∧ Grow w w') := by
  obtain ⟨ad, c, b, o, rfl, hf⟩ := hv.open
  obtain ⟨rfl, -, hc⟩ := hf (by decide)
  refine enter Tryz.func101 rfl rfl rfl _ (Pick.sub (l := [0]) (.cons rfl .nil)) ?_
  refine RK.seq ?_
  refine RK.region ?_
  refine RL.p rfl rfl ?_
  refine RL.done ?_
  iterate 2 refine RK.seq ?_
  refine RK.region ?_
  refine RL.p rfl rfl ?_
  refine RL.op (.free rfl) rfl rfl (Does.call rfl e134 (matchList_ok No [mQ] _ _ hv)) ?_
  rintro _ w1 ⟨rfl, hg1⟩
  refine RL.p rfl rfl ?_
  refine RL.done ?_
  refine RK.condF (hcF rfl (by first | rfl | (rw [mQ_list]; rfl))) ?_
  refine RK.skip ?_
  refine RK.seq ?_
  refine RK.region ?_
  refine RL.p rfl rfl ?_
  refine RL.q (.free rfl) rfl rfl (Yld.lenSl u30 rfl) ?_
  refine RL.q (.free rfl) rfl rfl (Yld.convI Tryz.underlying3 Tryz.underlying24 rfl) ?_
  refine RL.op (.free rfl) rfl rfl (Does.call rfl e86 (vput_ok 1 (by decide) _)) ?_
  rintro u2 w2 ⟨hr2, hf2, hg2⟩
  rw [putB1] at hr2
  have hg12 := hg1.trans hg2
  refine RL.p rfl rfl ?_
  refine RL.done ?_
  iterate 2 refine RK.seq ?_
  refine RK.region ?_
  refine RL.p rfl rfl ?_
  refine RL.q (.free rfl) rfl rfl (Yld.lenSl u30 rfl) ?_
  refine RL.p rfl rfl ?_
  refine RL.done ?_
  refine RK.block ?_
  refine RK.loop (fun s : Nat × Value => [(13, .slice (some ⟨b, o, none⟩) 1 c), (14, .int .i64 1), (15, .int .i64 (s.1 : Int)), (3, s.2)]) (fun s w' => Grow w w' ∧ Fresh w.heap.size s.2 ∧ ((s.1 = 0 ∧ Row w' 5 1 s.2 1 (bytesV [1])) ∨ (s.1 = 1 ∧ Row w' 5 1 s.2 6 (bytesV [1, 1, 1, 97, 1, 49])))) (fun s => 1 - s.1) (0, u2) ⟨rfl, rfl, rfl, rfl, trivial⟩ ⟨hg12, fun b e => by have := hf2 b e; have := hg1.size; omega, .inl ⟨rfl, hr2⟩⟩ (fun s w' hI ih => ?_)
  obtain ⟨k, u0⟩ := s
  obtain ⟨hG0, hf0, hk⟩ := hI
  simp only at hk hf0
  refine RK.seq ?_
  refine RK.region ?_
  refine RL.p rfl rfl ?_
  refine RL.done ?_
  refine RK.seq ?_
  first | refine RK.condD rfl (fun h16 => ?_) (fun h16 => ?_) | refine RK.condN rfl (fun h16 => ?_) (fun h16 => ?_) | refine RK.cond rfl (fun h16 => ?_) (fun h16 => ?_)
  · obtain ⟨rfl, hr0⟩ : k = 0 ∧ Row w' 5 1 u0 1 (bytesV [1]) := by
        rcases hk with h | h
        · exact h
        · simp only at h16; omega
    refine RK.skip ?_
    refine RK.seq ?_
    refine RK.block ?_
    refine RK.seq ?_
    refine RK.region ?_
    refine RL.q (.free rfl) rfl rfl (Yld.indexAddrN u30 i29 rfl rfl ((by decide : 0 < 1))) ?_
    refine RL.q (.free rfl) rfl rfl (Yld.loadN (cs := mtC mQ) a29 rfl (atN (fun j u hj => hG0.cell (hc j u hj) (fun h => h)))) ?_
    refine RL.op (.free rfl) rfl rfl (Does.alloc i29) ?_
    rintro _ w5 ⟨b5, rfl, hn5⟩
    have ha5 := hn5.at_
    refine RL.op' (.free rfl) rfl (Does.storeN i29 rfl rfl rfl rfl hn5.blk (Nat.le_refl 3)) ?_
    rintro _ w6 ⟨hb6, hm6, hs6⟩
    have hB6 : Blk w6 b5 29 (mtC mQ) := hb6
    have hg6 : Grow w' w6 := hn5.grow.then hm6 (fun x hx e => by have e' : x = b5 := e; omega)
    refine RL.done ?_
    refine RK.seq ?_
    refine RK.region ?_
    refine RL.p rfl rfl ?_
    refine RL.q (.free rfl) rfl rfl (Yld.fieldAddr fo29_0 rfl) ?_
    refine RL.q (.free rfl) rfl rfl (Yld.load p3 rfl (at1 (hB6.cell rfl))) ?_
    refine RL.q (.free rfl) rfl rfl (Yld.convI Tryz.underlying3 Tryz.underlying5 rfl) ?_
    refine RL.op (.free rfl) rfl rfl (Does.slice1 u43 i5 rfl rfl rfl rfl rfl) ?_
    rintro _ w7 ⟨b7, rfl, hn7⟩
    have hg7 := hg6.trans hn7.grow
    have hr7 := hr0.mod hg7 (fun _ _ h => h)
    have hG7 := hG0.trans hg7
    have hf7 := hf0
    have hB7 := hB6.mod hn7.grow (fun h => h)
    refine RL.op (.free rfl) rfl rfl (Does.append u43 i5 rfl rfl rfl rfl rfl (hr7) (Sl.new hn7 1 1 rfl (by decide) (fun h => h)) (rfl) (by decide)) ?_
    rintro u8 w8 ⟨hr8, hm8, hu8⟩
    have hf8 : Fresh w.heap.size u8 := fun b e => by
        rcases hu8 with h | h <;> rw [h] at e
        · exact hf7 b e
        · cases e; exact hG7.size
    have hG8 : Grow w w8 := hG7.then hm8 (fun x hx e => by have := hf7 x e; omega)
    have hB8 := hB7.mod hm8 (fun e => (hr7.ty e).ne hB7.ty rfl rfl)
    refine RL.p rfl rfl ?_
    refine RL.done ?_
    refine RK.seq ?_
    refine RK.region ?_
    refine RL.p rfl rfl ?_
    refine RL.q (.free rfl) rfl rfl (Yld.fieldAddr fo29_1 rfl) ?_
    refine RL.q (.free rfl) rfl rfl (Yld.load p9 rfl (at1 (hB8.cell rfl))) ?_
    refine RL.op (.free rfl) rfl rfl (Does.call rfl e89 (putT_ok ⟨#[97]⟩ (by decide) _)) ?_
    rintro u9 w9 ⟨hr9, hf9, hg9⟩
    rw [putTa] at hr9
    have hr8' := hr8.mod hg9 (fun _ _ h => h)
    clear hr8
    have hr8 := hr8'
    have hG8' := hG8.trans hg9
    clear hG8
    have hG8 := hG8'
    have hB9 := hB8.mod hg9 (fun h => h)
    refine RL.op (.free rfl) rfl rfl (Does.append u43 i5 rfl rfl rfl rfl rfl (hr8) (Sl.own hr9 (fun _ _ h => h)) (rfl) (by decide)) ?_
    rintro u10 w10 ⟨hr10, hm10, hu10⟩
    have hf10 : Fresh w.heap.size u10 := fun b e => by
        rcases hu10 with h | h <;> rw [h] at e
        · exact hf8 b e
        · cases e; exact hG8.size
    have hG10 : Grow w w10 := hG8.then hm10 (fun x hx e => by have := hf8 x e; omega)
    have hB10 := hB9.mod hm10 (fun e => (hr8.ty e).ne hB9.ty rfl rfl)
    refine RL.p rfl rfl ?_
    refine RL.done ?_
    refine RK.region ?_
    refine RL.p rfl rfl ?_
    refine RL.q (.free rfl) rfl rfl (Yld.fieldAddr fo29_2 rfl) ?_
    refine RL.q (.free rfl) rfl rfl (Yld.load p9 rfl (at1 (hB10.cell rfl))) ?_
    refine RL.op (.free rfl) rfl rfl (Does.call rfl e89 (putT_ok ⟨#[49]⟩ (by decide) _)) ?_
    rintro u11 w11 ⟨hr11, hf11, hg11⟩
    rw [putT1] at hr11
    have hr12 := hr10.mod hg11 (fun _ _ h => h)
    have hG12 := hG10.trans hg11
    have hf12 := hf10
    refine RL.op (.free rfl) rfl rfl (Does.append u43 i5 rfl rfl rfl rfl rfl (hr12) (Sl.own hr11 (fun _ _ h => h)) (rfl) (by decide)) ?_
    rintro u13 w13 ⟨hr13, hm13, hu13⟩
    have hf13 : Fresh w.heap.size u13 := fun b e => by
        rcases hu13 with h | h <;> rw [h] at e
        · exact hf12 b e
        · cases e; exact hG12.size
    have hG13 : Grow w w13 := hG12.then hm13 (fun x hx e => by have := hf12 x e; omega)
    refine RL.p rfl rfl ?_
    refine RL.done ?_
    refine RK.inBlock ?_
    refine RK.region ?_
    refine RL.p rfl rfl ?_
    refine RL.re (d := 35) rfl rfl (succ_i64 (by simp)) ?_
    refine RL.p rfl rfl ?_
    refine RL.done ?_
    exact RK.back (ih (1, u13) _ ⟨hG13, hf13, .inr ⟨rfl, hr13⟩⟩ (by simp)) ⟨rfl, rfl, rfl, rfl, trivial⟩
  · obtain ⟨rfl, hr0⟩ : k = 1 ∧ Row w' 5 1 u0 6 (bytesV [1, 1, 1, 97, 1, 49]) := by
        rcases hk with h | h
        · simp only at h16; omega
        · exact h
    refine RK.exit rfl ?_
    refine RK.seq ?_
    refine RK.region ?_
    iterate 2 refine RL.p rfl rfl ?_
    refine RL.done ?_
    refine RK.ret_of Tryz.func101 (res1 rfl rfl) ?_ _
    exact ⟨_, rfl, hr0, hf0, hG0⟩
theorem putBandQ_ok (w : World) : Fx Tryz.prog 102 [.agg (bdC bQ).toArray] w (fun u w' => Row w' 5 1 u 1 (bytesV [1]) ∧ Fresh w.heap.size u ∧ Grow w w') := by
  refine enter Tryz.func102 rfl rfl rfl _ (Pick.sub (l := [0]) (.cons rfl .nil)) ?_
  refine RK.seq ?_
  refine RK.region ?_
  refine RL.op (.free rfl) rfl rfl (Does.box rfl) ?_
  rintro _ w1 ⟨b1, rfl, hn1⟩
  have hB : Blk w1 b1 33 (bdC bQ) := hn1.blk
  refine RL.p rfl rfl ?_
  refine RL.done ?_
  iterate 2 refine RK.seq ?_
  refine RK.region ?_
  refine RL.q (.free rfl) rfl rfl (Yld.fieldAddr fo33_0 rfl) ?_
  refine RL.q (.free rfl) rfl rfl (Yld.load p4 rfl (at1 (hB.cell rfl))) ?_
  refine RL.done ?_
  refine RK.condT (hcT rfl (rfl)) ?_
  refine RK.seq ?_
  refine RK.region ?_
  refine RL.op (.free rfl) rfl rfl (Does.slice1 u43 i5 rfl rfl rfl rfl rfl) ?_
  rintro _ w5 ⟨b5, rfl, hn5⟩
  have ha5 := hn5.at_
  have hz1 := hn1.size
  refine RL.p rfl rfl ?_
  refine RL.done ?_
  refine RK.ret_of Tryz.func102 (res1 rfl rfl) ?_ _
  exact ⟨_, rfl, Row.new hn5 1 1 rfl (by omega), fun b e => by simp [Value.ownBlock] at e; omega, hn1.grow.trans hn5.grow⟩
def rbQ : List UInt8 := [1, 1, 1, 97, 1, 49, 1, 1, 1, 97, 1, 49, 1, 0]
theorem ruleBytesQ_ok (sv tv ev : Value) (w : World) (hr : (ruQ sv tv ev).Ok No w) : Fx Tryz.prog 103 [.agg (ruC (ruQ sv tv ev)).toArray] w (fun u w' => Row w' 5 1 u 14 (bytesV rbQ) ∧ Fresh w.heap.size u ∧ Grow w w') := by
  obtain ⟨ad3, c3, he3⟩ := hr.e.shape
  simp only at he3
  subst he3
  refine enter Tryz.func103 rfl rfl rfl _ (Pick.sub (l := [0]) (.cons rfl .nil)) ?_
  refine RK.seq ?_
  refine RK.region ?_
  refine RL.op (.free rfl) rfl rfl (Does.box rfl) ?_
  rintro _ w1 ⟨b1, rfl, hn1⟩
  have hB : Blk w1 b1 36 (ruC (ruQ sv tv (.slice ad3 0 c3))) := hn1.blk
  refine RL.p rfl rfl ?_
  refine RL.done ?_
  iterate 2 refine RK.seq ?_
  refine RK.region ?_
  refine RL.q (.free rfl) rfl rfl (Yld.loadN (cs := ruC (ruQ sv tv (.slice ad3 0 c3))) a36 rfl (atN (blkV hB))) ?_
  refine RL.op (.free rfl) rfl rfl (Does.call rfl e178 (isRule_ok No (ruQ sv tv (.slice ad3 0 c3)) _ (hr.mod (Mod.any' hn1.grow)))) ?_
  rintro _ w2 ⟨rfl, hg2⟩
  have hg12 := hn1.grow.trans hg2
  have hr2 := (hr.mod (Mod.any' hg12)).mod (Mod.drew No _)
  have hBd := (hB.mod hg2 (fun h => h)).mod (Mod.drew No _) (fun h => h)
  refine RL.p rfl rfl ?_
  refine RL.done ?_
  refine RK.condF (hcF rfl (by first | rfl | (rw [ruQ_is]; rfl))) ?_
  refine RK.skip ?_
  refine RK.seq ?_
  refine RK.drawM No [(0, false), (1, false), (3, false), (4, false), (6, false), (7, false), (9, false), (10, false), (11, false), (12, false), (2, true), (5, true), (8, true), (13, true), (14, true), (15, true), (16, false)] [] mixed (by kernel_rfl) ?_
  refine DL.qf rfl (.free rfl) rfl rfl (Yld.fieldAddr fo36_0 rfl) ?_
  refine DL.q rfl (.free rfl) rfl rfl rfl (Yld.load p30 rfl (atM (hBd.cell rfl) id)) (Mod.drew _ _) ?_
  refine DL.qf rfl (.free rfl) rfl rfl (Yld.fieldAddr fo36_1 rfl) ?_
  refine DL.q rfl (.free rfl) rfl rfl rfl (Yld.load p30 rfl (atM (hBd.cell rfl) id)) (Mod.drew _ _) ?_
  refine DL.qf rfl (.free rfl) rfl rfl (Yld.fieldAddr fo36_2 rfl) ?_
  refine DL.q rfl (.free rfl) rfl rfl rfl (Yld.loadN (cs := bdC bQ) a33 rfl (atNM (fldV hBd 2 3) id)) (Mod.drew _ _) ?_
  refine DL.qf rfl (.free rfl) rfl rfl (Yld.fieldAddr fo36_3 rfl) ?_
  refine DL.q rfl (.free rfl) rfl rfl rfl (Yld.load p34 rfl (atM (hBd.cell rfl) id)) (Mod.drew _ _) ?_
  refine DL.q rfl (.free rfl) rfl rfl rfl (Yld.lenSl u34 rfl) (Mod.drew _ _) ?_
  refine DL.qf rfl (.free rfl) rfl rfl (Yld.convI Tryz.underlying3 Tryz.underlying24 rfl) ?_
  refine DL.op rfl (.free rfl) rfl rfl (Does.call rfl e101 (mBytesQ_ok _ _ hr2.s)) ?_
  rintro u3 w3 ⟨hr3, hf3, hg3⟩
  refine ⟨(Mod.drew _ _).trans hg3, ?_⟩
  refine DL.op rfl (.free rfl) rfl rfl (Does.call rfl e101 (mBytesQ_ok _ _ (hr2.t.mod (Mod.any' hg3)))) ?_
  rintro u4 w4 ⟨hr4, hf4, hg4⟩
  refine ⟨((Mod.drew _ _).trans hg3).trans hg4, ?_⟩
  refine DL.op rfl (.free rfl) rfl rfl (Does.call rfl e102 (putBandQ_ok _)) ?_
  rintro u5 w5 ⟨hr5, hf5, hg5⟩
  refine ⟨(((Mod.drew _ _).trans hg3).trans hg4).trans hg5, ?_⟩
  refine DL.op rfl (.free rfl) rfl rfl (Does.call rfl e86 (vput_ok 0 (by decide) _)) ?_
  rintro u6 w6 ⟨hr6, hf6, hg6⟩
  refine ⟨((((Mod.drew _ _).trans hg3).trans hg4).trans hg5).trans hg6, ?_⟩
  rw [putB0] at hr6
  obtain ⟨a3, k3, rfl⟩ := hr3.slice
  obtain ⟨a4, k4, rfl⟩ := hr4.slice
  obtain ⟨a5, k5, rfl⟩ := hr5.slice
  obtain ⟨a6, k6, rfl⟩ := hr6.slice
  refine DL.op rfl (.free rfl) rfl rfl (Does.bslice (el := 43) ([.slice a3 6 k3, .slice a4 6 k4, .slice a5 1 k5, .slice a6 1 k6]) rfl (fun w => by kernel_rfl)) ?_
  rintro _ wT ⟨bT, rfl, hnT⟩
  refine ⟨(((((Mod.drew _ _).trans hg3).trans hg4).trans hg5).trans hg6).trans hnT.grow, ?_⟩
  have g6 := hnT.grow
  have g5 := hg6.trans g6
  have g4 := hg5.trans g5
  have g3 := hg4.trans g4
  refine DL.op rfl (.free rfl) rfl rfl (Does.call rfl e100 (concatB_ok No [(.slice a3 6 k3, bytesV [1, 1, 1, 97, 1, 49]), (.slice a4 6 k4, bytesV [1, 1, 1, 97, 1, 49]), (.slice a5 1 k5, bytesV [1]), (.slice a6 1 k6, bytesV [0])] _ _ (Sl.new hnT 1 4 rfl (by decide) (fun h => h)) (by
      intro p hp
      simp only [List.mem_cons, List.not_mem_nil, or_false] at hp
      rcases hp with rfl | rfl | rfl | rfl
      · exact Sl.own (hr3.mod g3 (fun _ _ h => h)) (fun _ _ h => h)
      · exact Sl.own (hr4.mod g4 (fun _ _ h => h)) (fun _ _ h => h)
      · exact Sl.own (hr5.mod g5 (fun _ _ h => h)) (fun _ _ h => h)
      · exact Sl.own (hr6.mod g6 (fun _ _ h => h)) (fun _ _ h => h)) (by
      intro p hp
      simp only [List.mem_cons, List.not_mem_nil, or_false] at hp
      rcases hp with rfl | rfl | rfl | rfl <;> rfl) (by simp [totalB, bytesV]))) ?_
  rintro uZ wZ ⟨hrZ, hfZ, hgZ⟩
  refine ⟨((((((Mod.drew _ _).trans hg3).trans hg4).trans hg5).trans hg6).trans hnT.grow).trans hgZ, ?_⟩
  have hG2Z : Grow w2 wZ := ((((((Mod.drew _ _).trans hg3).trans hg4).trans hg5).trans hg6).trans hnT.grow).trans hgZ
  have hrZ' : Row wZ 5 1 uZ 14 (bytesV rbQ) := hrZ
  have hz1 := hn1.size
  have hzT : w2.heap.size ≤ wT.heap.size := ((((((Mod.drew No _).trans hg3).trans hg4).trans hg5).trans hg6).trans hnT.grow).size
  have hz2 := hg2.size
  refine DL.p rfl rfl rfl ?_
  refine DL.done ?_
  iterate 2 refine RK.seq ?_
  refine RK.region ?_
  refine RL.q (.free rfl) rfl rfl (Yld.fieldAddr fo36_3 rfl) ?_
  refine RL.q (.free rfl) rfl rfl (Yld.load p34 rfl (at1 (((hB.mod hg2 (fun h => h)).mod hG2Z (fun h => h)).cell rfl))) ?_
  refine RL.q (.free rfl) rfl rfl (Yld.lenSl u34 rfl) ?_
  refine RL.p rfl rfl ?_
  refine RL.done ?_
  refine RK.block ?_
  refine RK.loop (fun _ : Unit => [(3, uZ), (26, .slice ad3 0 c3), (27, .int .i64 0), (28, .int .i64 0)]) (fun _ w' => wZ = w') (fun _ => 0) () ⟨rfl, rfl, rfl, rfl, trivial⟩ rfl (fun _ w' hI ih => ?_)
  subst hI
  refine RK.seq ?_
  refine RK.region ?_
  refine RL.p rfl rfl ?_
  refine RL.done ?_
  refine RK.seq ?_
  refine RK.condF (hcF rfl (rfl)) ?_
  refine RK.exit rfl ?_
  refine RK.seq ?_
  refine RK.region ?_
  iterate 2 refine RL.p rfl rfl ?_
  refine RL.done ?_
  refine RK.ret_of Tryz.func103 (res1 rfl rfl) ?_ _
  exact ⟨_, rfl, hrZ', fun b e => by have := hfZ b e; omega, hg12.trans hG2Z⟩
end Go.Proofs.YtnnmgfnhblbolaaGreatDoor
set_option linter.unusedVariables false
set_option linter.unusedSimpArgs false
set_option maxHeartbeats 6400000
set_option maxRecDepth 100000
namespace Go.Proofs.YtnnmgfnhblbolaaGreatDoor
open Go Go.X
@[reducible] def reqQ (a1 : Option Addr) (c1 : Nat) (a2 : Option Addr) (c2 : Nat) (a3 : Option Addr) (c3 : Nat) : List Value := [.string ⟨#[]⟩, .int .i64 9, .int .i64 0, .string ⟨#[]⟩, .int .u64 0, .int .u64 0, .int .i64 0, .slice none 0 0, .bool false, .float .f64 0, .float .f64 0, .slice a1 1 c1, .slice a2 1 c2, .bool true, .float .f64 0, .float .f64 0, .slice a3 0 c3, .slice none 0 0, .float .f64 0]
theorem reqFields9_ok (w : World) : Fx Tryz.prog 98 [.int .i64 9] w (fun u w' => u = .tuple #[.int .i64 128, .bool true] ∧ w = w') := by
  refine enter Tryz.func98 rfl rfl rfl _ (Pick.sub (l := [0]) (.cons rfl .nil)) ?_
  refine RK.seq ?_
  refine RK.region ?_
  iterate 2 refine RL.p rfl rfl ?_
  refine RL.done ?_
  iterate 2 refine RK.seq ?_
  refine RK.region ?_
  refine RL.p rfl rfl ?_
  refine RL.done ?_
  refine RK.block ?_
  iterate 2 refine RK.seq ?_
  refine RK.region ?_
  iterate 2 refine RL.p rfl rfl ?_
  refine RL.done ?_
  refine RK.condF (hcF rfl (rfl)) ?_
  refine RK.seq ?_
  refine RK.region ?_
  iterate 2 refine RL.p rfl rfl ?_
  refine RL.done ?_
  refine RK.condF (hcF rfl (rfl)) ?_
  refine RK.seq ?_
  refine RK.region ?_
  iterate 2 refine RL.p rfl rfl ?_
  refine RL.done ?_
  refine RK.condF (hcF rfl (rfl)) ?_
  refine RK.region ?_
  iterate 2 refine RL.p rfl rfl ?_
  refine RL.done ?_
  refine RK.condF (hcF rfl (rfl)) ?_
  iterate 2 refine RK.seq ?_
  refine RK.region ?_
  iterate 2 refine RL.p rfl rfl ?_
  refine RL.done ?_
  refine RK.condF (hcF rfl (rfl)) ?_
  refine RK.seq ?_
  refine RK.region ?_
  iterate 2 refine RL.p rfl rfl ?_
  refine RL.done ?_
  refine RK.condF (hcF rfl (rfl)) ?_
  refine RK.seq ?_
  refine RK.region ?_
  iterate 2 refine RL.p rfl rfl ?_
  refine RL.done ?_
  refine RK.condF (hcF rfl (rfl)) ?_
  refine RK.seq ?_
  refine RK.region ?_
  iterate 2 refine RL.p rfl rfl ?_
  refine RL.done ?_
  refine RK.condF (hcF rfl (rfl)) ?_
  refine RK.region ?_
  iterate 2 refine RL.p rfl rfl ?_
  refine RL.done ?_
  refine RK.condF (hcF rfl (rfl)) ?_
  iterate 2 refine RK.seq ?_
  refine RK.region ?_
  iterate 2 refine RL.p rfl rfl ?_
  refine RL.done ?_
  refine RK.condF (hcF rfl (rfl)) ?_
  refine RK.region ?_
  iterate 2 refine RL.p rfl rfl ?_
  refine RL.done ?_
  refine RK.condF (hcF rfl (rfl)) ?_
  refine RK.seq ?_
  refine RK.region ?_
  iterate 2 refine RL.p rfl rfl ?_
  refine RL.done ?_
  refine RK.condF (hcF rfl (rfl)) ?_
  refine RK.seq ?_
  refine RK.region ?_
  iterate 2 refine RL.p rfl rfl ?_
  refine RL.done ?_
  refine RK.condF (hcF rfl (rfl)) ?_
  refine RK.seq ?_
  refine RK.region ?_
  iterate 2 refine RL.p rfl rfl ?_
  refine RL.done ?_
  refine RK.condF (hcF rfl (rfl)) ?_
  refine RK.seq ?_
  refine RK.region ?_
  iterate 2 refine RL.p rfl rfl ?_
  refine RL.done ?_
  refine RK.condT (hcT rfl (rfl)) ?_
  refine RK.seq ?_
  refine RK.region ?_
  iterate 2 refine RL.p rfl rfl ?_
  refine RL.done ?_
  refine RK.ret_of Tryz.func98 (res2 rfl rfl rfl) ?_ _
  exact ⟨_, rfl, rfl, rfl⟩
theorem reqZeroQ_ok (a1 : Option Addr) (c1 : Nat) (a2 : Option Addr) (c2 : Nat) (a3 : Option Addr) (c3 : Nat) (w : World) : Fx Tryz.prog 175 [.agg (reqQ a1 c1 a2 c2 a3 c3).toArray, .int .i64 128] w (fun u w' => u = .bool true ∧ Grow w w') := by
  refine enter Tryz.func175 rfl rfl rfl _ (Pick.sub (l := [0, 1]) (.cons rfl (.cons rfl .nil))) ?_
  refine RK.seq ?_
  refine RK.region ?_
  refine RL.op (.free rfl) rfl rfl (Does.box rfl) ?_
  rintro _ w1 ⟨b1, rfl, hn1⟩
  have hB : Blk w1 b1 39 (reqQ a1 c1 a2 c2 a3 c3) := hn1.blk
  refine RL.p rfl rfl ?_
  refine RL.done ?_
  refine RK.seq ?_
  refine RK.region ?_
  iterate 4 refine RL.p rfl rfl ?_
  refine RL.knownF (d := 8) rfl rfl (by first | rfl | decide) ?_
  refine RL.q (.yes rfl rfl rfl) rfl rfl (Yld.fieldAddr fo39_2 rfl) ?_
  refine RL.q (.yes rfl rfl rfl) rfl rfl (Yld.load p3 rfl (at1 (hB.cell rfl))) ?_
  refine RL.q (.yes rfl rfl rfl) rfl rfl (Yld.pure rfl) ?_
  iterate 2 refine RL.p rfl rfl ?_
  refine RL.knownT (d := 13) rfl rfl (by first | rfl | decide) ?_
  iterate 4 refine RL.q (.yes rfl rfl rfl) rfl rfl (Yld.pure rfl) ?_
  refine RL.knownF (d := 17) rfl rfl (by first | rfl | decide) ?_
  refine RL.q (.yes rfl rfl rfl) rfl rfl (Yld.fieldAddr fo39_3 rfl) ?_
  refine RL.q (.yes rfl rfl rfl) rfl rfl (Yld.load p9 rfl (at1 (hB.cell rfl))) ?_
  iterate 2 refine RL.q (.yes rfl rfl rfl) rfl rfl (Yld.pure rfl) ?_
  iterate 2 refine RL.p rfl rfl ?_
  refine RL.knownT (d := 23) rfl rfl (by first | rfl | decide) ?_
  iterate 4 refine RL.q (.yes rfl rfl rfl) rfl rfl (Yld.pure rfl) ?_
  refine RL.knownF (d := 27) rfl rfl (by first | rfl | decide) ?_
  refine RL.q (.yes rfl rfl rfl) rfl rfl (Yld.fieldAddr fo39_4 rfl) ?_
  refine RL.q (.yes rfl rfl rfl) rfl rfl (Yld.load p24 rfl (at1 (hB.cell rfl))) ?_
  iterate 2 refine RL.q (.yes rfl rfl rfl) rfl rfl (Yld.pure rfl) ?_
  refine RL.knownT (d := 31) rfl rfl (by first | rfl | decide) ?_
  refine RL.q (.yes rfl rfl rfl) rfl rfl (Yld.fieldAddr fo39_5 rfl) ?_
  refine RL.q (.yes rfl rfl rfl) rfl rfl (Yld.load p24 rfl (at1 (hB.cell rfl))) ?_
  iterate 3 refine RL.q (.yes rfl rfl rfl) rfl rfl (Yld.pure rfl) ?_
  iterate 2 refine RL.p rfl rfl ?_
  refine RL.knownT (d := 38) rfl rfl (by first | rfl | decide) ?_
  iterate 4 refine RL.q (.yes rfl rfl rfl) rfl rfl (Yld.pure rfl) ?_
  refine RL.knownF (d := 42) rfl rfl (by first | rfl | decide) ?_
  refine RL.q (.yes rfl rfl rfl) rfl rfl (Yld.fieldAddr fo39_6 rfl) ?_
  refine RL.q (.yes rfl rfl rfl) rfl rfl (Yld.load p3 rfl (at1 (hB.cell rfl))) ?_
  iterate 2 refine RL.q (.yes rfl rfl rfl) rfl rfl (Yld.pure rfl) ?_
  iterate 2 refine RL.p rfl rfl ?_
  refine RL.knownT (d := 48) rfl rfl (by first | rfl | decide) ?_
  iterate 4 refine RL.q (.yes rfl rfl rfl) rfl rfl (Yld.pure rfl) ?_
  refine RL.knownF (d := 52) rfl rfl (by first | rfl | decide) ?_
  refine RL.q (.yes rfl rfl rfl) rfl rfl (Yld.fieldAddr fo39_7 rfl) ?_
  refine RL.q (.yes rfl rfl rfl) rfl rfl (Yld.load p30 rfl (at1 (hB.cell rfl))) ?_
  refine RL.q (.yes rfl rfl rfl) rfl rfl (Yld.lenSl u30 rfl) ?_
  iterate 2 refine RL.q (.yes rfl rfl rfl) rfl rfl (Yld.pure rfl) ?_
  iterate 2 refine RL.p rfl rfl ?_
  refine RL.knownT (d := 59) rfl rfl (by first | rfl | decide) ?_
  iterate 4 refine RL.q (.yes rfl rfl rfl) rfl rfl (Yld.pure rfl) ?_
  refine RL.knownF (d := 63) rfl rfl (by first | rfl | decide) ?_
  refine RL.q (.yes rfl rfl rfl) rfl rfl (Yld.fieldAddr fo39_8 rfl) ?_
  refine RL.q (.yes rfl rfl rfl) rfl rfl (Yld.loadN (cs := band0) a33 rfl (atN (fldV hB 8 3))) ?_
  refine RL.op (.yes rfl rfl rfl) rfl rfl (Does.call rfl e240 (noBand0_ok _)) ?_
  rintro _ w2 ⟨rfl, hg2⟩
  have hB2 := hB.mod hg2 (fun h => h)
  refine RL.q (.yes rfl rfl rfl) rfl rfl (Yld.pure rfl) ?_
  iterate 2 refine RL.p rfl rfl ?_
  refine RL.knownT (d := 69) rfl rfl (by first | rfl | decide) ?_
  iterate 4 refine RL.q (.yes rfl rfl rfl) rfl rfl (Yld.pure rfl) ?_
  refine RL.knownT (d := 73) rfl rfl (by first | rfl | decide) ?_
  iterate 3 refine RL.no (.no rfl rfl rfl rfl) rfl rfl ?_
  refine RL.q (.yes rfl rfl rfl) rfl rfl (Yld.pure rfl) ?_
  iterate 2 refine RL.p rfl rfl ?_
  iterate 4 refine RL.q (.yes rfl rfl rfl) rfl rfl (Yld.pure rfl) ?_
  refine RL.knownF (d := 83) rfl rfl (by first | rfl | decide) ?_
  refine RL.q (.yes rfl rfl rfl) rfl rfl (Yld.fieldAddr fo39_10 rfl) ?_
  refine RL.q (.yes rfl rfl rfl) rfl rfl (Yld.load p37 rfl (at1 (hB2.cell rfl))) ?_
  refine RL.q (.yes rfl rfl rfl) rfl rfl (Yld.lenSl u37 rfl) ?_
  iterate 2 refine RL.q (.yes rfl rfl rfl) rfl rfl (Yld.pure rfl) ?_
  iterate 2 refine RL.p rfl rfl ?_
  refine RL.knownT (d := 90) rfl rfl (by first | rfl | decide) ?_
  iterate 4 refine RL.q (.yes rfl rfl rfl) rfl rfl (Yld.pure rfl) ?_
  refine RL.knownF (d := 94) rfl rfl (by first | rfl | decide) ?_
  refine RL.q (.yes rfl rfl rfl) rfl rfl (Yld.fieldAddr fo39_11 rfl) ?_
  refine RL.q (.yes rfl rfl rfl) rfl rfl (Yld.load p31 rfl (at1 (hB2.cell rfl))) ?_
  refine RL.op (.yes rfl rfl rfl) rfl rfl (Does.call rfl e242 (nought0_ok _)) ?_
  rintro _ _ ⟨rfl, rfl⟩
  refine RL.q (.yes rfl rfl rfl) rfl rfl (Yld.pure rfl) ?_
  iterate 2 refine RL.p rfl rfl ?_
  refine RL.done ?_
  refine RK.ret_of Tryz.func175 (res1 rfl rfl) ?_ _
  exact ⟨_, rfl, rfl, hn1.grow.trans hg2⟩
theorem reqRightQ_ok (a1 : Option Addr) (c1 : Nat) (a2 : Option Addr) (c2 : Nat) (a3 : Option Addr) (c3 : Nat) (w : World) (hr : (ruQ (.slice a1 1 c1) (.slice a2 1 c2) (.slice a3 0 c3)).Ok No w) : Fx Tryz.prog 176 [.agg (reqQ a1 c1 a2 c2 a3 c3).toArray, .int .i64 128] w (fun u w' => u = .bool true ∧ Grow w w') := by
  refine enter Tryz.func176 rfl rfl rfl _ (Pick.sub (l := [0, 1]) (.cons rfl (.cons rfl .nil))) ?_
  refine RK.seq ?_
  refine RK.region ?_
  refine RL.op (.free rfl) rfl rfl (Does.box rfl) ?_
  rintro _ w1 ⟨b1, rfl, hn1⟩
  have hB : Blk w1 b1 39 (reqQ a1 c1 a2 c2 a3 c3) := hn1.blk
  refine RL.p rfl rfl ?_
  refine RL.done ?_
  refine RK.seq ?_
  refine RK.region ?_
  refine RL.q (.free rfl) rfl rfl (Yld.fieldAddr fo39_2 rfl) ?_
  refine RL.q (.free rfl) rfl rfl (Yld.load p3 rfl (at1 (hB.cell rfl))) ?_
  iterate 2 refine RL.p rfl rfl ?_
  refine RL.knownT (d := 8) rfl rfl (by first | rfl | decide) ?_
  refine RL.q (.yes rfl rfl rfl) rfl rfl (Yld.fieldAddr fo39_2 rfl) ?_
  refine RL.q (.yes rfl rfl rfl) rfl rfl (Yld.load p3 rfl (at1 (hB.cell rfl))) ?_
  refine RL.q (.yes rfl rfl rfl) rfl rfl (Yld.pure rfl) ?_
  iterate 2 refine RL.p rfl rfl ?_
  refine RL.knownT (d := 13) rfl rfl (by first | rfl | decide) ?_
  iterate 4 refine RL.q (.yes rfl rfl rfl) rfl rfl (Yld.pure rfl) ?_
  refine RL.knownT (d := 17) rfl rfl (by first | rfl | decide) ?_
  iterate 3 refine RL.no (.no rfl rfl rfl rfl) rfl rfl ?_
  refine RL.q (.yes rfl rfl rfl) rfl rfl (Yld.pure rfl) ?_
  iterate 2 refine RL.p rfl rfl ?_
  refine RL.q (.yes rfl rfl rfl) rfl rfl (Yld.fieldAddr fo39_4 rfl) ?_
  refine RL.q (.yes rfl rfl rfl) rfl rfl (Yld.load p24 rfl (at1 (hB.cell rfl))) ?_
  refine RL.q (.yes rfl rfl rfl) rfl rfl (Yld.pure rfl) ?_
  iterate 2 refine RL.p rfl rfl ?_
  refine RL.knownT (d := 28) rfl rfl (by first | rfl | decide) ?_
  refine RL.q (.yes rfl rfl rfl) rfl rfl (Yld.fieldAddr fo39_5 rfl) ?_
  refine RL.q (.yes rfl rfl rfl) rfl rfl (Yld.load p24 rfl (at1 (hB.cell rfl))) ?_
  refine RL.q (.yes rfl rfl rfl) rfl rfl (Yld.pure rfl) ?_
  iterate 2 refine RL.p rfl rfl ?_
  refine RL.knownT (d := 33) rfl rfl (by first | rfl | decide) ?_
  refine RL.q (.yes rfl rfl rfl) rfl rfl (Yld.fieldAddr fo39_6 rfl) ?_
  refine RL.q (.yes rfl rfl rfl) rfl rfl (Yld.load p3 rfl (at1 (hB.cell rfl))) ?_
  refine RL.q (.yes rfl rfl rfl) rfl rfl (Yld.pure rfl) ?_
  iterate 2 refine RL.p rfl rfl ?_
  refine RL.knownT (d := 38) rfl rfl (by first | rfl | decide) ?_
  refine RL.q (.yes rfl rfl rfl) rfl rfl (Yld.fieldAddr fo39_6 rfl) ?_
  refine RL.q (.yes rfl rfl rfl) rfl rfl (Yld.load p3 rfl (at1 (hB.cell rfl))) ?_
  refine RL.q (.yes rfl rfl rfl) rfl rfl (Yld.pure rfl) ?_
  iterate 2 refine RL.p rfl rfl ?_
  refine RL.knownT (d := 43) rfl rfl (by first | rfl | decide) ?_
  refine RL.q (.yes rfl rfl rfl) rfl rfl (Yld.fieldAddr fo39_7 rfl) ?_
  refine RL.q (.yes rfl rfl rfl) rfl rfl (Yld.load p30 rfl (at1 (hB.cell rfl))) ?_
  refine RL.op (.yes rfl rfl rfl) rfl rfl (Does.call rfl e134 (mlist0_ok _)) ?_
  rintro _ _ ⟨rfl, rfl⟩
  iterate 2 refine RL.p rfl rfl ?_
  refine RL.knownT (d := 48) rfl rfl (by first | rfl | decide) ?_
  iterate 4 refine RL.q (.yes rfl rfl rfl) rfl rfl (Yld.pure rfl) ?_
  refine RL.knownT (d := 52) rfl rfl (by first | rfl | decide) ?_
  iterate 4 refine RL.no (.no rfl rfl rfl rfl) rfl rfl ?_
  refine RL.q (.yes rfl rfl rfl) rfl rfl (Yld.pure rfl) ?_
  iterate 2 refine RL.p rfl rfl ?_
  iterate 4 refine RL.q (.yes rfl rfl rfl) rfl rfl (Yld.pure rfl) ?_
  refine RL.knownT (d := 63) rfl rfl (by first | rfl | decide) ?_
  iterate 3 refine RL.no (.no rfl rfl rfl rfl) rfl rfl ?_
  refine RL.q (.yes rfl rfl rfl) rfl rfl (Yld.pure rfl) ?_
  iterate 2 refine RL.p rfl rfl ?_
  iterate 4 refine RL.q (.yes rfl rfl rfl) rfl rfl (Yld.pure rfl) ?_
  refine RL.knownF (d := 73) rfl rfl (by first | rfl | decide) ?_
  refine RL.q (.yes rfl rfl rfl) rfl rfl (Yld.fieldAddr fo39_9 rfl) ?_
  refine RL.q (.yes rfl rfl rfl) rfl rfl (Yld.loadN (cs := ruC (ruQ (.slice a1 1 c1) (.slice a2 1 c2) (.slice a3 0 c3))) a36 rfl (atN (fldV hB 11 6))) ?_
  refine RL.op (.yes rfl rfl rfl) rfl rfl (Does.call rfl e178 (isRule_ok No (ruQ (.slice a1 1 c1) (.slice a2 1 c2) (.slice a3 0 c3)) _ (hr.mod (Mod.any' hn1.grow)))) ?_
  rintro _ w2 ⟨rfl, hg2⟩
  refine RL.q (.yes rfl rfl rfl) rfl rfl (Yld.pure rfl) ?_
  iterate 2 refine RL.p rfl rfl ?_
  refine RL.knownT (d := 79) rfl rfl (by first | rfl | exact ruQ_is _ _ _) ?_
  iterate 4 refine RL.q (.yes rfl rfl rfl) rfl rfl (Yld.pure rfl) ?_
  refine RL.knownT (d := 83) rfl rfl (by first | rfl | decide) ?_
  iterate 3 refine RL.no (.no rfl rfl rfl rfl) rfl rfl ?_
  refine RL.q (.yes rfl rfl rfl) rfl rfl (Yld.pure rfl) ?_
  iterate 2 refine RL.p rfl rfl ?_
  refine RL.done ?_
  refine RK.ret_of Tryz.func176 (res1 rfl rfl) ?_ _
  exact ⟨_, rfl, rfl, hn1.grow.trans hg2⟩
theorem reqMayQ_ok (a1 : Option Addr) (c1 : Nat) (a2 : Option Addr) (c2 : Nat) (a3 : Option Addr) (c3 : Nat) (w : World) (hr : (ruQ (.slice a1 1 c1) (.slice a2 1 c2) (.slice a3 0 c3)).Ok No w) : Fx Tryz.prog 97 [.agg (reqQ a1 c1 a2 c2 a3 c3).toArray] w (fun u w' => u = .bool true ∧ Grow w w') := by
  refine enter Tryz.func97 rfl rfl rfl _ (Pick.sub (l := [0]) (.cons rfl .nil)) ?_
  refine RK.seq ?_
  refine RK.region ?_
  refine RL.op (.free rfl) rfl rfl (Does.box rfl) ?_
  rintro _ w1 ⟨b1, rfl, hn1⟩
  have hB : Blk w1 b1 39 (reqQ a1 c1 a2 c2 a3 c3) := hn1.blk
  refine RL.p rfl rfl ?_
  refine RL.done ?_
  refine RK.seq ?_
  refine RK.region ?_
  refine RL.q (.free rfl) rfl rfl (Yld.fieldAddr fo39_1 rfl) ?_
  refine RL.q (.free rfl) rfl rfl (Yld.load p3 rfl (at1 (hB.cell rfl))) ?_
  refine RL.op (.free rfl) rfl rfl (Does.call rfl e98 (reqFields9_ok _)) ?_
  rintro _ _ ⟨rfl, rfl⟩
  iterate 5 refine RL.p rfl rfl ?_
  refine RL.done ?_
  refine RK.seq ?_
  refine RK.region ?_
  iterate 2 refine RL.p rfl rfl ?_
  refine RL.knownT (d := 12) rfl rfl (rfl) ?_
  refine RL.q (.yes rfl rfl rfl) rfl rfl (Yld.loadN (cs := reqQ a1 c1 a2 c2 a3 c3) a39 rfl (atN (blkV hB))) ?_
  refine RL.q (.yes rfl rfl rfl) rfl rfl (Yld.pure rfl) ?_
  refine RL.op (.yes rfl rfl rfl) rfl rfl (Does.call rfl e175 (reqZeroQ_ok a1 c1 a2 c2 a3 c3 _)) ?_
  rintro _ w2 ⟨rfl, hg2⟩
  iterate 2 refine RL.p rfl rfl ?_
  refine RL.knownT (d := 17) rfl rfl (rfl) ?_
  refine RL.q (.yes rfl rfl rfl) rfl rfl (Yld.loadN (cs := reqQ a1 c1 a2 c2 a3 c3) a39 rfl (atN (blkV (hB.mod hg2 (fun h => h))))) ?_
  refine RL.q (.yes rfl rfl rfl) rfl rfl (Yld.pure rfl) ?_
  refine RL.op (.yes rfl rfl rfl) rfl rfl (Does.call rfl e176 (reqRightQ_ok a1 c1 a2 c2 a3 c3 _ (hr.mod (Mod.any' (hn1.grow.trans hg2))))) ?_
  rintro _ w3 ⟨rfl, hg3⟩
  iterate 2 refine RL.p rfl rfl ?_
  refine RL.done ?_
  refine RK.ret_of Tryz.func97 (res1 rfl rfl) ?_ _
  exact ⟨_, rfl, rfl, (hn1.grow.trans hg2).trans hg3⟩
theorem bodySkipF_ok (f field : Int) (hz : IntKind.i64.wrap ((BitVec.ofInt IntKind.i64.bits f &&& BitVec.ofInt IntKind.i64.bits field).toNat : Int) = 0) (v : Value) {w : World} {b4 b3 : Nat} (h4 : Blk w b4 3 [.int .i64 f]) : Fx Tryz.prog 99 [.int .i64 field, v, pp b4, pp b3] w (fun u w' => w = w') := by
  refine enter Tryz.func99 rfl rfl rfl _ (Pick.sub (l := [0, 1, 2, 3]) (.cons rfl (.cons rfl (.cons rfl (.cons rfl .nil))))) ?_
  refine RK.seq ?_
  refine RK.region ?_
  refine RL.q (.free rfl) rfl rfl (Yld.load p3 rfl (at1 (h4.cell rfl))) ?_
  iterate 2 refine RL.p rfl rfl ?_
  refine RL.re (d := 8) rfl rfl (congrArg (Value.int .i64) hz) ?_
  refine RL.p rfl rfl ?_
  refine RL.done ?_
  refine RK.condF (hcF rfl (rfl)) ?_
  refine RK.skip ?_
  refine RK.end_of Tryz.func99 (res0 rfl) ?_
  exact ⟨_, rfl, rfl⟩
theorem bodyDo_ok (f field z : Int) (hz : IntKind.i64.wrap ((BitVec.ofInt IntKind.i64.bits f &&& BitVec.ofInt IntKind.i64.bits field).toNat : Int) = z) (h0 : 0 < z) (l x : Value) {w : World} {b4 b3 n m : Nat} {v : Value} {cs ds : List Value} (h4 : Blk w b4 3 [.int .i64 f]) (h3 : Blk w b3 43 [v]) (hv : Row w 5 1 v n cs) (hne : v.ownBlock ≠ some b3) (hl : Sl No w l 1 1 [x]) (hx : Sl No w x 1 m ds) (h1 : ds.all (·.oneCell') = true) (hb : n + m ≤ 100000) : Fx Tryz.prog 99 [.int .i64 field, l, pp b4, pp b3] w (fun u w' => ∃ v', Blk w' b3 43 [v'] ∧ Row w' 5 1 v' (n + m) (cs ++ ds) ∧ Mod (fun b => b = b3 ∨ v.ownBlock = some b) w w' ∧ (∀ b, v'.ownBlock = some b → v.ownBlock = some b ∨ w.heap.size ≤ b)) := by
  have hb3 := h3.lt
  have hdl : ds.length = m := by have := hx.len; omega
  have h3d := h3.mod (Mod.drew No _) (fun h => h)
  refine enter Tryz.func99 rfl rfl rfl _ (Pick.sub (l := [0, 1, 2, 3]) (.cons rfl (.cons rfl (.cons rfl (.cons rfl .nil))))) ?_
  refine RK.seq ?_
  refine RK.region ?_
  refine RL.q (.free rfl) rfl rfl (Yld.load p3 rfl (at1 (h4.cell rfl))) ?_
  iterate 2 refine RL.p rfl rfl ?_
  refine RL.re (d := 8) rfl rfl (congrArg (Value.int .i64) hz) ?_
  refine RL.p rfl rfl ?_
  refine RL.done ?_
  refine RK.condT (hcT rfl (decide_eq_true h0)) ?_
  refine RK.drawM (fun b => v.ownBlock = some b) [(0, false), (1, false), (2, true), (3, true), (4, true)] [4] mixed (by kernel_rfl) ?_
  refine DL.q rfl (.free rfl) rfl rfl rfl (Yld.load p43 rfl (atM (h3d.cell rfl) (fun e => hne e))) (Mod.drew _ _) ?_
  refine DL.p rfl rfl rfl ?_
  refine DL.op rfl (.free rfl) rfl rfl (Does.call rfl e100 (concatB_ok No [(x, ds)] _ _ (hl.mod (Mod.drew No _)) (by
      intro p hp
      simp only [List.mem_cons, List.not_mem_nil, or_false] at hp
      subst hp
      simp only [hdl]
      exact hx.mod (Mod.drew No _)) (by
      intro p hp
      simp only [List.mem_cons, List.not_mem_nil, or_false] at hp
      subst hp
      exact h1) (by simp [totalB]; omega))) ?_
  rintro u3 w3 ⟨hr3, hf3, hg3⟩
  refine ⟨(Mod.drew _ _).trans (Mod.any' hg3), ?_⟩
  simp only [List.flatMap_cons, List.flatMap_nil, List.append_nil, hdl] at hr3
  have hgd : Grow w w3 := (Mod.drew _ _).trans hg3
  refine DL.op rfl (.free rfl) rfl rfl (Does.append u43 i5 rfl rfl rfl rfl rfl (hv.mod hgd (fun _ _ h => h)) (Sl.own hr3 (fun _ _ h => h)) (h1) (by omega)) ?_
  rintro u4 w4 ⟨hr4, hm4, hu4⟩
  refine ⟨((Mod.drew _ _).trans (Mod.any' hg3)).trans hm4, ?_⟩
  have hz3 := hgd.size
  have hu4' : ∀ b, u4.ownBlock = some b → b ≠ b3 ∧ (v.ownBlock = some b ∨ w.heap.size ≤ b) := fun b e => by
      rcases hu4 with h | h
      · rw [h] at e; exact ⟨fun hh => hne (hh ▸ e), .inl e⟩
      · rw [h] at e; cases e; exact ⟨by omega, .inr (by omega)⟩
  obtain ⟨a4, c4, rfl⟩ := hr4.slice
  have hb34 := (h3.mod hgd (fun h => h)).mod hm4 (fun e => hne e)
  refine DL.opT rfl (.free rfl) rfl rfl (Does.store i43 rfl rfl rfl hb34 (.z)) ?_
  rintro _ w5 ⟨hb5, hm5, hs5⟩
  refine DL.done ?_
  refine RK.end_of Tryz.func99 (res0 rfl) ?_
  exact ⟨_, rfl, _, hb5, hr4.mod hm5 (fun b e1 e2 => (hu4' b e1).1 e2), ((Mod.any' hgd).trans (hm4.mono fun b _ h => .inr h)).trans (hm5.mono fun b _ h => .inl h), fun b e => (hu4' b e).2⟩
def bodyQ : List UInt8 := 9 :: rbQ
theorem bodyQ_ok (a1 : Option Addr) (c1 : Nat) (a2 : Option Addr) (c2 : Nat) (a3 : Option Addr) (c3 : Nat) (w : World) (hr : (ruQ (.slice a1 1 c1) (.slice a2 1 c2) (.slice a3 0 c3)).Ok No w) : Fx Tryz.prog 51 [.agg (reqQ a1 c1 a2 c2 a3 c3).toArray] w (fun u w' => ∃ g c, u = .slice (some g) 15 c ∧ Row w' 5 1 u 15 (bytesV bodyQ) ∧ Fresh w.heap.size u ∧ Grow w w') := by
  refine enter Tryz.func51 rfl rfl rfl _ (Pick.sub (l := [0]) (.cons rfl .nil)) ?_
  refine RK.seq ?_
  refine RK.region ?_
  refine RL.op (.free rfl) rfl rfl (Does.box rfl) ?_
  rintro _ w1 ⟨b1, rfl, hn1⟩
  have hB : Blk w1 b1 39 (reqQ a1 c1 a2 c2 a3 c3) := hn1.blk
  refine RL.p rfl rfl ?_
  refine RL.done ?_
  iterate 2 refine RK.seq ?_
  refine RK.region ?_
  refine RL.q (.free rfl) rfl rfl (Yld.loadN (cs := reqQ a1 c1 a2 c2 a3 c3) a39 rfl (atN (blkV hB))) ?_
  refine RL.op (.free rfl) rfl rfl (Does.call rfl e97 (reqMayQ_ok a1 c1 a2 c2 a3 c3 _ (hr.mod (Mod.any' hn1.grow)))) ?_
  rintro _ w2 ⟨rfl, hg2⟩
  have hB2 := hB.mod hg2 (fun h => h)
  refine RL.p rfl rfl ?_
  refine RL.done ?_
  refine RK.condF (hcF rfl (rfl)) ?_
  refine RK.skip ?_
  refine RK.seq ?_
  refine RK.region ?_
  refine RL.q (.free rfl) rfl rfl (Yld.fieldAddr fo39_1 rfl) ?_
  refine RL.q (.free rfl) rfl rfl (Yld.load p3 rfl (at1 (hB2.cell rfl))) ?_
  refine RL.q (.free rfl) rfl rfl (Yld.convI Tryz.underlying3 Tryz.underlying5 rfl) ?_
  refine RL.op (.free rfl) rfl rfl (Does.bslice (el := 5) ([.int .u8 9]) rfl (fun w => by kernel_rfl)) ?_
  rintro _ w5 ⟨b5, rfl, hn5⟩
  refine RL.op (.free rfl) rfl rfl (Does.alloc i43) ?_
  rintro _ w6 ⟨b6, rfl, hn6⟩
  have ha1 := hn1.at_
  have hz1 := hn1.size
  have hz2 := hg2.size
  have ha5 := hn5.at_
  have hz5 := hn5.size
  have ha6 := hn6.at_
  have hz6 := hn6.size
  refine RL.op' (.free rfl) rfl (Does.store i43 rfl rfl rfl hn6.blk (.z)) ?_
  rintro _ w7 ⟨hb7, hm7, hs7⟩
  have hg57 : Grow w2 w7 := (hn5.grow.trans hn6.grow).then hm7 (fun x hx e => by have e' : x = b6 := e; omega)
  have hB7 := hB2.mod hg57 (fun h => h)
  have hr7 : Row w7 5 1 (.slice (some ⟨b5, 0, none⟩) 1 1) 1 (bytesV [9]) := ((Row.new hn5 1 1 rfl (by omega)).mod hn6.grow (fun _ _ h => h)).mod hm7 (fun b e1 e2 => by simp [Value.ownBlock] at e1; have e' : b = b6 := e2; omega)
  refine RL.done ?_
  refine RK.seq ?_
  refine RK.region ?_
  refine RL.q (.free rfl) rfl rfl (Yld.fieldAddr fo39_1 rfl) ?_
  refine RL.q (.free rfl) rfl rfl (Yld.load p3 rfl (at1 (hB7.cell rfl))) ?_
  refine RL.op (.free rfl) rfl rfl (Does.call rfl e98 (reqFields9_ok _)) ?_
  rintro _ _ ⟨rfl, rfl⟩
  iterate 3 refine RL.p rfl rfl ?_
  refine RL.op (.free rfl) rfl rfl (Does.alloc i3) ?_
  rintro _ w8 ⟨b8, rfl, hn8⟩
  have ha8 := hn8.at_
  have hz8 := hn8.size
  refine RL.op' (.free rfl) rfl (Does.store i3 rfl rfl rfl hn8.blk (.z)) ?_
  rintro _ w9 ⟨hb9, hm9, hs9⟩
  have hg79 : Grow w7 w9 := hn8.grow.then hm9 (fun x hx e => by have e' : x = b8 := e; omega)
  have hG9 : Grow w9 w9 := Mod.refl _ _
  have hg09 : Grow w w9 := ((hn1.grow.trans hg2).trans hg57).trans hg79
  have hq9 := hB7.mod hg79 (fun h => h)
  have hbb9 := hb7.mod hg79 (fun h => h)
  have hrr9 := hr7.mod hg79 (fun _ _ h => h)
  have hff9 := hb9
  refine RL.p rfl rfl ?_
  refine RL.done ?_
  refine RK.seq ?_
  refine RK.region ?_
  iterate 2 refine RL.p rfl rfl ?_
  refine RL.done ?_
  refine RK.seq ?_
  refine RK.region ?_
  refine RL.p rfl rfl ?_
  refine RL.q (.free rfl) rfl rfl (Yld.fieldAddr fo39_2 rfl) ?_
  refine RL.q (.free rfl) rfl rfl (Yld.load p3 rfl (at1 ((hq9.mod hG9 (fun h => h)).cell rfl))) ?_
  refine RL.q (.free rfl) rfl rfl (Yld.convI Tryz.underlying3 Tryz.underlying24 rfl) ?_
  refine RL.op (.free rfl) rfl rfl (Does.call rfl e86 (vput_ok 0 (by decide) _)) ?_
  rintro u10 w10 ⟨hr10, _, hg10⟩
  obtain ⟨a10, k10, rfl⟩ := hr10.slice
  have hG10 := hG9.trans hg10
  refine RL.op (.free rfl) rfl rfl (Does.bslice (el := 43) ([.slice a10 (putB 0).length k10]) rfl (fun w => by kernel_rfl)) ?_
  rintro _ w11 ⟨b11, rfl, hn11⟩
  have hG11 := hG10.trans hn11.grow
  refine RL.op (.free rfl) rfl rfl (Does.callv rfl rfl e99 (bodySkipF_ok 128 1 (by decide) _ (hff9.mod hG11 (fun h => h)))) ?_
  rintro _ _ rfl
  refine RL.done ?_
  refine RK.seq ?_
  refine RK.region ?_
  refine RL.p rfl rfl ?_
  refine RL.q (.free rfl) rfl rfl (Yld.fieldAddr fo39_3 rfl) ?_
  refine RL.q (.free rfl) rfl rfl (Yld.load p9 rfl (at1 ((hq9.mod hG11 (fun h => h)).cell rfl))) ?_
  refine RL.op (.free rfl) rfl rfl (Does.call rfl e89 (putT_ok ⟨#[]⟩ (by decide) _)) ?_
  rintro u12 w12 ⟨hr12, _, hg12⟩
  obtain ⟨a12, k12, rfl⟩ := hr12.slice
  have hG12 := hG11.trans hg12
  refine RL.op (.free rfl) rfl rfl (Does.bslice (el := 43) ([.slice a12 (putT ⟨#[]⟩).length k12]) rfl (fun w => by kernel_rfl)) ?_
  rintro _ w13 ⟨b13, rfl, hn13⟩
  have hG13 := hG12.trans hn13.grow
  refine RL.op (.free rfl) rfl rfl (Does.callv rfl rfl e99 (bodySkipF_ok 128 2 (by decide) _ (hff9.mod hG13 (fun h => h)))) ?_
  rintro _ _ rfl
  have hBd := (hq9.mod hG13 (fun h => h)).mod (Mod.drew No _) (fun h => h)
  have hGd := hG13.trans (Mod.drew No _)
  refine RL.done ?_
  refine RK.seq ?_
  refine RK.drawM No [(0, false), (1, false), (2, false), (4, false), (5, false), (3, true), (6, true), (7, true), (8, true)] [] mixed (by kernel_rfl) ?_
  refine DL.p rfl rfl rfl ?_
  refine DL.qf rfl (.free rfl) rfl rfl (Yld.fieldAddr fo39_4 rfl) ?_
  refine DL.q rfl (.free rfl) rfl rfl rfl (Yld.load p24 rfl (atM (hBd.cell rfl) id)) (Mod.drew _ _) ?_
  refine DL.qf rfl (.free rfl) rfl rfl (Yld.fieldAddr fo39_5 rfl) ?_
  refine DL.q rfl (.free rfl) rfl rfl rfl (Yld.load p24 rfl (atM (hBd.cell rfl) id)) (Mod.drew _ _) ?_
  refine DL.op rfl (.free rfl) rfl rfl (Does.call rfl e86 (vput_ok 0 (by decide) _)) ?_
  rintro u14 w14 ⟨hr14, _, hg14⟩
  obtain ⟨a14, k14, rfl⟩ := hr14.slice
  have hG14 := hGd.trans hg14
  refine ⟨(Mod.drew _ _).trans hg14, ?_⟩
  refine DL.op rfl (.free rfl) rfl rfl (Does.call rfl e86 (vput_ok 0 (by decide) _)) ?_
  rintro u15 w15 ⟨hr15, _, hg15⟩
  obtain ⟨a15, k15, rfl⟩ := hr15.slice
  have hG15 := hG14.trans hg15
  refine ⟨((Mod.drew _ _).trans hg14).trans hg15, ?_⟩
  refine DL.op rfl (.free rfl) rfl rfl (Does.bslice (el := 43) ([.slice a14 (putB 0).length k14, .slice a15 (putB 0).length k15]) rfl (fun w => by kernel_rfl)) ?_
  rintro _ w16 ⟨b16, rfl, hn16⟩
  have hG16 := hG15.trans hn16.grow
  refine ⟨(((Mod.drew _ _).trans hg14).trans hg15).trans hn16.grow, ?_⟩
  refine DL.op rfl (.free rfl) rfl rfl (Does.callv rfl rfl e99 (bodySkipF_ok 128 4 (by decide) _ (hff9.mod hG16 (fun h => h)))) ?_
  rintro _ _ rfl
  refine ⟨(((Mod.drew _ _).trans hg14).trans hg15).trans hn16.grow, ?_⟩
  refine DL.done ?_
  refine RK.seq ?_
  refine RK.region ?_
  refine RL.p rfl rfl ?_
  refine RL.q (.free rfl) rfl rfl (Yld.fieldAddr fo39_6 rfl) ?_
  refine RL.q (.free rfl) rfl rfl (Yld.load p3 rfl (at1 ((hq9.mod hG16 (fun h => h)).cell rfl))) ?_
  refine RL.q (.free rfl) rfl rfl (Yld.convI Tryz.underlying3 Tryz.underlying5 rfl) ?_
  refine RL.op (.free rfl) rfl rfl (Does.bslice (el := 5) ([.int .u8 0]) rfl (fun w => by kernel_rfl)) ?_
  rintro _ w17 ⟨b17, rfl, hn17⟩
  have hG17 := hG16.trans hn17.grow
  refine RL.op (.free rfl) rfl rfl (Does.bslice (el := 43) ([.slice (some ⟨b17, 0, none⟩) 1 1]) rfl (fun w => by kernel_rfl)) ?_
  rintro _ w18 ⟨b18, rfl, hn18⟩
  have hG18 := hG17.trans hn18.grow
  refine RL.op (.free rfl) rfl rfl (Does.callv rfl rfl e99 (bodySkipF_ok 128 8 (by decide) _ (hff9.mod hG18 (fun h => h)))) ?_
  rintro _ _ rfl
  refine RL.done ?_
  refine RK.seq ?_
  refine RK.region ?_
  refine RL.p rfl rfl ?_
  refine RL.q (.free rfl) rfl rfl (Yld.fieldAddr fo39_7 rfl) ?_
  refine RL.q (.free rfl) rfl rfl (Yld.load p30 rfl (at1 ((hq9.mod hG18 (fun h => h)).cell rfl))) ?_
  refine RL.op (.free rfl) rfl rfl (Does.call rfl e101 (mBytes0_ok _)) ?_
  rintro u19 w19 ⟨hy19, hg19⟩
  obtain ⟨a19, k19, rfl⟩ := hy19.shape
  have hG19 := hG18.trans hg19
  refine RL.op (.free rfl) rfl rfl (Does.bslice (el := 43) ([.slice a19 1 k19]) rfl (fun w => by kernel_rfl)) ?_
  rintro _ w20 ⟨b20, rfl, hn20⟩
  have hG20 := hG19.trans hn20.grow
  refine RL.op (.free rfl) rfl rfl (Does.callv rfl rfl e99 (bodySkipF_ok 128 16 (by decide) _ (hff9.mod hG20 (fun h => h)))) ?_
  rintro _ _ rfl
  refine RL.done ?_
  refine RK.seq ?_
  refine RK.region ?_
  refine RL.p rfl rfl ?_
  refine RL.q (.free rfl) rfl rfl (Yld.fieldAddr fo39_8 rfl) ?_
  refine RL.q (.free rfl) rfl rfl (Yld.loadN (cs := band0) a33 rfl (atN (fldV (hq9.mod hG20 (fun h => h)) 8 3))) ?_
  refine RL.op (.free rfl) rfl rfl (Does.call rfl e102 (putBand0_ok _)) ?_
  rintro u21 w21 ⟨hy21, hg21⟩
  obtain ⟨a21, k21, rfl⟩ := hy21.shape
  have hG21 := hG20.trans hg21
  refine RL.op (.free rfl) rfl rfl (Does.bslice (el := 43) ([.slice a21 17 k21]) rfl (fun w => by kernel_rfl)) ?_
  rintro _ w22 ⟨b22, rfl, hn22⟩
  have hG22 := hG21.trans hn22.grow
  refine RL.op (.free rfl) rfl rfl (Does.callv rfl rfl e99 (bodySkipF_ok 128 64 (by decide) _ (hff9.mod hG22 (fun h => h)))) ?_
  rintro _ _ rfl
  refine RL.done ?_
  refine RK.seq ?_
  refine RK.region ?_
  refine RL.p rfl rfl ?_
  refine RL.q (.free rfl) rfl rfl (Yld.fieldAddr fo39_9 rfl) ?_
  refine RL.q (.free rfl) rfl rfl (Yld.loadN (cs := ruC (ruQ (.slice a1 1 c1) (.slice a2 1 c2) (.slice a3 0 c3))) a36 rfl (atN (fldV (hq9.mod hG22 (fun h => h)) 11 6))) ?_
  refine RL.op (.free rfl) rfl rfl (Does.call rfl e103 (ruleBytesQ_ok _ _ _ _ ((hr.mod (Mod.any' hg09)).mod (Mod.any' hG22)))) ?_
  rintro uR wR ⟨hrR, hfR, hgR⟩
  obtain ⟨aR, kR, rfl⟩ := hrR.slice
  have hG23 := hG22.trans hgR
  refine RL.op (.free rfl) rfl rfl (Does.bslice (el := 43) ([.slice aR 14 kR]) rfl (fun w => by kernel_rfl)) ?_
  rintro _ w24 ⟨b24, rfl, hn24⟩
  have hG24 := hG23.trans hn24.grow
  have hrR' := hrR.mod hn24.grow (fun _ _ h => h)
  refine RL.op (.free rfl) rfl rfl (Does.callv rfl rfl e99 (bodyDo_ok 128 128 128 (by decide) (by decide) _ (.slice aR 14 kR) (hff9.mod hG24 (fun h => h)) (hbb9.mod hG24 (fun h => h)) (hrr9.mod hG24 (fun _ _ h => h)) (fun e => by simp [Value.ownBlock] at e; omega) (Sl.new hn24 1 1 rfl (by decide) (fun h => h)) (Sl.own hrR' (fun _ _ h => h)) (bytesV_one _) (by decide))) ?_
  rintro _ wD ⟨vD, hbD, hrD, hmD, huD⟩
  have hzG := hG24.size
  have hqD := (hq9.mod hG24 (fun h => h)).mod hmD (fun e => by rcases e with e | e; omega; simp [Value.ownBlock] at e; omega)
  have hffD := (hff9.mod hG24 (fun h => h)).mod hmD (fun e => by rcases e with e | e; omega; simp [Value.ownBlock] at e; omega)
  have hg0D := (hg09.trans hG24).then hmD (fun x hx e => by rcases e with e | e; omega; simp [Value.ownBlock] at e; omega)
  have hGD : Grow wD wD := Mod.refl _ _
  have huD' : Fresh w.heap.size vD := fun b e => by
      rcases huD b e with e | e
      · simp [Value.ownBlock] at e; omega
      · have := hg09.size; omega
  refine RL.done ?_
  refine RK.seq ?_
  refine RK.region ?_
  refine RL.p rfl rfl ?_
  refine RL.q (.free rfl) rfl rfl (Yld.fieldAddr fo39_10 rfl) ?_
  refine RL.q (.free rfl) rfl rfl (Yld.load p37 rfl (at1 ((hqD.mod hGD (fun h => h)).cell rfl))) ?_
  refine RL.op (.free rfl) rfl rfl (Does.call rfl e104 (lBytes0_ok _)) ?_
  rintro u25 w25 ⟨hy25, hg25⟩
  obtain ⟨a25, k25, rfl⟩ := hy25.shape
  have hG25 := hGD.trans hg25
  refine RL.op (.free rfl) rfl rfl (Does.bslice (el := 43) ([.slice a25 0 k25]) rfl (fun w => by kernel_rfl)) ?_
  rintro _ w26 ⟨b26, rfl, hn26⟩
  have hG26 := hG25.trans hn26.grow
  refine RL.op (.free rfl) rfl rfl (Does.callv rfl rfl e99 (bodySkipF_ok 128 256 (by decide) _ (hffD.mod hG26 (fun h => h)))) ?_
  rintro _ _ rfl
  refine RL.done ?_
  refine RK.seq ?_
  refine RK.region ?_
  refine RL.p rfl rfl ?_
  refine RL.q (.free rfl) rfl rfl (Yld.fieldAddr fo39_11 rfl) ?_
  refine RL.q (.free rfl) rfl rfl (Yld.load p31 rfl (at1 ((hqD.mod hG26 (fun h => h)).cell rfl))) ?_
  refine RL.op (.free rfl) rfl rfl (Does.call rfl e106 (bits_ok 0 _)) ?_
  rintro _ _ ⟨rfl, rfl⟩
  refine RL.op (.free rfl) rfl rfl (Does.call rfl e105 (putW _ _)) ?_
  rintro u27 w27 ⟨hy27, hg27⟩
  obtain ⟨a27, k27, rfl⟩ := hy27.shape
  have hG27 := hG26.trans hg27
  refine RL.op (.free rfl) rfl rfl (Does.bslice (el := 43) ([.slice a27 8 k27]) rfl (fun w => by kernel_rfl)) ?_
  rintro _ w28 ⟨b28, rfl, hn28⟩
  have hG28 := hG27.trans hn28.grow
  refine RL.op (.free rfl) rfl rfl (Does.callv rfl rfl e99 (bodySkipF_ok 128 512 (by decide) _ (hffD.mod hG28 (fun h => h)))) ?_
  rintro _ _ rfl
  have hrE := hrD.mod hG28 (fun _ _ h => h)
  obtain ⟨aE, kE, rfl⟩ := hrE.slice
  obtain ⟨gE, rfl⟩ : ∃ g, aE = some g := by
      rcases hrE.2 with ⟨h, _⟩ | ⟨g, cap, cur, h, _⟩
      · cases h
      · cases h; exact ⟨_, rfl⟩
  refine RL.done ?_
  refine RK.seq ?_
  refine RK.region ?_
  refine RL.q (.free rfl) rfl rfl (Yld.load p43 rfl (at1 ((hbD.mod hG28 (fun h => h)).cell rfl))) ?_
  refine RL.p rfl rfl ?_
  refine RL.done ?_
  refine RK.ret_of Tryz.func51 (res1 rfl rfl) ?_ _
  exact ⟨_, rfl, gE, kE, rfl, hrE, huD', hg0D.trans hG28⟩
end Go.Proofs.YtnnmgfnhblbolaaGreatDoor
set_option linter.unusedVariables false
set_option linter.unusedSimpArgs false
set_option maxHeartbeats 6400000
set_option maxRecDepth 100000
namespace Go.Proofs.YtnnmgfnhblbolaaGreatDoor
open Go Go.X
theorem resCTT {P : Program} {n : Nat} {e : Env} {w : World} {fn : Func} {a t u u2 : Nat} (h : fn.results = #[.cell a t, .tmp u, .tmp u2]) {b : Nat} (ha : get e a = some (.pointer (some ⟨b, 0, none⟩))) {cs : List Value} (hT : Agg P t cs.length) {T : Nat} (hc : Blk w b T cs) {v v2 : Value} (hv : get e u = some v) (hv2 : get e u2 = some v2) : ∀ ac, Fits e n ac → (results fn ac.tmps).run P w = .ok (.tuple #[.agg cs.toArray, v, v2]) w := fun ac hac => by
  have h1 := hac.look a _ ha
  have h3 := hac.look u _ hv
  have h4 := hac.look u2 _ hv2
  rw [Array.getD_eq_getD_getElem?] at h1 h3 h4
  have h2 := loadVarN (P := P) (w := w) (b := b) (o := 0) hT (fun j v hj => by rw [Nat.zero_add]; exact hc.cell' hj)
  simp [results, h, h1, h3, h4, asAddr, h2]
theorem bQ_may : mayB bQ = true := by kernel_rfl
theorem mReadQ_ok (N : Nat) (bs t : List UInt8) (hbs : bs = 1 :: 1 :: 1 :: 97 :: 1 :: 49 :: t) (ad : Option Addr) (c : Nat) (w : World) (hv : Sl (N ≤ ·) w (.slice ad bs.length c) 1 bs.length (bytesV bs)) (hN : N ≤ w.heap.size) (hc : bs.length ≤ c) : Fx Tryz.prog 152 [.slice ad bs.length c] w (fun u w' => ∃ a k, u = .tuple #[.slice a 1 k, .int .i64 6, .bool true] ∧ Row w' 29 3 (.slice a 1 k) 1 (mtC mQ) ∧ Fresh w.heap.size (.slice a 1 k) ∧ Grow w w') := by
  have hd : ∀ i, bs.drop i = (1 :: 1 :: 1 :: 97 :: 1 :: 49 :: t : List UInt8).drop i := fun i => by rw [hbs]
  have hlen : bs.length = t.length + 6 := by rw [hbs]; rfl
  refine enter Tryz.func152 rfl rfl rfl _ (Pick.sub (l := [0]) (.cons rfl .nil)) ?_
  refine RK.seq ?_
  refine RK.region ?_
  iterate 3 refine RL.p rfl rfl ?_
  refine RL.done ?_
  refine RK.seq ?_
  refine RK.region ?_
  refine RL.p rfl rfl ?_
  refine RL.op (.free rfl) rfl rfl (Does.call rfl e77 (pnew_ok N _ ad c bs hv hN hc)) ?_
  rintro _ w1 ⟨p, rfl, hp, h1, hg1⟩
  refine RL.p rfl rfl ?_
  refine RL.done ?_
  refine RK.seq ?_
  refine RK.region ?_
  refine RL.p rfl rfl ?_
  refine RL.done ?_
  iterate 2 refine RK.seq ?_
  refine RK.region ?_
  refine RL.p rfl rfl ?_
  refine RL.op (.free rfl) rfl rfl (Does.call rfl e150 (numT_ok h1 1 (by decide) (1 :: 1 :: 97 :: 1 :: 49 :: t) (hd 0) 5 (by decide))) ?_
  rintro _ w2 ⟨rfl, h2, hm2⟩
  have hg2 : Grow w w2 := hg1.then hm2 (fun x hx e => by have e' : x = p := e; omega)
  refine RL.p rfl rfl ?_
  refine RL.done ?_
  refine RK.block ?_
  refine RK.loop (fun s : Nat × Value => [(5, pp p), (6, s.2), (12, .int .u64 1), (13, .int .u64 (s.1 : Int))]) (fun s w' => Grow w w' ∧ ((s.1 = 0 ∧ w2 = w' ∧ s.2 = .slice none 0 0) ∨ (s.1 = 1 ∧ Rd N w' p ad c bs 6 false ∧ Row w' 29 3 s.2 1 (mtC mQ) ∧ Fresh w.heap.size s.2))) (fun s => 1 - s.1) (0, .slice none 0 0) ⟨rfl, rfl, rfl, rfl, trivial⟩ ⟨hg2, .inl ⟨rfl, rfl, rfl⟩⟩ (fun s w' hI ih => ?_)
  obtain ⟨k, u0⟩ := s
  obtain ⟨hG0, hk⟩ := hI
  simp only at hk
  refine RK.seq ?_
  refine RK.region ?_
  refine RL.p rfl rfl ?_
  refine RL.done ?_
  refine RK.seq ?_
  first | refine RK.condD rfl (fun h14 => ?_) (fun h14 => ?_) | refine RK.condN rfl (fun h14 => ?_) (fun h14 => ?_) | refine RK.cond rfl (fun h14 => ?_) (fun h14 => ?_)
  · obtain ⟨rfl, rfl, rfl⟩ : k = 0 ∧ w2 = w' ∧ u0 = .slice none 0 0 := by
        rcases hk with h | h
        · exact h
        · simp only at h14; omega
    refine RK.skip ?_
    refine RK.seq ?_
    refine RK.block ?_
    refine RK.region ?_
    iterate 2 refine RL.p rfl rfl ?_
    refine RL.op (.free rfl) rfl rfl (Does.call rfl e149 (byteT_ok h2 1 (by decide) (1 :: 97 :: 1 :: 49 :: t) (hd 1))) ?_
    rintro _ w3 ⟨rfl, h3, hm3⟩
    refine RL.q (.free rfl) rfl rfl (Yld.convI Tryz.underlying5 Tryz.underlying3 rfl) ?_
    refine RL.p rfl rfl ?_
    refine RL.op (.free rfl) rfl rfl (Does.call rfl e78 (textT_ok h3 1 (by decide) (97 :: 1 :: 49 :: t) (hd 2) 12 (by decide) (by decide) (by simp))) ?_
    rintro _ w4 ⟨rfl, h4, hm4⟩
    refine RL.p rfl rfl ?_
    refine RL.op (.free rfl) rfl rfl (Does.call rfl e78 (textT_ok h4 1 (by decide) (49 :: t) (hd 4) 40 (by decide) (by decide) (by simp))) ?_
    rintro _ w5 ⟨rfl, h5, hm5⟩
    have hm25 : Mod (· = p) w2 w5 := (hm3.trans hm4).trans hm5
    have hg5 : Grow w w5 := hg2.then hm25 (fun x hx e => by have e' : x = p := e; omega)
    refine RL.q (.free rfl) rfl rfl (Yld.build (v := .agg (mtC mQ).toArray) rfl (fun w => by kernel_rfl)) ?_
    refine RL.op (.free rfl) rfl rfl (Does.slice1 u30 i29 rfl rfl rfl rfl rfl) ?_
    rintro _ w6 ⟨b6, rfl, hn6⟩
    refine RL.op (.free rfl) rfl rfl (Does.append u30 i29 rfl rfl rfl rfl rfl (Row.nil _ _ _) (Sl.new hn6 3 1 rfl (by decide) (fun h => h)) (rfl) (by decide)) ?_
    rintro u7 w7 ⟨hr7, hm7, hu7⟩
    have hg57 : Grow w5 w7 := hn6.grow.trans (hm7.mono (fun b _ e => by simp [Value.ownBlock] at e))
    have hz5 := hg5.size
    have hz6 := hn6.size
    have hf7 : Fresh w.heap.size u7 := fun b e => by
        rcases hu7 with h | h <;> rw [h] at e
        · simp [Value.ownBlock] at e
        · cases e; omega
    refine RL.p rfl rfl ?_
    refine RL.done ?_
    refine RK.inBlock ?_
    refine RK.region ?_
    refine RL.p rfl rfl ?_
    refine RL.re (d := 26) rfl rfl (congrArg (Value.int .u64) (by decide : _ = ((1 : Nat) : Int))) ?_
    refine RL.p rfl rfl ?_
    refine RL.done ?_
    exact RK.back (ih (1, u7) _ ⟨hg5.trans hg57, .inr ⟨rfl, h5.grow hg57, hr7, hf7⟩⟩ (by simp)) ⟨rfl, rfl, rfl, rfl, trivial⟩
  · obtain ⟨rfl, h6, hr6, hf6⟩ : k = 1 ∧ Rd N w' p ad c bs 6 false ∧ Row w' 29 3 u0 1 (mtC mQ) ∧ Fresh w.heap.size u0 := by
        rcases hk with h | h
        · simp only at h14; omega
        · exact h
    have hplt := h6.blk.lt
    refine RK.exit rfl ?_
    refine RK.seq ?_
    refine RK.region ?_
    iterate 2 refine RL.p rfl rfl ?_
    refine RL.op (.free rfl) rfl rfl (Does.call rfl e134 (matchList_ok No [mQ] _ _ (Sl.own hr6 (fun _ _ h => h)))) ?_
    rintro _ w7 ⟨rfl, hg7⟩
    rw [mQ_list]
    refine RL.op (.free rfl) rfl rfl (Does.call rfl e79 (refuseT_ok (h6.grow hg7))) ?_
    rintro _ w8 ⟨h8, hm8⟩
    refine RL.done ?_
    refine RK.seq ?_
    refine RK.region ?_
    refine RL.p rfl rfl ?_
    refine RL.op (.free rfl) rfl rfl (Does.call rfl e161 (endT_ok h8)) ?_
    rintro _ _ ⟨rfl, rfl⟩
    obtain ⟨a6, k6, rfl⟩ := hr6.slice
    iterate 5 refine RL.p rfl rfl ?_
    refine RL.done ?_
    iterate 2 refine RK.seq ?_
    refine RK.region ?_
    iterate 2 refine RL.p rfl rfl ?_
    refine RL.done ?_
    refine RK.condF (hcF rfl (rfl)) ?_
    refine RK.skip ?_
    refine RK.seq ?_
    refine RK.region ?_
    iterate 5 refine RL.p rfl rfl ?_
    refine RL.done ?_
    refine RK.ret_of Tryz.func152 (res3 rfl rfl rfl rfl) ?_ _
    exact ⟨_, rfl, a6, k6, rfl, (hr6.mod hg7 (fun _ _ h => h)).mod hm8 (fun b e1 e2 => (hr6.ty e1).ne h6.blk.ty rfl e2), hf6, (hG0.trans hg7).then hm8 (fun x hx e => by have e' : x = p := e; omega)⟩
theorem readBandQ_ok (N : Nat) (bs t : List UInt8) (hbs : bs = 1 :: t) (ad : Option Addr) (c : Nat) (w : World) (hv : Sl (N ≤ ·) w (.slice ad bs.length c) 1 bs.length (bytesV bs)) (hN : N ≤ w.heap.size) (hc : bs.length ≤ c) : Fx Tryz.prog 154 [.slice ad bs.length c] w (fun u w' => u = .tuple #[.agg (bdC bQ).toArray, .int .i64 1, .bool true] ∧ Grow w w') := by
  refine enter Tryz.func154 rfl rfl rfl _ (Pick.sub (l := [0]) (.cons rfl .nil)) ?_
  refine RK.seq ?_
  refine RK.region ?_
  refine RL.op (.free rfl) rfl rfl (Does.alloc i33) ?_
  rintro _ w1 ⟨b2, rfl, hn2⟩
  have ha2 := hn2.at_
  have hz2 := hn2.size
  iterate 2 refine RL.p rfl rfl ?_
  refine RL.done ?_
  refine RK.seq ?_
  refine RK.region ?_
  refine RL.p rfl rfl ?_
  refine RL.op (.free rfl) rfl rfl (Does.call rfl e77 (pnew_ok N _ ad c bs (hv.mod (Mod.any' hn2.grow)) (by omega) hc)) ?_
  rintro _ w2 ⟨p, rfl, hp, h2, hg2⟩
  have hz12 := hg2.size
  refine RL.p rfl rfl ?_
  refine RL.done ?_
  refine RK.seq ?_
  refine RK.region ?_
  refine RL.op (.free rfl) rfl rfl (Does.alloc i33) ?_
  rintro _ w3 ⟨b6, rfl, hn6⟩
  have ha6 := hn6.at_
  have hz6 := hn6.size
  have hplt := h2.blk.lt
  have hB6 : Blk w3 b6 33 [.bool false, .float .f64 0, .float .f64 0] := hn6.blk
  refine RL.done ?_
  iterate 2 refine RK.seq ?_
  refine RK.region ?_
  refine RL.p rfl rfl ?_
  refine RL.op (.free rfl) rfl rfl (Does.call rfl e149 (byteT_ok (h2.grow hn6.grow) 1 (by decide) t hbs)) ?_
  rintro _ w4 ⟨rfl, h4, hm4⟩
  have hB64 := hB6.mod hm4 (fun e => by have e' : b6 = p := e; omega)
  refine RL.done ?_
  refine RK.block ?_
  refine RK.seq ?_
  refine RK.region ?_
  iterate 2 refine RL.p rfl rfl ?_
  refine RL.done ?_
  refine RK.condF (hcF rfl (rfl)) ?_
  refine RK.seq ?_
  refine RK.region ?_
  iterate 2 refine RL.p rfl rfl ?_
  refine RL.done ?_
  refine RK.condT (hcT rfl (rfl)) ?_
  refine RK.region ?_
  refine RL.q (.free rfl) rfl rfl (Yld.fieldAddr fo33_0 rfl) ?_
  refine RL.op' (.free rfl) rfl (Does.store i4 rfl rfl rfl hB64 (.z)) ?_
  rintro _ w5 ⟨hb5, hm5, hs5⟩
  have hB5 : Blk w5 b6 33 (bdC bQ) := hb5
  have h5 := h4.mod hm5 (fun e => by have e' : p = b6 := e; omega) (fun b e => by have e' : b = b6 := e; omega)
  refine RL.done ?_
  refine RK.inBlock ?_
  refine RK.seq ?_
  refine RK.region ?_
  refine RL.p rfl rfl ?_
  refine RL.q (.free rfl) rfl rfl (Yld.loadN (cs := bdC bQ) a33 rfl (atN (blkV hB5))) ?_
  refine RL.op (.free rfl) rfl rfl (Does.call rfl e183 (may_ok bQ _)) ?_
  rintro _ w6 ⟨rfl, hg6⟩
  rw [bQ_may]
  refine RL.op (.free rfl) rfl rfl (Does.call rfl e79 (refuseT_ok (h5.grow hg6))) ?_
  rintro _ w7 ⟨h7, hm7⟩
  refine RL.done ?_
  refine RK.seq ?_
  refine RK.region ?_
  refine RL.p rfl rfl ?_
  refine RL.op (.free rfl) rfl rfl (Does.call rfl e161 (endT_ok h7)) ?_
  rintro _ _ ⟨rfl, rfl⟩
  have hB7 := (hB5.mod hg6 (fun h => h)).mod hm7 (fun e => by have e' : b6 = p := e; omega)
  have hM : Mod (fun b => b = p ∨ b = b6) w3 w7 := ((hm4.mono fun b _ e => .inl e).trans (hm5.mono fun b _ e => .inr e)).trans ((Mod.any' hg6).trans (hm7.mono fun b _ e => .inl e))
  have hG : Grow w w7 := ((hn2.grow.trans hg2).trans hn6.grow).then hM (fun x hx e => by rcases e with e | e <;> omega)
  have hB2 := ((hn2.blk.mod hg2 (fun h => h)).mod hn6.grow (fun h => h)).mod hM (fun e => by rcases e with e | e <;> omega)
  iterate 5 refine RL.p rfl rfl ?_
  refine RL.done ?_
  iterate 2 refine RK.seq ?_
  refine RK.region ?_
  iterate 2 refine RL.p rfl rfl ?_
  refine RL.done ?_
  refine RK.condF (hcF rfl (rfl)) ?_
  refine RK.skip ?_
  refine RK.seq ?_
  refine RK.region ?_
  refine RL.q (.free rfl) rfl rfl (Yld.loadN (cs := bdC bQ) a33 rfl (atN (blkV hB7))) ?_
  refine RL.p rfl rfl ?_
  refine RL.op' (.free rfl) rfl (Does.storeN i33 rfl rfl rfl rfl hB2 (Nat.le_refl 3)) ?_
  rintro _ w8 ⟨hb8, hm8, hs8⟩
  iterate 2 refine RL.p rfl rfl ?_
  refine RL.done ?_
  refine RK.ret_of Tryz.func154 (resCTT (cs := bdC bQ) rfl rfl a33 hb8 rfl rfl) ?_ _
  exact ⟨_, rfl, rfl, hG.then hm8 (fun x hx e => by have e' : x = b2 := e; omega)⟩
section
variable {N : Nat} {w : World} {p : Nat} {ad : Option Addr} {c : Nat} {bs : List UInt8} {i : Nat}
theorem ofM_ok (h : Rd N w p ad c bs i false) (t : List UInt8) (hd : bs.drop i = 1 :: 1 :: 1 :: 97 :: 1 :: 49 :: t) : Fx Tryz.prog 151 [pp p, .func (.func 152) #[] #[]] w (fun u w' => ∃ a k, u = .slice a 1 k ∧ Row w' 29 3 (.slice a 1 k) 1 (mtC mQ) ∧ Fresh w.heap.size (.slice a 1 k) ∧ Rd N w' p ad c bs (i + 6) false ∧ Mod (· = p) w w') := by
  have hplt := h.blk.lt
  have hpN := h.pN
  have hl : bs.length - i = (bs.drop i).length := by rw [List.length_drop]
  have hl2 : i + 6 ≤ bs.length := by have := congrArg List.length hd; rw [List.length_drop] at this; simp at this; have := h.le; omega
  refine enter Tryz.func151 rfl rfl rfl _ (Pick.sub (l := [0, 1]) (.cons rfl (.cons rfl .nil))) ?_
  refine RK.seq ?_
  refine RK.region ?_
  refine RL.p rfl rfl ?_
  refine RL.done ?_
  refine RK.seq ?_
  refine RK.region ?_
  iterate 2 refine RL.p rfl rfl ?_
  refine RL.op (.free rfl) rfl rfl (Does.call rfl e147 (rest_ok h)) ?_
  rintro _ w1 ⟨ad', c', rfl, hsl, hca, hg1⟩
  have hz1 := hg1.size
  rw [hl] at hsl hca
  rw [hl]
  refine RL.op (.free rfl) rfl rfl (Does.callv rfl rfl e152 (mReadQ_ok N (bs.drop i) t hd ad' c' _ hsl (by omega) hca)) ?_
  rintro _ w2 ⟨a, k, rfl, hr2, hf2, hg2⟩
  have hg02 := hg1.trans hg2
  iterate 7 refine RL.p rfl rfl ?_
  refine RL.done ?_
  iterate 2 refine RK.seq ?_
  refine RK.region ?_
  iterate 3 refine RL.p rfl rfl ?_
  refine RL.op (.free rfl) rfl rfl (Does.call rfl e148 (tookT_ok (h.grow hg02) 6 hl2)) ?_
  rintro _ w3 ⟨rfl, h3, hm3⟩
  refine RL.p rfl rfl ?_
  refine RL.done ?_
  refine RK.condF (hcF rfl (rfl)) ?_
  refine RK.skip ?_
  refine RK.seq ?_
  refine RK.region ?_
  iterate 2 refine RL.p rfl rfl ?_
  refine RL.done ?_
  refine RK.ret_of Tryz.func151 (res1 rfl rfl) ?_ _
  exact ⟨_, rfl, a, k, rfl, hr2.mod hm3 (fun b e1 e2 => (hr2.ty e1).ne (h.grow hg02).blk.ty rfl e2), fun b e => by have := hf2 b e; omega, h3, (Mod.any' hg02).trans hm3⟩
theorem ofB_ok (h : Rd N w p ad c bs i false) (t : List UInt8) (hd : bs.drop i = 1 :: t) : Fx Tryz.prog 153 [pp p, .func (.func 154) #[] #[]] w (fun u w' => u = .agg (bdC bQ).toArray ∧ Rd N w' p ad c bs (i + 1) false ∧ Mod (· = p) w w') := by
  have hplt := h.blk.lt
  have hpN := h.pN
  have hl : bs.length - i = (bs.drop i).length := by rw [List.length_drop]
  have hl2 : i + 1 ≤ bs.length := by have := congrArg List.length hd; rw [List.length_drop] at this; simp at this; have := h.le; omega
  refine enter Tryz.func153 rfl rfl rfl _ (Pick.sub (l := [0, 1]) (.cons rfl (.cons rfl .nil))) ?_
  refine RK.seq ?_
  refine RK.region ?_
  refine RL.op (.free rfl) rfl rfl (Does.alloc i33) ?_
  rintro _ w0 ⟨b4, rfl, hn4⟩
  have ha4 := hn4.at_
  have hz4 := hn4.size
  refine RL.done ?_
  refine RK.seq ?_
  refine RK.region ?_
  iterate 2 refine RL.p rfl rfl ?_
  refine RL.op (.free rfl) rfl rfl (Does.call rfl e147 (rest_ok (h.grow hn4.grow))) ?_
  rintro _ w1 ⟨ad', c', rfl, hsl, hca, hg1⟩
  have hz1 := hg1.size
  rw [hl] at hsl hca
  rw [hl]
  refine RL.op (.free rfl) rfl rfl (Does.callv rfl rfl e154 (readBandQ_ok N (bs.drop i) t hd ad' c' _ hsl (by omega) hca)) ?_
  rintro _ w2 ⟨rfl, hg2⟩
  have hz2 := hg2.size
  iterate 4 refine RL.p rfl rfl ?_
  refine RL.op (.free rfl) rfl rfl (Does.alloc i33) ?_
  rintro _ w3 ⟨b5, rfl, hn5⟩
  have ha5 := hn5.at_
  refine RL.op' (.free rfl) rfl (Does.storeN i33 rfl rfl rfl rfl hn5.blk (Nat.le_refl 3)) ?_
  rintro _ w4 ⟨hb4, hm4, hs4⟩
  have hB5 : Blk w4 b5 33 (bdC bQ) := hb4
  have hg14 : Grow w0 w4 := ((hg1.trans hg2).trans hn5.grow).then hm4 (fun x hx e => by have e' : x = b5 := e; omega)
  have hg04 := hn4.grow.trans hg14
  iterate 2 refine RL.p rfl rfl ?_
  refine RL.done ?_
  iterate 2 refine RK.seq ?_
  refine RK.region ?_
  iterate 3 refine RL.p rfl rfl ?_
  refine RL.op (.free rfl) rfl rfl (Does.call rfl e148 (tookT_ok (h.grow hg04) 1 hl2)) ?_
  rintro _ w5 ⟨rfl, h5, hm5⟩
  have hB4 := (hn4.blk.mod hg14 (fun h => h)).mod hm5 (fun e => by have e' : b4 = p := e; omega)
  refine RL.p rfl rfl ?_
  refine RL.done ?_
  refine RK.condF (hcF rfl (rfl)) ?_
  refine RK.skip ?_
  refine RK.seq ?_
  refine RK.region ?_
  refine RL.q (.free rfl) rfl rfl (Yld.loadN (cs := bdC bQ) a33 rfl (atN (blkV (hB5.mod hm5 (fun e => hB5.ty.ne (h.grow hg04).blk.ty rfl e))))) ?_
  refine RL.op' (.free rfl) rfl (Does.storeN i33 rfl rfl rfl rfl hB4 (Nat.le_refl 3)) ?_
  rintro _ w6 ⟨hb6, hm6, hs6⟩
  refine RL.done ?_
  refine RK.ret_of Tryz.func153 (resC (cs := bdC bQ) rfl rfl a33 hb6) ?_ _
  exact ⟨_, rfl, rfl, h5.mod hm6 (fun e => by have e' : p = b4 := e; omega) (fun b e => by have e' : b = b4 := e; omega), ((Mod.any' hg04).trans hm5).then hm6 (fun x hx e => by have e' : x = b4 := e; omega)⟩
end
end Go.Proofs.YtnnmgfnhblbolaaGreatDoor
