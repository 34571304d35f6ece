/- What the claim stands on, part 7. Of own lemmas only those that it reaches. -/
import Derived.Test.YtbcbfjnlnmhpbaaGreatKy6
set_option linter.unusedVariables false
set_option linter.unusedSimpArgs false
set_option maxHeartbeats 1600000
set_option maxRecDepth 100000
namespace Go.Proofs.YtbcbfjnlnmhpbaaGreat
open Go Go.X
theorem overlapsX (vs : Array Value) (w : World) : (callFunc 165 vs).run Tryz.prog w = ((Extern.SlicesOverlaps.overlaps #[153, 153] #[4] vs).run Tryz.prog w).andThen fun v w' => .ok (.value v) w' :=
  run_callFunc_extern Tryz.func165 (by kernel_rfl) (by kernel_rfl) (by kernel_rfl) (by kernel_rfl) vs w
theorem allOne_en (q : List En) : (q.flatMap enC).all (·.oneCell') = true := by
  rw [List.all_eq_true]
  intro u hu
  obtain ⟨a, _, hu⟩ := List.mem_flatMap.1 hu
  simp only [enC, List.mem_cons, List.not_mem_nil, or_false] at hu
  rcases hu with rfl | rfl <;> rfl
theorem slE {w : World} {b T : Nat} {e : En} (M : Nat → Prop) (h : Blk w b T (enC e)) (hM : ¬ M b) : Sl M w (.slice (some ⟨b, 0, none⟩) 1 1) 2 1 (enC e) :=
  ⟨rfl, by decide, _, _, rfl, fun _ => ⟨b, 0, rfl, hM, fun j u hj => by rw [Nat.zero_add]; exact h.cell' hj⟩⟩
theorem ins_cut {A E S X R : List Value} {a s : Nat} (hA : A.length = a * 2) (hE : E.length = 2) (hS : S.length = s * 2) (hX : X = A ++ R) :
    (X.take (a * 2) ++ E ++ X.drop ((a + 1) * 2)).take ((a + 1) * 2) ++ S = A ++ E ++ S := by
  subst hX
  have e1 : (A ++ R).take (a * 2) = A := by rw [← hA, List.take_left]
  rw [e1, List.take_append_of_le_length (by simp only [List.length_append]; omega), List.take_of_length_le (by simp only [List.length_append]; omega)]
theorem ins_put {A B E S R : List Value} {a s k : Nat} (hA : A.length = a * 2) (hB : B.length = (a + 1) * 2) (hE : E.length = 2) (hS : S.length = s * 2) (hAB : B.take (a * 2) = A) (hk : k = a + 1 + s) :
    ((B ++ S ++ R).take (a * 2) ++ E ++ (B ++ S ++ R).drop ((a + 1) * 2)).take (k * 2) = A ++ E ++ S := by
  have e1 : (B ++ S ++ R).take (a * 2) = A := by
    rw [List.append_assoc, List.take_append_of_le_length (by omega)]
    exact hAB
  have e2 : (B ++ S ++ R).drop ((a + 1) * 2) = S ++ R := by
    rw [List.append_assoc, ← hB, List.drop_left]
  rw [e1, e2, ← List.append_assoc, List.take_append_of_le_length (by simp only [List.length_append]; omega), List.take_of_length_le (by simp only [List.length_append]; omega)]
theorem insEnd_ok (q : List En) (e : En) (v : Value) (b2 : Nat) (w : World) (hv : Row w 164 2 v q.length (q.flatMap enC)) (hE : Blk w b2 164 (enC e)) (hb : q.length ≤ 1000000) :
    Fx Tryz.prog 137 [v, .int .i64 (q.length : Int), .slice (some ⟨b2, 0, none⟩) 1 1] w (fun u w' => Row w' 164 2 u (q.length + 1) ((q ++ [e]).flatMap enC) ∧ Mod (fun b => v.ownBlock = some b) w w' ∧ (u.ownBlock = v.ownBlock ∨ u.ownBlock = some w.heap.size)) := by
  obtain ⟨ad, c, rfl⟩ := hv.slice
  refine enter Tryz.func137 rfl rfl rfl _ (Pick.sub (l := [0, 1, 2]) (.cons rfl (.cons rfl (.cons rfl .nil)))) ?_
  refine RK.seq ?_
  refine RK.region ?_
  refine RL.p rfl rfl ?_
  refine RL.done ?_
  refine RK.seq ?_
  refine RK.region ?_
  iterate 2 refine RL.p rfl rfl ?_
  refine RL.q (.free rfl) rfl rfl (Yld.sliceFrom u153 i164 (m := q.length) rfl rfl (Nat.le_refl _)) ?_
  refine RL.done ?_
  refine RK.seq ?_
  refine RK.region ?_
  refine RL.p rfl rfl ?_
  refine RL.q (.free rfl) rfl rfl (Yld.lenSl u153 rfl) ?_
  refine RL.p rfl rfl ?_
  refine RL.done ?_
  iterate 2 refine RK.seq ?_
  refine RK.region ?_
  iterate 2 refine RL.p rfl rfl ?_
  refine RL.done ?_
  refine RK.condF (hcF rfl (rfl)) ?_
  refine RK.skip ?_
  refine RK.seq ?_
  refine RK.region ?_
  refine RL.p rfl rfl ?_
  refine RL.q (.free rfl) rfl rfl (Yld.lenSl u153 rfl) ?_
  refine RL.p rfl rfl ?_
  refine RL.done ?_
  iterate 2 refine RK.seq ?_
  refine RK.region ?_
  iterate 3 refine RL.p rfl rfl ?_
  refine RL.done ?_
  refine RK.condT (hcT rfl (decide_eq_true rfl)) ?_
  refine RK.seq ?_
  refine RK.region ?_
  iterate 2 refine RL.p rfl rfl ?_
  refine RL.op (.free rfl) rfl rfl (Does.append u153 i164 rfl rfl rfl rfl rfl (hv) (slE No hE (fun h => h)) (rfl) (by omega)) ?_
  rintro u3 w3 ⟨hr3, hm3, hu3⟩
  refine RL.p rfl rfl ?_
  refine RL.done ?_
  refine RK.ret_of Tryz.func137 (res1 rfl rfl) ?_ _
  exact ⟨_, rfl, by rw [List.flatMap_append, List.flatMap_singleton]; exact hr3, hm3, hu3⟩
theorem insMid_ok (q : List En) (e : En) (i : Nat) (v : Value) (b2 : Nat) (w : World) (hv : Row w 164 2 v q.length (q.flatMap enC)) (hE : Blk w b2 164 (enC e)) (hne : v.ownBlock ≠ some b2) (hi : i < q.length) (hb : q.length ≤ 1000000) :
    Fx Tryz.prog 137 [v, .int .i64 (i : Int), .slice (some ⟨b2, 0, none⟩) 1 1] w (fun u w' => Row w' 164 2 u (q.length + 1) ((q.take i ++ e :: q.drop i).flatMap enC) ∧ Mod (fun b => v.ownBlock = some b) w w' ∧ (u.ownBlock = v.ownBlock ∨ u.ownBlock = some w.heap.size)) := by
  obtain ⟨gb, cp, cs, rfl, hbk, hl, hkc, hcm, htk⟩ := hv.whole (by omega)
  have hmax : maxLen ≤ 9223372036854775807 := by decide
  have hgb2 : gb ≠ b2 := fun h => hne (by rw [h]; rfl)
  have hb2lt := hE.lt
  have hgblt := hbk.lt
  have hpre : cs.take (i * 2) = (q.take i).flatMap enC := by
    rw [← flat_take enC 2 enC_len, ← htk, List.take_take, Nat.min_eq_left (by omega)]
  have hsuf : (cs.drop (i * 2)).take ((q.length - i) * 2) = (q.drop i).flatMap enC := by
    rw [← flat_drop enC 2 enC_len, ← htk, List.drop_take]
    congr 1
    omega
  have hall : (q.take i ++ e :: q.drop i).flatMap enC = cs.take (i * 2) ++ enC e ++ (cs.drop (i * 2)).take ((q.length - i) * 2) := by
    rw [List.flatMap_append, List.flatMap_cons, hpre, hsuf, List.append_assoc]
  have hA : (cs.take (i * 2)).length = i * 2 := by rw [List.length_take, hl]; omega
  have hS : ((cs.drop (i * 2)).take ((q.length - i) * 2)).length = (q.length - i) * 2 := by rw [List.length_take, List.length_drop, hl]; omega
  have hone : ((cs.drop (i * 2)).take ((q.length - i) * 2)).all (·.oneCell') = true := by rw [hsuf]; exact allOne_en _
  have hk1 : i + (q.length + 1 - i) = q.length + 1 := by omega
  refine enter Tryz.func137 rfl rfl rfl _ (Pick.sub (l := [0, 1, 2]) (.cons rfl (.cons rfl (.cons rfl .nil)))) ?_
  refine RK.seq ?_
  refine RK.region ?_
  refine RL.p rfl rfl ?_
  refine RL.done ?_
  refine RK.seq ?_
  refine RK.region ?_
  iterate 2 refine RL.p rfl rfl ?_
  refine RL.q (.free rfl) rfl rfl (Yld.sliceFrom u153 i164 (m := i) rfl rfl (by omega)) ?_
  refine RL.done ?_
  refine RK.seq ?_
  refine RK.region ?_
  refine RL.p rfl rfl ?_
  refine RL.q (.free rfl) rfl rfl (Yld.lenSl u153 rfl) ?_
  refine RL.p rfl rfl ?_
  refine RL.done ?_
  iterate 2 refine RK.seq ?_
  refine RK.region ?_
  iterate 2 refine RL.p rfl rfl ?_
  refine RL.done ?_
  refine RK.condF (hcF rfl (rfl)) ?_
  refine RK.skip ?_
  refine RK.seq ?_
  refine RK.region ?_
  refine RL.p rfl rfl ?_
  refine RL.q (.free rfl) rfl rfl (Yld.lenSl u153 rfl) ?_
  refine RL.p rfl rfl ?_
  refine RL.done ?_
  iterate 2 refine RK.seq ?_
  refine RK.region ?_
  iterate 3 refine RL.p rfl rfl ?_
  refine RL.done ?_
  refine RK.condF (hcF rfl (decide_eq_false (by omega))) ?_
  refine RK.skip ?_
  iterate 2 refine RK.seq ?_
  refine RK.region ?_
  iterate 3 refine RL.p rfl rfl ?_
  refine RL.re (d := 28) rfl rfl (add_i64 (z := ((q.length + 1 : Nat) : Int)) (by simp) (by omega) (by omega)) ?_
  refine RL.p rfl rfl ?_
  refine RL.q (.free rfl) rfl rfl (Yld.capSl u153 rfl) ?_
  refine RL.p rfl rfl ?_
  refine RL.done ?_
  first | refine RK.condD rfl (fun h31 => ?_) (fun h31 => ?_) | refine RK.condN rfl (fun h31 => ?_) (fun h31 => ?_) | refine RK.cond rfl (fun h31 => ?_) (fun h31 => ?_)
  · refine RK.seq ?_
    refine RK.region ?_
    iterate 2 refine RL.p rfl rfl ?_
    refine RL.q (.free rfl) rfl rfl (Yld.sliceHi u153 i164 (m := i) rfl rfl (by omega)) ?_
    iterate 3 refine RL.p rfl rfl ?_
    refine RL.re (d := 37) rfl rfl (add_i64 (z := ((q.length + 1 : Nat) : Int)) (by simp) (by omega) (by omega)) ?_
    iterate 2 refine RL.p rfl rfl ?_
    refine RL.re (d := 39) rfl rfl (sub_i64 (z := ((q.length + 1 - i : Nat) : Int)) (by omega) (by omega) (by omega)) ?_
    refine RL.op (.free rfl) rfl rfl (Does.appendZG u153 Tryz.underlying3 i164 rfl rfl rfl (k := i) (m := q.length + 1 - i) rfl rfl (Sl.own (Row.shut hbk hl (by omega) hcm) (fun _ _ h => h)) (by omega) (by omega) (by omega)) ?_
    rintro _ w2 ⟨cp2, zs, rfl, hn2, hc1, hc2, hzs, hg2⟩
    rw [hk1] at hc1
    have hX1 : (cs.take (i * 2) ++ zs).length = cp2 * 2 := by rw [List.length_append, hA, hzs]; omega
    have hE2 : Blk w2 b2 164 (enC e) := hE.mod hg2 (fun h => h)
    refine RL.p rfl rfl ?_
    refine RL.done ?_
    refine RK.seq ?_
    refine RK.region ?_
    iterate 2 refine RL.p rfl rfl ?_
    refine RL.q (.free rfl) rfl rfl (Yld.sliceFrom u153 i164 (m := i) rfl rfl (by omega)) ?_
    refine RL.p rfl rfl ?_
    refine RL.op (.free rfl) rfl rfl (Does.copyG u153 i164 (lo := i) (cap := cp2) (m := 1) (L := 1) rfl rfl hn2.blk hX1 (slE No hE2 (fun h => h)) (by omega) (by omega) (by omega) rfl) ?_
    rintro _ w3 ⟨hb3, hm3, hs3⟩
    have hsz := hn2.blk.lt
    have hX2 : ((cs.take (i * 2) ++ zs).take (i * 2) ++ (enC e).take (1 * 2) ++ (cs.take (i * 2) ++ zs).drop ((i + 1) * 2)).length = cp2 * 2 := by simp only [List.length_append, List.length_take, List.length_drop, hA, hzs, enC_len]; omega
    refine RL.done ?_
    refine RK.seq ?_
    refine RK.drawM (· = w.heap.size) [(0, false), (1, false), (2, false), (3, false), (4, false), (5, false), (6, false), (7, false), (8, true)] [] mixed (by kernel_rfl) ?_
    iterate 4 refine DL.p rfl rfl rfl ?_
    refine DL.re (d := 49) rfl rfl (add_i64 (z := ((i + 1 : Nat) : Int)) (by simp) (by omega) (by omega)) ?_
    refine DL.qf rfl (.free rfl) rfl rfl (Yld.sliceFrom u153 i164 (m := i + 1) rfl rfl (by omega)) ?_
    have hg3 : Mod (· = w.heap.size) w w3 := (Mod.any' hg2).trans hm3
    have hbk3 : Blk w3.drew gb 164 cs := (hbk.mod hg3 (by omega)).mod (Mod.drew No _) (fun h => h)
    iterate 2 refine DL.p rfl rfl rfl ?_
    refine DL.qf rfl (.free rfl) rfl rfl (Yld.sliceFrom u153 i164 (m := i) rfl rfl (by omega)) ?_
    refine DL.op rfl (.free rfl) rfl rfl (Does.copyG u153 i164 (lo := i + 1) (cap := cp2) (m := q.length - i) (L := q.length - i) rfl rfl (hb3.mod (Mod.drew No _) (fun h => h)) hX2 (Sl.ofBlk hbk3 hl (by omega) (fun h => h) (by omega)) (by omega) (by omega) (by omega) (by rw [List.take_take, Nat.min_self]; exact hone)) ?_
    rintro _ w4 ⟨hb4, hm4, hs4⟩
    refine ⟨(Mod.drew _ _).trans hm4, ?_⟩
    refine DL.done ?_
    refine RK.seq ?_
    refine RK.region ?_
    iterate 2 refine RL.p rfl rfl ?_
    refine RL.done ?_
    refine RK.ret_of Tryz.func137 (res1 rfl rfl) ?_ _
    exact ⟨_, rfl, by
        have hR := Row.shut hb4 (sz := 2) (cap := cp2) (k := q.length + 1) (by simp only [List.length_append, List.length_take, List.length_drop, hA, hzs, enC_len, hS, hl]; omega) (by omega) hc2
        have hcut := ins_cut (A := cs.take (i * 2)) (E := (enC e).take (1 * 2)) (S := ((cs.drop (i * 2)).take ((q.length - i) * 2)).take ((q.length - i) * 2)) (X := cs.take (i * 2) ++ zs) (R := zs) (a := i) (s := q.length - i) hA rfl (by rw [List.take_take, Nat.min_self]; exact hS) rfl
        rw [hcut, List.take_append_of_le_length (by simp only [List.length_append, List.length_take, List.length_drop, hA, enC_len, hS, hl]; omega), List.take_of_length_le (by simp only [List.length_append, List.length_take, List.length_drop, hA, enC_len, hS, hl]; omega), List.take_take, Nat.min_self] at hR
        rw [hk1, hall]
        exact hR, ((hg3.trans (Mod.drew _ _)).trans hm4).mono (fun b hb e => absurd e (Nat.ne_of_lt hb)), .inr rfl⟩
  · have hcn : q.length + 1 ≤ cp := by omega
    refine RK.skip ?_
    refine RK.seq ?_
    refine RK.region ?_
    iterate 4 refine RL.p rfl rfl ?_
    refine RL.re (d := 59) rfl rfl (add_i64 (z := ((q.length + 1 : Nat) : Int)) (by simp) (by omega) (by omega)) ?_
    refine RL.q (.free rfl) rfl rfl (Yld.sliceHi u153 i164 (m := q.length + 1) rfl rfl (by omega)) ?_
    refine RL.p rfl rfl ?_
    refine RL.done ?_
    iterate 2 refine RK.seq ?_
    refine RK.region ?_
    iterate 5 refine RL.p rfl rfl ?_
    refine RL.re (d := 65) rfl rfl (add_i64 (z := ((i + 1 : Nat) : Int)) (by simp) (by omega) (by omega)) ?_
    refine RL.q (.free rfl) rfl rfl (Yld.sliceFrom u153 i164 (m := i + 1) rfl rfl (by omega)) ?_
    refine RL.op (.free rfl) rfl rfl (Does.overlapsNo u153 i164 overlapsX rfl (by split <;> rfl) hE hbk (fun h => hgb2 h.symm) (fun h => by rw [h] at hl; simp at hl; omega)) ?_
    rintro _ _ ⟨rfl, rfl⟩
    refine RL.p rfl rfl ?_
    refine RL.done ?_
    refine RK.condT (hcT rfl (rfl)) ?_
    refine RK.seq ?_
    refine RK.drawM (· = gb) [(0, false), (1, false), (2, false), (3, false), (4, false), (5, false), (6, false), (7, false), (8, true)] [] mixed (by kernel_rfl) ?_
    iterate 4 refine DL.p rfl rfl rfl ?_
    refine DL.re (d := 72) rfl rfl (add_i64 (z := ((i + 1 : Nat) : Int)) (by simp) (by omega) (by omega)) ?_
    refine DL.qf rfl (.free rfl) rfl rfl (Yld.sliceFrom u153 i164 (m := i + 1) rfl rfl (by omega)) ?_
    have hbkd : Blk w.drew gb 164 cs := hbk.mod (Mod.drew No _) (fun h => h)
    have htt : ((cs.drop (i * 2)).take ((q.length + 1 - i) * 2)).take ((q.length - i) * 2) = (cs.drop (i * 2)).take ((q.length - i) * 2) := by rw [List.take_take]; congr 1; omega
    iterate 2 refine DL.p rfl rfl rfl ?_
    refine DL.qf rfl (.free rfl) rfl rfl (Yld.sliceFrom u153 i164 (m := i) rfl rfl (by omega)) ?_
    refine DL.op rfl (.free rfl) rfl rfl (Does.copyG u153 i164 (lo := i + 1) (cap := cp) (m := q.length - i) (L := q.length + 1 - i) rfl rfl hbkd hl (Sl.ofBlk hbkd hl (by omega) (fun h => h) (by omega)) (by omega) (by omega) (by omega) (by rw [htt]; exact hone)) ?_
    rintro _ w4 ⟨hb4, hm4, hs4⟩
    refine ⟨(Mod.drew _ _).trans hm4, ?_⟩
    rw [htt] at hb4
    have hm04 : Mod (· = gb) w w4 := (Mod.drew _ _).trans hm4
    have hE4 : Blk w4 b2 164 (enC e) := hE.mod hm04 (fun h => hgb2 h.symm)
    have hB : (cs.take ((i + 1) * 2)).length = (i + 1) * 2 := by rw [List.length_take, hl]; omega
    have hX4 : (cs.take ((i + 1) * 2) ++ (cs.drop (i * 2)).take ((q.length - i) * 2) ++ cs.drop ((i + 1 + (q.length - i)) * 2)).length = cp * 2 := by simp only [List.length_append, hS, hB, List.length_drop, hl]; omega
    refine DL.done ?_
    refine RK.seq ?_
    refine RK.region ?_
    iterate 2 refine RL.p rfl rfl ?_
    refine RL.q (.free rfl) rfl rfl (Yld.sliceFrom u153 i164 (m := i) rfl rfl (by omega)) ?_
    refine RL.p rfl rfl ?_
    refine RL.op (.free rfl) rfl rfl (Does.copyG u153 i164 (lo := i) (cap := cp) (m := 1) (L := 1) rfl rfl hb4 hX4 (slE No hE4 (fun h => h)) (by omega) (by omega) (by omega) rfl) ?_
    rintro _ w5 ⟨hb5, hm5, hs5⟩
    refine RL.done ?_
    refine RK.seq ?_
    refine RK.region ?_
    iterate 2 refine RL.p rfl rfl ?_
    refine RL.done ?_
    refine RK.ret_of Tryz.func137 (res1 rfl rfl) ?_ _
    exact ⟨_, rfl, by
        have hR := Row.shut hb5 (sz := 2) (cap := cp) (k := q.length + 1) (by simp only [List.length_append, List.length_take, List.length_drop, hS, hB, hA, enC_len, hl]; omega) (by omega) hcm
        have hcut := ins_put (A := cs.take (i * 2)) (B := cs.take ((i + 1) * 2)) (E := enC e) (S := (cs.drop (i * 2)).take ((q.length - i) * 2)) (R := cs.drop ((i + 1 + (q.length - i)) * 2)) (a := i) (s := q.length - i) (k := q.length + 1) hA hB rfl hS (by rw [List.take_take]; congr 1; omega) (by omega)
        rw [show (enC e).take (1 * 2) = enC e from rfl, hcut] at hR
        rw [hall]
        exact hR, (hm04.trans hm5).mono (fun b _ e => by rw [e]; rfl), .inl rfl⟩
end Go.Proofs.YtbcbfjnlnmhpbaaGreat
set_option linter.unusedVariables false
set_option linter.unusedSimpArgs false
set_option maxHeartbeats 1600000
set_option maxRecDepth 100000
namespace Go.Proofs.YtbcbfjnlnmhpbaaGreat
open Go Go.X
theorem insE_ok (q : List En) (e : En) (i : Nat) (v : Value) (b2 : Nat) (w : World) (hv : Row w 164 2 v q.length (q.flatMap enC)) (hE : Blk w b2 164 (enC e)) (hne : v.ownBlock ≠ some b2) (hi : i ≤ q.length) (hb : q.length ≤ 1000000) :
    Fx Tryz.prog 137 [v, .int .i64 (i : Int), .slice (some ⟨b2, 0, none⟩) 1 1] w (fun u w' => Row w' 164 2 u (q.length + 1) ((q.take i ++ e :: q.drop i).flatMap enC) ∧ Mod (fun b => v.ownBlock = some b) w w' ∧ (u.ownBlock = v.ownBlock ∨ u.ownBlock = some w.heap.size)) := by
  by_cases h : i < q.length
  · exact insMid_ok q e i v b2 w hv hE hne h hb
  · obtain rfl : i = q.length := by omega
    have h1 := insEnd_ok q e v b2 w hv hE hb
    rw [List.take_of_length_le (Nat.le_refl _), List.drop_of_length_le (Nat.le_refl _)]
    exact h1
theorem deleteE_ok (q : List En) (i : Nat) (v : Value) (w : World) (hv : Row w 164 2 v q.length (q.flatMap enC)) (hi : i < q.length) (hb : q.length ≤ 1000000) :
    Fx Tryz.prog 107 [v, .int .i64 (i : Int), .int .i64 ((i + 1 : Nat) : Int)] w (fun u w' => Row w' 164 2 u (q.eraseIdx i).length ((q.eraseIdx i).flatMap enC) ∧ u.ownBlock = v.ownBlock ∧ Mod (fun b => v.ownBlock = some b) w w') := by
  obtain ⟨gb, cp, cs, rfl, hbk, hl, hkc, hcm, htk⟩ := hv.whole (by omega)
  have hmax : maxLen ≤ 9223372036854775807 := by decide
  have hnews : (cs.drop ((i + 1) * 2)).take ((q.length - (i + 1)) * 2) = (q.drop (i + 1)).flatMap enC := by
    rw [← flat_drop enC 2 enC_len, ← htk, List.drop_take]
    congr 1
    omega
  have hpre : cs.take (i * 2) = (q.take i).flatMap enC := by
    rw [← flat_take enC 2 enC_len, ← htk, List.take_take, Nat.min_eq_left (by omega)]
  have herase : (q.take i).flatMap enC ++ (q.drop (i + 1)).flatMap enC = (q.eraseIdx i).flatMap enC := by
    rw [List.eraseIdx_eq_take_drop_succ, List.flatMap_append]
  have hlen : (q.eraseIdx i).length = i + (q.length - (i + 1)) := by rw [List.length_eraseIdx]; simp [hi]; omega
  have hone : ((cs.drop ((i + 1) * 2)).take ((q.length - (i + 1)) * 2)).all (·.oneCell') = true := by
    rw [hnews]
    exact allOne_en _
  have hbd : ∀ w', Grow w w' → Blk w' gb 164 cs := fun w' h => hbk.mod h (fun h => h)
  refine enter Tryz.func107 rfl rfl rfl _ (Pick.sub (l := [0, 1, 2]) (.cons rfl (.cons rfl (.cons rfl .nil)))) ?_
  refine RK.seq ?_
  refine RK.region ?_
  refine RL.p rfl rfl ?_
  refine RL.done ?_
  refine RK.seq ?_
  refine RK.region ?_
  iterate 4 refine RL.p rfl rfl ?_
  refine RL.q (.free rfl) rfl rfl (Yld.lenSl u153 rfl) ?_
  refine RL.q (.free rfl) rfl rfl (Yld.slice3 u153 i164 (lo := i) (hi := i + 1) (mx := q.length) rfl rfl rfl rfl (by omega) (by omega) hkc) ?_
  refine RL.done ?_
  iterate 2 refine RK.seq ?_
  refine RK.region ?_
  iterate 3 refine RL.p rfl rfl ?_
  refine RL.done ?_
  refine RK.condF (hcF rfl (decide_eq_false (by omega))) ?_
  refine RK.skip ?_
  refine RK.seq ?_
  refine RK.region ?_
  refine RL.p rfl rfl ?_
  refine RL.q (.free rfl) rfl rfl (Yld.lenSl u153 rfl) ?_
  refine RL.p rfl rfl ?_
  refine RL.done ?_
  refine RK.seq ?_
  refine RK.drawM (· = gb) [(0, false), (1, false), (2, false), (3, false), (4, false), (5, false), (6, true), (7, false)] [] mixed (by kernel_rfl) ?_
  iterate 2 refine DL.p rfl rfl rfl ?_
  refine DL.qf rfl (.free rfl) rfl rfl (Yld.sliceHi u153 i164 (m := i) rfl rfl (by omega)) ?_
  iterate 2 refine DL.p rfl rfl rfl ?_
  refine DL.qf rfl (.free rfl) rfl rfl (Yld.sliceFrom u153 i164 (m := i + 1) rfl rfl (by omega)) ?_
  refine DL.op rfl (.free rfl) rfl rfl (Does.appendIn u153 i164 (m := q.length - (i + 1)) rfl rfl (hbd _ (Mod.drew No _)) hl (Sl.ofBlk (hbd _ (Mod.drew No _)) hl (by omega) (fun h => h) (by omega)) hone (by omega)) ?_
  rintro _ w3 ⟨rfl, ⟨cs3, hb3, hl3, ht3⟩, hm3, hs3⟩
  refine ⟨(Mod.drew _ _).trans hm3, ?_⟩
  refine DL.p rfl rfl rfl ?_
  refine DL.done ?_
  refine RK.seq ?_
  refine RK.region ?_
  iterate 2 refine RL.p rfl rfl ?_
  refine RL.q (.free rfl) rfl rfl (Yld.lenSl u153 rfl) ?_
  refine RL.p rfl rfl ?_
  refine RL.q (.free rfl) rfl rfl (Yld.sliceLH u153 i164 (lo := i + (q.length - (i + 1))) (hi := q.length) rfl rfl rfl (by omega) (by omega)) ?_
  refine RL.op' (.free rfl) rfl (Does.clear u153 i164 (cap := cp) (lo := i + (q.length - (i + 1))) (m := q.length - (i + (q.length - (i + 1)))) rfl (by simp [Value.cells, Value.oneCell']) rfl hb3 (by rw [hl3, hl]) (by omega)) ?_
  rintro _ w4 ⟨⟨cs4, hb4, hl4, ht4⟩, hm4, hs4⟩
  refine RL.done ?_
  refine RK.seq ?_
  refine RK.region ?_
  iterate 2 refine RL.p rfl rfl ?_
  refine RL.done ?_
  refine RK.ret_of Tryz.func107 (res1 rfl rfl) ?_ _
  exact ⟨_, rfl, by
      rw [ht3, hpre, hnews, herase] at ht4
      rw [← ht4, hlen]
      exact Row.shut hb4 (by rw [hl4, hl3, hl]) (by omega) hcm, rfl, (((Mod.drew _ _).trans hm3).trans hm4).mono fun b _ e => congrArg some e.symm⟩
theorem placeE1_ok (w : World) (b : Nat) (id : Int) (hb : Blk w b 3 [.int .i64 id]) (x : En) : Fx Tryz.prog 198 [.agg (enC x).toArray, pp b] w (fun u w' => u = .bool (decide (x.id = id)) ∧ Grow w w') := by
  refine enter Tryz.func198 rfl rfl rfl _ (Pick.sub (l := [0, 1]) (.cons rfl (.cons rfl .nil))) ?_
  refine RK.seq ?_
  refine RK.region ?_
  refine RL.op (.free rfl) rfl rfl (Does.box rfl) ?_
  rintro _ w1 ⟨bx, rfl, hbx⟩
  refine RL.p rfl rfl ?_
  refine RL.done ?_
  refine RK.seq ?_
  refine RK.region ?_
  refine RL.q (.free rfl) rfl rfl (Yld.fieldAddr fo164_1 rfl) ?_
  refine RL.q (.free rfl) rfl rfl (Yld.load p3 rfl (at1 (hbx.blk.cell rfl))) ?_
  refine RL.q (.free rfl) rfl rfl (Yld.load p3 rfl (at1 ((hb.mod hbx.grow (fun h => h)).cell rfl))) ?_
  iterate 2 refine RL.p rfl rfl ?_
  refine RL.done ?_
  refine RK.ret_of Tryz.func198 (res1 rfl rfl) ?_ _
  exact ⟨_, rfl, rfl, hbx.grow⟩
theorem ixE_ok (q : List En) (v : Value) (id : Int) (b4 : Nat) (w : World) (hv : Sl No w v 2 q.length (q.flatMap enC)) (hb : Blk w b4 3 [.int .i64 id]) :
    Fx Tryz.prog 197 [v, .func (.func 198) #[] #[pp b4]] w (fun u w' => u = .int .i64 (optI (q.findIdx? fun x => decide (x.id = id))) ∧ Grow w w') := by
  obtain ⟨ad, c, rfl⟩ := hv.shape
  have hbig := hv.big
  refine enter Tryz.func197 rfl rfl rfl _ (Pick.sub (l := [0, 1]) (.cons rfl (.cons rfl .nil))) ?_
  refine RK.seq ?_
  refine RK.region ?_
  refine RL.p rfl rfl ?_
  refine RL.done ?_
  iterate 2 refine RK.seq ?_
  refine RK.region ?_
  refine RL.p rfl rfl ?_
  refine RL.q (.free rfl) rfl rfl (Yld.lenSl u153 rfl) ?_
  refine RL.p rfl rfl ?_
  refine RL.done ?_
  refine RK.block ?_
  refine RK.loop (fun k : Nat => [(0, .slice ad q.length c), (1, .func (.func 198) #[] #[pp b4]), (7, .int .i64 q.length), (8, .int .i64 k)]) (fun k w' => Grow w w' ∧ k ≤ q.length ∧ ∀ (i : Nat) (a : En), i < k → q[i]? = some a → a.id ≠ id) (fun k => q.length - k) 0 ⟨rfl, rfl, rfl, rfl, trivial⟩ ⟨Mod.refl _ _, by omega, fun i a h => by omega⟩ (fun k w' hI ih => ?_)
  obtain ⟨hg, hk, hno⟩ := hI
  refine RK.seq ?_
  refine RK.region ?_
  refine RL.p rfl rfl ?_
  refine RL.done ?_
  refine RK.seq ?_
  first | refine RK.condD rfl (fun h9 => ?_) (fun h9 => ?_) | refine RK.condN rfl (fun h9 => ?_) (fun h9 => ?_) | refine RK.cond rfl (fun h9 => ?_) (fun h9 => ?_)
  · obtain ⟨x, hx⟩ : ∃ x, q[k]? = some x := ⟨q[k]'(by omega), List.getElem?_eq_getElem (by omega)⟩
    obtain ⟨b1, o1, c1', he1, _, _, hc1⟩ := hv.elem enC_len hx
    cases he1
    refine RK.skip ?_
    refine RK.seq ?_
    refine RK.block ?_
    refine RK.seq ?_
    refine RK.region ?_
    iterate 2 refine RL.p rfl rfl ?_
    refine RL.done ?_
    refine RK.seq ?_
    refine RK.region ?_
    iterate 3 refine RL.p rfl rfl ?_
    refine RL.q (.free rfl) rfl rfl (Yld.indexAddrN u153 i164 rfl rfl (by omega)) ?_
    refine RL.q (.free rfl) rfl rfl (Yld.loadN (cs := enC x) a164 rfl (atN (fun j u hj => hg.cell (hc1 j u hj) (fun h => h)))) ?_
    refine RL.op (.free rfl) rfl rfl (Does.callv rfl rfl e198 (placeE1_ok _ b4 id (hb.mod hg (fun h => h)) x)) ?_
    rintro _ w2 ⟨rfl, hg2⟩
    refine RL.done ?_
    first | refine RK.condD rfl (fun h16 => ?_) (fun h16 => ?_) | refine RK.condN rfl (fun h16 => ?_) (fun h16 => ?_) | refine RK.cond rfl (fun h16 => ?_) (fun h16 => ?_)
    · refine RK.seq ?_
      refine RK.region ?_
      iterate 2 refine RL.p rfl rfl ?_
      refine RL.done ?_
      refine RK.ret_of Tryz.func197 (res1 rfl rfl) ?_ _
      exact ⟨_, rfl, congrArg _ (by
          have : q.findIdx? (fun x => decide (x.id = id)) = some k := by
            rw [List.findIdx?_eq_some_iff_getElem]
            refine ⟨by omega, ?_, fun j hj => ?_⟩
            · simp [(List.getElem?_eq_some_iff.1 hx).2, h16]
            · simpa using hno j (q[j]'(by omega)) hj (List.getElem?_eq_getElem (by omega))
          rw [this]; rfl), hg.trans hg2⟩
    · refine RK.skip ?_
      refine RK.inBlock ?_
      refine RK.region ?_
      refine RL.p rfl rfl ?_
      refine RL.re (d := 18) rfl rfl (succ_i64 (by omega)) ?_
      refine RL.p rfl rfl ?_
      refine RL.done ?_
      exact RK.back (ih (k + 1) _ ⟨hg.trans hg2, by omega, fun i a' hi ha' => by by_cases e : i = k; (subst e; rw [hx] at ha'; cases ha'; exact h16); exact hno i a' (by omega) ha'⟩ (by omega)) ⟨rfl, rfl, rfl, rfl, trivial⟩
  · refine RK.exit rfl ?_
    refine RK.seq ?_
    refine RK.region ?_
    refine RL.p rfl rfl ?_
    refine RL.done ?_
    refine RK.ret_of Tryz.func197 (res1 rfl rfl) ?_ _
    exact ⟨_, rfl, congrArg _ (by
        have : q.findIdx? (fun x => decide (x.id = id)) = none := by
          rw [List.findIdx?_eq_none_iff]
          intro x hx
          obtain ⟨i, hi⟩ := List.getElem?_of_mem hx
          have hil := (List.getElem?_eq_some_iff.1 hi).1
          simpa using hno i x (by omega) hi
        rw [this]; rfl), hg⟩
structure QAt (w : World) (p : Nat) (q : List En) (v : Value) : Prop where
  blk : Blk w p 155 [v]
  row : Row w 164 2 v q.length (q.flatMap enC)
  ne : v.ownBlock ≠ some p
theorem QAt.mod {M : Nat → Prop} {w w' : World} {p : Nat} {q : List En} {v : Value} (h : QAt w p q v) (hm : Mod M w w') (hp : ¬ M p) (hv : ∀ b, v.ownBlock = some b → ¬ M b) : QAt w' p q v := ⟨h.blk.mod hm hp, h.row.mod hm hv, h.ne⟩
theorem QAt.grow {w w' : World} {p : Nat} {q : List En} {v : Value} (h : QAt w p q v) (hm : Grow w w') : QAt w' p q v := h.mod hm (fun h => h) (fun _ _ h => h)
theorem reapNew_ok (w : World) : Fx Tryz.prog 44 [] w (fun u w' => ∃ p, u = pp p ∧ p = w.heap.size ∧ QAt w' p [] (.slice none 0 0) ∧ Grow w w' ∧ w'.heap.size = w.heap.size + 1) := by
  refine enter Tryz.func44 rfl rfl rfl _ (Pick.sub (l := []) .nil) ?_
  refine RK.seq ?_
  refine RK.region ?_
  refine RL.p rfl rfl ?_
  refine RL.done ?_
  refine RK.seq ?_
  refine RK.region ?_
  refine RL.q (.free rfl) rfl rfl (Yld.build (v := .agg #[.slice none 0 0]) rfl (fun w => by kernel_rfl)) ?_
  refine RL.op (.free rfl) rfl rfl (Does.box rfl) ?_
  rintro _ w1 ⟨b1, rfl, hn1⟩
  refine RL.p rfl rfl ?_
  refine RL.done ?_
  refine RK.ret_of Tryz.func44 (res1 rfl rfl) ?_ _
  exact ⟨_, rfl, b1, rfl, hn1.at_, ⟨hn1.blk, Row.nil _ _ _, by simp [Value.ownBlock]⟩, hn1.grow, hn1.size⟩
theorem place_ok (w : World) (p : Nat) (q : List En) (v : Value) (h : QAt w p q v) (id : Int) :
    Fx Tryz.prog 163 [pp p, .int .i64 id] w (fun u w' => u = .int .i64 (optI (q.findIdx? fun x => decide (x.id = id))) ∧ Grow w w') := by
  refine enter Tryz.func163 rfl rfl rfl _ (Pick.sub (l := [0, 1]) (.cons rfl (.cons rfl .nil))) ?_
  refine RK.seq ?_
  refine RK.region ?_
  refine RL.op (.free rfl) rfl rfl (Does.box rfl) ?_
  rintro _ w1 ⟨b3, rfl, hn3⟩
  refine RL.p rfl rfl ?_
  refine RL.done ?_
  refine RK.seq ?_
  refine RK.region ?_
  iterate 2 refine RL.p rfl rfl ?_
  refine RL.q (.free rfl) rfl rfl (Yld.fieldAddr fo155_0 rfl) ?_
  refine RL.q (.free rfl) rfl rfl (Yld.load p153 rfl (at1 ((h.blk.mod hn3.grow (fun h => h)).cell rfl))) ?_
  refine RL.p rfl rfl ?_
  refine RL.op (.free rfl) rfl rfl (Does.call rfl e197 (ixE_ok q v id b3 _ (Sl.own (h.row.mod hn3.grow (fun _ _ h => h)) (fun _ _ h => h)) hn3.blk)) ?_
  rintro _ w2 ⟨rfl, hg2⟩
  refine RL.p rfl rfl ?_
  refine RL.done ?_
  refine RK.ret_of Tryz.func163 (res1 rfl rfl) ?_ _
  exact ⟨_, rfl, rfl, hn3.grow.trans hg2⟩
def dropE (q : List En) (id : Int) : List En := q.eraseP fun x => decide (x.id = id)
theorem reapDrop_ok (w : World) (p : Nat) (q : List En) (v : Value) (h : QAt w p q v) (id : Int) (hb : q.length ≤ 1000000) :
    Fx Tryz.prog 134 [pp p, .int .i64 id] w (fun u w' => (∃ b, u = .bool b) ∧ ∃ v', QAt w' p (dropE q id) v' ∧ v'.ownBlock = v.ownBlock ∧ Mod (fun b => b = p ∨ v.ownBlock = some b) w w') := by
  have hcall := place_ok w p q v h id
  cases hf : q.findIdx? (fun x => decide (x.id = id)) with
  | none =>
    have e : dropE q id = q := by unfold dropE; rw [List.eraseP_eq_eraseIdx, hf]
    rw [hf] at hcall
    refine enter Tryz.func134 rfl rfl rfl _ (Pick.sub (l := [0, 1]) (.cons rfl (.cons rfl .nil))) ?_
    refine RK.seq ?_
    refine RK.region ?_
    refine RL.p rfl rfl ?_
    refine RL.done ?_
    refine RK.seq ?_
    refine RK.region ?_
    iterate 2 refine RL.p rfl rfl ?_
    refine RL.op (.free rfl) rfl rfl (Does.call rfl e163 (hcall)) ?_
    rintro _ w2 ⟨rfl, hg2⟩
    refine RL.p rfl rfl ?_
    refine RL.done ?_
    iterate 2 refine RK.seq ?_
    refine RK.region ?_
    iterate 2 refine RL.p rfl rfl ?_
    refine RL.done ?_
    refine RK.condT (hcT rfl (rfl)) ?_
    refine RK.seq ?_
    refine RK.region ?_
    refine RL.p rfl rfl ?_
    refine RL.done ?_
    refine RK.ret_of Tryz.func134 (res1 rfl rfl) ?_ _
    exact ⟨_, rfl, ⟨_, rfl⟩, v, e.symm ▸ h.grow hg2, rfl, Mod.any' hg2⟩
  | some k =>
    have e : dropE q id = q.eraseIdx k := by unfold dropE; rw [List.eraseP_eq_eraseIdx, hf]
    have hk : k < q.length := by obtain ⟨h1, _⟩ := List.findIdx?_eq_some_iff_getElem.1 hf; exact h1
    rw [hf] at hcall
    refine enter Tryz.func134 rfl rfl rfl _ (Pick.sub (l := [0, 1]) (.cons rfl (.cons rfl .nil))) ?_
    refine RK.seq ?_
    refine RK.region ?_
    refine RL.p rfl rfl ?_
    refine RL.done ?_
    refine RK.seq ?_
    refine RK.region ?_
    iterate 2 refine RL.p rfl rfl ?_
    refine RL.op (.free rfl) rfl rfl (Does.call rfl e163 (hcall)) ?_
    rintro _ w2 ⟨rfl, hg2⟩
    have h2 := h.grow hg2
    refine RL.p rfl rfl ?_
    refine RL.done ?_
    iterate 2 refine RK.seq ?_
    refine RK.region ?_
    iterate 2 refine RL.p rfl rfl ?_
    refine RL.done ?_
    refine RK.condF (hcF rfl (decide_eq_false (show ¬ ((k : Int) < 0) by omega))) ?_
    refine RK.skip ?_
    refine RK.seq ?_
    refine RK.region ?_
    iterate 3 refine RL.p rfl rfl ?_
    refine RL.q (.free rfl) rfl rfl (Yld.fieldAddr fo155_0 rfl) ?_
    refine RL.q (.free rfl) rfl rfl (Yld.load p153 rfl (at1 (h2.blk.cell rfl))) ?_
    iterate 3 refine RL.p rfl rfl ?_
    refine RL.re (d := 18) rfl rfl (succ_i64 (k := k) (by omega)) ?_
    refine RL.op (.free rfl) rfl rfl (Does.call rfl e107 (deleteE_ok q k v _ h2.row hk hb)) ?_
    rintro u3 w3 ⟨hr3, ho3, hm3⟩
    obtain ⟨ad3, c3, rfl⟩ := hr3.slice
    refine RL.p rfl rfl ?_
    refine RL.q (.free rfl) rfl rfl (Yld.fieldAddr fo155_0 rfl) ?_
    refine RL.op' (.free rfl) rfl (Does.store i153 rfl rfl rfl (h2.blk.mod hm3 h.ne) (.z)) ?_
    rintro _ w4 ⟨hb4, hm4, hs4⟩
    refine RL.done ?_
    refine RK.seq ?_
    refine RK.region ?_
    refine RL.p rfl rfl ?_
    refine RL.done ?_
    refine RK.ret_of Tryz.func134 (res1 rfl rfl) ?_ _
    exact ⟨_, rfl, ⟨_, rfl⟩, .slice ad3 _ c3, e.symm ▸ ⟨hb4, hr3.mod hm4 (fun b hb e => h.ne (by rw [← ho3, hb, e])), by rw [ho3]; exact h.ne⟩, ho3, ((Mod.any' hg2).trans (hm3.mono fun b _ e => .inr e)).trans (hm4.mono fun b _ e => .inl e)⟩
end Go.Proofs.YtbcbfjnlnmhpbaaGreat
set_option linter.unusedVariables false
set_option linter.unusedSimpArgs false
set_option maxHeartbeats 1600000
set_option maxRecDepth 100000
namespace Go.Proofs.YtbcbfjnlnmhpbaaGreat
open Go Go.X
def putE (q : List En) (e : En) : List En := q.filter (fun a => decide (ltE a e)) ++ e :: q.filter (fun a => !decide (ltE a e))
theorem filter_at {α : Type} (p : α → Bool) : ∀ (l : List α) (i : Nat), i ≤ l.length → (∀ t a, t < i → l[t]? = some a → p a = true) → (∀ t a, i ≤ t → l[t]? = some a → p a = false) → l.filter p = l.take i ∧ l.filter (fun a => !p a) = l.drop i
  | [], i, hi, _, _ => by simp
  | x :: l, 0, _, _, h2 => by
    have hx : ∀ a ∈ x :: l, p a = false := fun a ha => by
      obtain ⟨t, ht⟩ := List.getElem?_of_mem ha
      exact h2 t a (Nat.zero_le _) ht
    refine ⟨?_, ?_⟩
    · rw [List.take_zero, List.filter_eq_nil_iff]
      intro a ha; rw [hx a ha]; simp
    · rw [List.drop_zero, List.filter_eq_self]
      intro a ha; rw [hx a ha]; rfl
  | x :: l, i + 1, hi, h1, h2 => by
    obtain ⟨e1, e2⟩ := filter_at p l i (by simpa using hi) (fun t a ht ha => h1 (t + 1) a (by omega) (by simpa using ha)) (fun t a ht ha => h2 (t + 1) a (by omega) (by simpa using ha))
    have hx := h1 0 x (by omega) rfl
    refine ⟨?_, ?_⟩
    · rw [List.filter_cons_of_pos hx, e1, List.take_succ_cons]
    · rw [List.filter_cons_of_neg (by rw [hx]; simp), e2, List.drop_succ_cons]
theorem putE_at {q : List En} {e : En} {i : Nat} (hi : i ≤ q.length) (hlo : ∀ t a, t < i → q[t]? = some a → ltE a e) (hhi : ∀ t a, i ≤ t → q[t]? = some a → ¬ ltE a e) : putE q e = q.take i ++ e :: q.drop i := by
  obtain ⟨e1, e2⟩ := filter_at (fun a => decide (ltE a e)) q i hi (fun t a ht ha => decide_eq_true (hlo t a ht ha)) (fun t a ht ha => decide_eq_false (hhi t a ht ha))
  unfold putE
  rw [e1, e2]
theorem putE_perm (q : List En) (e : En) : (putE q e).Perm (e :: q) := by
  unfold putE
  refine (List.perm_middle).trans (List.Perm.cons _ ?_)
  exact List.filter_append_perm _ _
theorem putE_sort {q : List En} {e : En} (hs : SortE q) (hne : e ∉ q) : SortE (putE q e) := by
  unfold putE SortE
  rw [List.pairwise_append]
  refine ⟨hs.filter _, List.pairwise_cons.2 ⟨fun a ha => ?_, hs.filter _⟩, fun a ha b hb => ?_⟩
  · have h1 := List.mem_filter.1 ha
    rcases ltE_total (x := a) (y := e) (by simpa using h1.2) with h | h
    · exact absurd h1.1 (h ▸ hne)
    · exact h
  · have h1 : ltE a e := by simpa using (List.mem_filter.1 ha).2
    rcases List.mem_cons.1 hb with rfl | hb
    · exact h1
    · have h2 := List.mem_filter.1 hb
      rcases ltE_total (x := b) (y := e) (by simpa using h2.2) with h | h
      · exact absurd h2.1 (h ▸ hne)
      · exact ltE_trans h1 h
theorem dropE_sub (q : List En) (id : Int) : (dropE q id).Sublist q := List.eraseP_sublist
theorem dropE_sort {q : List En} (hs : SortE q) (id : Int) : SortE (dropE q id) := hs.sublist (dropE_sub q id)
theorem reapPut_ok (w : World) (p : Nat) (q : List En) (v : Value) (h : QAt w p q v) (hs : SortE q) (id due : Int) (hb : q.length ≤ 1000000) :
    Fx Tryz.prog 99 [pp p, .int .i64 id, .int .u64 due] w (fun u w' => u = .tuple #[] ∧ ∃ v', QAt w' p (putE (dropE q id) ⟨due, id⟩) v' ∧ Mod (fun b => b = p ∨ v.ownBlock = some b) w w' ∧ (∀ b, v'.ownBlock = some b → v.ownBlock = some b ∨ w.heap.size ≤ b)) := by
  have hs1 := dropE_sort hs id
  have hb1 : (dropE q id).length ≤ 1000000 := Nat.le_trans (dropE_sub q id).length_le hb
  refine enter Tryz.func99 rfl rfl rfl _ (Pick.sub (l := [0, 1, 2]) (.cons rfl (.cons rfl (.cons rfl .nil)))) ?_
  refine RK.seq ?_
  refine RK.region ?_
  iterate 2 refine RL.p rfl rfl ?_
  refine RL.op (.free rfl) rfl rfl (Does.call rfl e134 (reapDrop_ok w p q v h id hb)) ?_
  rintro _ w1 ⟨⟨bb, rfl⟩, v1, hq1, ho1, hm1⟩
  refine RL.done ?_
  refine RK.seq ?_
  refine RK.region ?_
  iterate 2 refine RL.p rfl rfl ?_
  refine RL.q (.free rfl) rfl rfl (Yld.build (v := .agg #[.int .u64 due, .int .i64 id]) rfl (fun w => by kernel_rfl)) ?_
  refine RL.op (.free rfl) rfl rfl (Does.alloc i164) ?_
  rintro _ w2 ⟨b6, rfl, hn6⟩
  refine RL.op' (.free rfl) rfl (Does.storeN i164 rfl rfl rfl rfl hn6.blk (Nat.le_refl 2)) ?_
  rintro _ w3 ⟨hb3, hm3, _⟩
  have hB3 : Blk w3 b6 164 (enC ⟨due, id⟩) := hb3
  have hg13 : Grow w1 w3 := hn6.grow.then hm3 (fun y hy e => by have e' : y = b6 := e; have := hn6.at_; omega)
  have hq3 := hq1.grow hg13
  have hlt1 : ∀ b, v1.ownBlock = some b → b < w1.heap.size := fun b e => hq1.row.lt e
  have hz1 := hm1.size
  refine RL.done ?_
  refine RK.seq ?_
  refine RK.drawM No [(0, false), (1, false), (2, false), (3, false), (4, false), (5, true), (6, false), (7, false), (8, false), (9, false), (10, false)] [] mixed (by kernel_rfl) ?_
  iterate 2 refine DL.p rfl rfl rfl ?_
  refine DL.qf rfl (.free rfl) rfl rfl (Yld.fieldAddr fo155_0 rfl) ?_
  refine DL.q rfl (.free rfl) rfl rfl rfl (Yld.load p153 rfl (atM (hq3.blk.cell rfl) (fun h => h))) (Mod.drew _ _) ?_
  refine DL.q rfl (.free rfl) rfl rfl rfl (Yld.loadN (cs := enC ⟨due, id⟩) a164 rfl (atNM (blk0' hB3) (fun h => h))) (Mod.drew _ _) ?_
  refine DL.op rfl (.free rfl) rfl rfl (Does.call rfl e135 (bsE_ok (dropE q id) ⟨due, id⟩ v1 _ (Sl.own (hq3.row.mod (Mod.drew No _) (fun _ _ h => h)) (fun _ _ h => h)) hs1 hb1)) ?_
  rintro _ w4 ⟨⟨i, bx, hi, hlo, hhi, rfl⟩, hg4'⟩
  have hg4 := (Mod.drew No w3).trans hg4'
  refine ⟨hg4, ?_⟩
  have hq4 := hq3.grow hg4
  have hB4 := hB3.mod hg4 (fun h => h)
  have hn6b : ¬ v1.ownBlock = some b6 := fun e => by have := hlt1 b6 e; have := hn6.at_; omega
  iterate 5 refine DL.p rfl rfl rfl ?_
  refine DL.done ?_
  refine RK.drawM (fun b => v1.ownBlock = some b) [(0, false), (1, false), (2, false), (3, false), (4, false), (5, false), (6, false), (7, true), (8, true), (9, false), (10, false), (11, true)] [11] mixed (by kernel_rfl) ?_
  iterate 3 refine DL.p rfl rfl rfl ?_
  refine DL.qf rfl (.free rfl) rfl rfl (Yld.fieldAddr fo155_0 rfl) ?_
  refine DL.q rfl (.free rfl) rfl rfl rfl (Yld.load p153 rfl (atM (hq4.blk.cell rfl) (fun h => hq4.ne h))) (Mod.drew _ _) ?_
  refine DL.p rfl rfl rfl ?_
  refine DL.q rfl (.free rfl) rfl rfl rfl (Yld.loadN (cs := enC ⟨due, id⟩) a164 rfl (atNM (blk0' hB4) (hn6b))) (Mod.drew _ _) ?_
  refine DL.op rfl (.free rfl) rfl rfl (Does.slice1 u153 i164 rfl rfl rfl rfl rfl) ?_
  rintro _ w5 ⟨b7, rfl, hn7⟩
  refine ⟨(Mod.drew _ _).trans (Mod.any' hn7.grow), ?_⟩
  have hq5 := (hq4.grow (Mod.drew No w4)).grow hn7.grow
  have hz4 : w1.heap.size ≤ w4.heap.size := Nat.le_trans hg13.size hg4.size
  have hn7a : w4.heap.size ≤ b7 := Nat.le_of_eq hn7.at_.symm
  refine DL.op rfl (.free rfl) rfl rfl (Does.call rfl e137 (insE_ok (dropE q id) ⟨due, id⟩ i v1 b7 _ hq5.row hn7.blk (fun e => by have := hlt1 b7 e; omega) hi hb1)) ?_
  rintro u8 w6 ⟨hr8, hm8, hu8⟩
  refine ⟨((Mod.drew _ _).trans (Mod.any' hn7.grow)).trans hm8, ?_⟩
  obtain ⟨ad8, c8, rfl⟩ := hr8.slice
  have hz7 := hn7.grow.size
  have hu9 : ∀ b, (Value.slice ad8 ((dropE q id).length + 1) c8).ownBlock = some b → b ≠ p ∧ (v.ownBlock = some b ∨ w.heap.size ≤ b) := fun b e => by
      have hp := hq1.blk.lt
      rcases hu8 with h8 | h8
      · rw [h8] at e
        exact ⟨fun hh => hq1.ne (hh ▸ e), .inl (ho1 ▸ e)⟩
      · rw [h8] at e
        cases e
        simp only [World.drew] at hz7
        exact ⟨by omega, .inr (by omega)⟩
  have hb6 := hq5.blk.mod hm8 hq5.ne
  refine DL.p rfl rfl rfl ?_
  refine DL.qf rfl (.free rfl) rfl rfl (Yld.fieldAddr fo155_0 rfl) ?_
  refine DL.opT rfl (.free rfl) rfl rfl (Does.store i153 rfl rfl rfl hb6 (.z)) ?_
  rintro _ w7 ⟨hb7, hm7, hs7⟩
  refine DL.done ?_
  refine RK.end_of Tryz.func99 (res0 rfl) ?_
  exact ⟨_, rfl, rfl, .slice ad8 ((dropE q id).length + 1) c8, by
      rw [putE_at hi hlo hhi]
      refine ⟨hb7, ?_, fun e => (hu9 p e).1 rfl⟩
      have e1 : (List.take i (dropE q id) ++ ⟨due, id⟩ :: List.drop i (dropE q id)).length = (dropE q id).length + 1 := by simp; omega
      rw [e1]
      exact hr8.mod hm7 (fun b e hh => (hu9 b e).1 hh), ((((hm1.trans (Mod.any' hg13)).trans (Mod.any' hg4)).trans (Mod.any' ((Mod.drew No w4).trans hn7.grow))).trans (hm8.mono fun b _ e => .inr (ho1 ▸ e))).trans (hm7.mono fun b _ e => .inl e), fun b e => (hu9 b e).2⟩
end Go.Proofs.YtbcbfjnlnmhpbaaGreat
set_option linter.unusedVariables false
set_option linter.unusedSimpArgs false
set_option maxHeartbeats 1000000
set_option maxRecDepth 100000
namespace Go.Proofs.YtbcbfjnlnmhpbaaGreat
open Go Go.X Go.Rex
def anyL (ms : List Mt) : Bool := ms.any largeM
theorem anyL_at {ms : List Mt} {k : Nat} {x : Mt} (hx : ms[k]? = some x) (h : largeM x = true) : anyL ms = true := List.any_eq_true.2 ⟨x, List.mem_of_getElem? hx, h⟩
theorem anyL_no {ms : List Mt} (h : ∀ (i : Nat) (x : Mt), ms[i]? = some x → largeM x = false) : anyL ms = false := by
  unfold anyL
  rw [List.any_eq_false]
  intro x hx
  obtain ⟨i, hi⟩ := List.getElem?_of_mem hx
  simp [h i x hi]
theorem indexL_ok (M : Nat → Prop) (ms : List Mt) (v : Value) (w : World) (hv : SlM M w v ms) :
    Fx Tryz.prog 138 [v, .func (.func 133) #[] #[]] w (fun u w' => (∃ z : Int, u = .int .i64 z ∧ decide (0 ≤ z) = anyL ms) ∧ Grow w w') := by
  obtain ⟨ad, c, rfl⟩ := hv.shape
  have hbig := hv.big
  refine enter Tryz.func138 rfl rfl rfl _ (Pick.sub (l := [0, 1]) (.cons rfl (.cons rfl .nil))) ?_
  refine RK.seq ?_
  refine RK.region ?_
  refine RL.p rfl rfl ?_
  refine RL.done ?_
  iterate 2 refine RK.seq ?_
  refine RK.region ?_
  refine RL.p rfl rfl ?_
  refine RL.q (.free rfl) rfl rfl (Yld.lenSl u28 rfl) ?_
  refine RL.p rfl rfl ?_
  refine RL.done ?_
  refine RK.block ?_
  refine RK.loop (fun k : Nat => [(0, .slice ad ms.length c), (1, .func (.func 133) #[] #[]), (7, .int .i64 ms.length), (8, .int .i64 k)]) (fun k w' => Grow w w' ∧ k ≤ ms.length ∧ ∀ (i : Nat) (a : Mt), i < k → ms[i]? = some a → largeM a = false) (fun k => ms.length - k) 0 ⟨rfl, rfl, rfl, rfl, trivial⟩ ⟨Mod.refl _ _, by omega, fun i a h => by omega⟩ (fun k w' hI ih => ?_)
  obtain ⟨hg, hk, hno⟩ := hI
  refine RK.seq ?_
  refine RK.region ?_
  refine RL.p rfl rfl ?_
  refine RL.done ?_
  refine RK.seq ?_
  first | refine RK.condD rfl (fun h9 => ?_) (fun h9 => ?_) | refine RK.condN rfl (fun h9 => ?_) (fun h9 => ?_) | refine RK.cond rfl (fun h9 => ?_) (fun h9 => ?_)
  · obtain ⟨x, hx⟩ : ∃ x, ms[k]? = some x := ⟨ms[k]'(by omega), List.getElem?_eq_getElem (by omega)⟩
    obtain ⟨b1, o1, c1', he1, _, _, hc1⟩ := hv.elem mtC_len hx
    cases he1
    refine RK.skip ?_
    refine RK.seq ?_
    refine RK.block ?_
    refine RK.seq ?_
    refine RK.region ?_
    iterate 2 refine RL.p rfl rfl ?_
    refine RL.done ?_
    refine RK.seq ?_
    refine RK.region ?_
    iterate 3 refine RL.p rfl rfl ?_
    refine RL.q (.free rfl) rfl rfl (Yld.indexAddrN u28 i108 rfl rfl (by omega)) ?_
    refine RL.q (.free rfl) rfl rfl (Yld.loadN (cs := [.int .i64 x.kind, .string x.name, .string x.value]) a108 rfl (atN (fun j u hj => hg.cell (hc1 j u hj) (fun h => h)))) ?_
    refine RL.op (.free rfl) rfl rfl (Does.callv rfl rfl e133 (matchLarge_ok x _)) ?_
    rintro _ w2 ⟨rfl, hg2⟩
    refine RL.done ?_
    first | refine RK.condD rfl (fun h16 => ?_) (fun h16 => ?_) | refine RK.condN rfl (fun h16 => ?_) (fun h16 => ?_) | refine RK.cond rfl (fun h16 => ?_) (fun h16 => ?_)
    · refine RK.seq ?_
      refine RK.region ?_
      iterate 2 refine RL.p rfl rfl ?_
      refine RL.done ?_
      refine RK.ret_of Tryz.func138 (res1 rfl rfl) ?_ _
      exact ⟨_, rfl, ⟨_, rfl, by rw [anyL_at hx h16]; simp⟩, hg.trans hg2⟩
    · refine RK.skip ?_
      refine RK.inBlock ?_
      refine RK.region ?_
      refine RL.p rfl rfl ?_
      refine RL.re (d := 18) rfl rfl (succ_i64 (by omega)) ?_
      refine RL.p rfl rfl ?_
      refine RL.done ?_
      exact RK.back (ih (k + 1) _ ⟨hg.trans hg2, by omega, fun i a' hi ha' => by by_cases e : i = k; (subst e; rw [hx] at ha'; cases ha'; simpa using h16); exact hno i a' (by omega) ha'⟩ (by omega)) ⟨rfl, rfl, rfl, rfl, trivial⟩
  · refine RK.exit rfl ?_
    refine RK.seq ?_
    refine RK.region ?_
    refine RL.p rfl rfl ?_
    refine RL.done ?_
    refine RK.ret_of Tryz.func138 (res1 rfl rfl) ?_ _
    exact ⟨_, rfl, ⟨_, rfl, by rw [anyL_no fun i x hx => hno i x (by have := (List.getElem?_eq_some_iff.1 hx).1; omega) hx]; rfl⟩, hg⟩
theorem containsL_ok (M : Nat → Prop) (ms : List Mt) (v : Value) (w : World) (hv : SlM M w v ms) :
    Fx Tryz.prog 101 [v, .func (.func 133) #[] #[]] w (fun u w' => u = .bool (anyL ms) ∧ Grow w w') := by
  obtain ⟨ad, c, rfl⟩ := hv.shape
  refine enter Tryz.func101 rfl rfl rfl _ (Pick.sub (l := [0, 1]) (.cons rfl (.cons rfl .nil))) ?_
  refine RK.seq ?_
  refine RK.region ?_
  refine RL.p rfl rfl ?_
  refine RL.done ?_
  refine RK.seq ?_
  refine RK.region ?_
  iterate 2 refine RL.p rfl rfl ?_
  refine RL.op (.free rfl) rfl rfl (Does.call rfl e138 (indexL_ok M ms _ _ hv)) ?_
  rintro _ w2 ⟨⟨z, rfl, hz⟩, hg2⟩
  iterate 2 refine RL.p rfl rfl ?_
  refine RL.done ?_
  refine RK.ret_of Tryz.func101 (res1 rfl rfl) ?_ _
  exact ⟨_, rfl, congrArg _ hz, hg2⟩
theorem matchAnyL_ok (M : Nat → Prop) (ms : List Mt) (v : Value) (w : World) (hv : SlM M w v ms) :
    Fx Tryz.prog 97 [v] w (fun u w' => u = .bool (anyL ms) ∧ Grow w w') := by
  obtain ⟨ad, c, rfl⟩ := hv.shape
  refine enter Tryz.func97 rfl rfl rfl _ (Pick.sub (l := [0]) (.cons rfl .nil)) ?_
  refine RK.seq ?_
  refine RK.region ?_
  refine RL.p rfl rfl ?_
  refine RL.done ?_
  refine RK.seq ?_
  refine RK.region ?_
  refine RL.p rfl rfl ?_
  refine RL.op (.free rfl) rfl rfl (Does.call rfl e101 (containsL_ok M ms _ _ hv)) ?_
  rintro _ w2 ⟨rfl, hg2⟩
  refine RL.p rfl rfl ?_
  refine RL.done ?_
  refine RK.ret_of Tryz.func97 (res1 rfl rfl) ?_ _
  exact ⟨_, rfl, rfl, hg2⟩
end Go.Proofs.YtbcbfjnlnmhpbaaGreat
set_option linter.unusedVariables false
set_option linter.unusedSimpArgs false
set_option maxHeartbeats 1000000
set_option maxRecDepth 100000
namespace Go.Proofs.YtbcbfjnlnmhpbaaGreat
open Go Go.X Go.Rex
structure Bd where
  all : Bool
  lo : Nat
  hi : Nat
def bdC (b : Bd) : List Value := [.bool b.all, .float .f64 b.lo, .float .f64 b.hi]
def leF (a b : Nat) : Bool := FloatKind.f64.format.order a b == some .lt || FloatKind.f64.format.order a b == some .eq
def mayB (b : Bd) : Bool := if b.all = true then decide ((bitsS b.lo : Int) = 0) && decide ((bitsS b.hi : Int) = 0) else leF b.lo b.hi
def inBd (b : Bd) (v : Nat) : Bool := mayB b && (b.all || (leF b.lo v && leF v b.hi))
theorem fldN {w : World} {b t : Nat} {cs : List Value} (h : Blk w b t cs) (k n : Nat) : ∀ j u, ((cs.drop k).take n)[j]? = some u → w.cell? ⟨b, 0 + k + j, none⟩ = some u := fun j u hj => by
  have hj2 : (cs.drop k)[j]? = some u := by
    rw [List.getElem?_take] at hj
    split at hj
    · exact hj
    · cases hj
  rw [List.getElem?_drop] at hj2
  rw [show 0 + k + j = k + j by omega]
  exact h.cell' hj2
theorem may_ok (b : Bd) (w : World) : Fx Tryz.prog 96 [.agg (bdC b).toArray] w (fun u w' => u = .bool (mayB b) ∧ Grow w w') := by
  refine enter Tryz.func96 rfl rfl rfl _ (Pick.sub (l := [0]) (.cons rfl .nil)) ?_
  refine RK.seq ?_
  refine RK.region ?_
  refine RL.op (.free rfl) rfl rfl (Does.box rfl) ?_
  rintro _ w1 ⟨b1, rfl, hn1⟩
  have hB1 : Blk w1 b1 32 [.bool b.all, .float .f64 b.lo, .float .f64 b.hi] := hn1.blk
  refine RL.p rfl rfl ?_
  refine RL.done ?_
  iterate 2 refine RK.seq ?_
  refine RK.region ?_
  refine RL.q (.free rfl) rfl rfl (Yld.fieldAddr fo32_0 rfl) ?_
  refine RL.q (.free rfl) rfl rfl (Yld.load p4 rfl (at1 (hB1.cell rfl))) ?_
  refine RL.done ?_
  first | refine RK.condD rfl (fun h4 => ?_) (fun h4 => ?_) | refine RK.condN rfl (fun h4 => ?_) (fun h4 => ?_) | refine RK.cond rfl (fun h4 => ?_) (fun h4 => ?_)
  · refine RK.seq ?_
    refine RK.region ?_
    refine RL.q (.free rfl) rfl rfl (Yld.fieldAddr fo32_1 rfl) ?_
    refine RL.q (.free rfl) rfl rfl (Yld.load p30 rfl (at1 (hB1.cell rfl))) ?_
    refine RL.op (.free rfl) rfl rfl (Does.call rfl e132 (bits_ok _ _)) ?_
    rintro _ _ ⟨rfl, rfl⟩
    iterate 2 refine RL.p rfl rfl ?_
    first | refine RL.splitD (d := 9) rfl rfl (fun h8 => ?_) (fun h8 => ?_) | refine RL.splitN (d := 9) rfl rfl (fun h8 => ?_) (fun h8 => ?_) | refine RL.split (d := 9) rfl rfl (fun h8 => ?_) (fun h8 => ?_)
    · refine RL.q (.yes rfl rfl rfl) rfl rfl (Yld.fieldAddr fo32_2 rfl) ?_
      refine RL.q (.yes rfl rfl rfl) rfl rfl (Yld.load p30 rfl (at1 (hB1.cell rfl))) ?_
      refine RL.op (.yes rfl rfl rfl) rfl rfl (Does.call rfl e132 (bits_ok _ _)) ?_
      rintro _ _ ⟨rfl, rfl⟩
      refine RL.q (.yes rfl rfl rfl) rfl rfl (Yld.pure rfl) ?_
      iterate 2 refine RL.p rfl rfl ?_
      refine RL.done ?_
      refine RK.ret_of Tryz.func96 (res1 rfl rfl) ?_ _
      exact ⟨_, rfl, by unfold mayB; rw [if_pos h4, decide_eq_true h8]; rfl, hn1.grow⟩
    · iterate 4 refine RL.no (.no rfl rfl rfl rfl) rfl rfl ?_
      iterate 2 refine RL.p rfl rfl ?_
      refine RL.done ?_
      refine RK.ret_of Tryz.func96 (res1 rfl rfl) ?_ _
      exact ⟨_, rfl, by unfold mayB; rw [if_pos h4, decide_eq_false h8]; rfl, hn1.grow⟩
  · refine RK.skip ?_
    refine RK.seq ?_
    refine RK.region ?_
    refine RL.q (.free rfl) rfl rfl (Yld.fieldAddr fo32_1 rfl) ?_
    refine RL.q (.free rfl) rfl rfl (Yld.load p30 rfl (at1 (hB1.cell rfl))) ?_
    refine RL.q (.free rfl) rfl rfl (Yld.fieldAddr fo32_2 rfl) ?_
    refine RL.q (.free rfl) rfl rfl (Yld.load p30 rfl (at1 (hB1.cell rfl))) ?_
    iterate 2 refine RL.p rfl rfl ?_
    refine RL.done ?_
    refine RK.ret_of Tryz.func96 (res1 rfl rfl) ?_ _
    exact ⟨_, rfl, by unfold mayB; rw [if_neg (by simp [h4])]; rfl, hn1.grow⟩
theorem in_band_ok (b : Bd) (v : Nat) (w : World) : Fx Tryz.prog 53 [.agg (bdC b).toArray, .float .f64 v] w (fun u w' => u = .bool (inBd b v) ∧ Grow w w') := by
  refine enter Tryz.func53 rfl rfl rfl _ (Pick.sub (l := [0, 1]) (.cons rfl (.cons rfl .nil))) ?_
  refine RK.seq ?_
  refine RK.region ?_
  refine RL.op (.free rfl) rfl rfl (Does.box rfl) ?_
  rintro _ w1 ⟨b1, rfl, hn1⟩
  refine RL.p rfl rfl ?_
  refine RL.done ?_
  refine RK.seq ?_
  refine RK.region ?_
  refine RL.q (.free rfl) rfl rfl (Yld.loadN (cs := bdC b) a32 rfl (atN (blk0' hn1.blk))) ?_
  refine RL.op (.free rfl) rfl rfl (Does.call rfl e96 (may_ok b _)) ?_
  rintro _ w2 ⟨rfl, hg2'⟩
  have hg2 := hn1.grow.trans hg2'
  have hB2 : Blk w2 b1 32 [.bool b.all, .float .f64 b.lo, .float .f64 b.hi] := hn1.blk.mod hg2' (fun h => h)
  refine RL.p rfl rfl ?_
  first | refine RL.splitD (d := 7) rfl rfl (fun h6 => ?_) (fun h6 => ?_) | refine RL.splitN (d := 7) rfl rfl (fun h6 => ?_) (fun h6 => ?_) | refine RL.split (d := 7) rfl rfl (fun h6 => ?_) (fun h6 => ?_)
  · have hmay : mayB b = true := h6
    refine RL.q (.yes rfl rfl rfl) rfl rfl (Yld.fieldAddr fo32_0 rfl) ?_
    refine RL.q (.yes rfl rfl rfl) rfl rfl (Yld.load p4 rfl (at1 (hB2.cell rfl))) ?_
    refine RL.q (.yes rfl rfl rfl) rfl rfl (Yld.pure rfl) ?_
    first | refine RL.splitD (d := 10) rfl rfl (fun h9 => ?_) (fun h9 => ?_) | refine RL.splitN (d := 10) rfl rfl (fun h9 => ?_) (fun h9 => ?_) | refine RL.split (d := 10) rfl rfl (fun h9 => ?_) (fun h9 => ?_)
    · iterate 10 refine RL.no (.no rfl rfl rfl rfl) rfl rfl ?_
      refine RL.q (.yes rfl rfl rfl) rfl rfl (Yld.pure rfl) ?_
      iterate 2 refine RL.p rfl rfl ?_
      refine RL.done ?_
      refine RK.ret_of Tryz.func53 (res1 rfl rfl) ?_ _
      exact ⟨_, rfl, by unfold inBd; rw [hmay, h9]; rfl, hg2⟩
    · refine RL.q (.yes rfl rfl rfl) rfl rfl (Yld.fieldAddr fo32_1 rfl) ?_
      refine RL.q (.yes rfl rfl rfl) rfl rfl (Yld.load p30 rfl (at1 (hB2.cell rfl))) ?_
      iterate 3 refine RL.q (.yes rfl rfl rfl) rfl rfl (Yld.pure rfl) ?_
      first | refine RL.splitD (d := 15) rfl rfl (fun h14 => ?_) (fun h14 => ?_) | refine RL.splitN (d := 15) rfl rfl (fun h14 => ?_) (fun h14 => ?_) | refine RL.split (d := 15) rfl rfl (fun h14 => ?_) (fun h14 => ?_)
      · refine RL.q (.yes rfl rfl rfl) rfl rfl (Yld.pure rfl) ?_
        refine RL.q (.yes rfl rfl rfl) rfl rfl (Yld.fieldAddr fo32_2 rfl) ?_
        refine RL.q (.yes rfl rfl rfl) rfl rfl (Yld.load p30 rfl (at1 (hB2.cell rfl))) ?_
        iterate 3 refine RL.q (.yes rfl rfl rfl) rfl rfl (Yld.pure rfl) ?_
        iterate 2 refine RL.p rfl rfl ?_
        refine RL.done ?_
        refine RK.ret_of Tryz.func53 (res1 rfl rfl) ?_ _
        exact ⟨_, rfl, by unfold inBd; rw [hmay, show b.all = false by simpa using h9, show leF b.lo v = true from h14]; rfl, hg2⟩
      · iterate 4 refine RL.no (.no rfl rfl rfl rfl) rfl rfl ?_
        iterate 2 refine RL.q (.yes rfl rfl rfl) rfl rfl (Yld.pure rfl) ?_
        iterate 2 refine RL.p rfl rfl ?_
        refine RL.done ?_
        refine RK.ret_of Tryz.func53 (res1 rfl rfl) ?_ _
        exact ⟨_, rfl, by unfold inBd; rw [hmay, show b.all = false by simpa using h9, show leF b.lo v = false from h14]; rfl, hg2⟩
  · iterate 14 refine RL.no (.no rfl rfl rfl rfl) rfl rfl ?_
    iterate 2 refine RL.p rfl rfl ?_
    refine RL.done ?_
    refine RK.ret_of Tryz.func53 (res1 rfl rfl) ?_ _
    exact ⟨_, rfl, by unfold inBd; rw [show mayB b = false by simpa using h6]; rfl, hg2⟩
def stateS (now a b : Int) : Int := if b ≤ now then 3 else if now < a then 1 else 2
theorem state_ok (n a b : Int) (w : World) : Fx Tryz.prog 51 [.int .u64 n, .int .u64 a, .int .u64 b] w (fun u w' => u = .int .i64 (stateS n a b) ∧ w = w') := by
  refine enter Tryz.func51 rfl rfl rfl _ (Pick.sub (l := [0, 1, 2]) (.cons rfl (.cons rfl (.cons rfl .nil)))) ?_
  refine RK.seq ?_
  refine RK.region ?_
  refine RL.p rfl rfl ?_
  refine RL.done ?_
  refine RK.seq ?_
  refine RK.block ?_
  refine RK.seq ?_
  refine RK.region ?_
  iterate 4 refine RL.p rfl rfl ?_
  refine RL.done ?_
  first | refine RK.condD rfl (fun h10 => ?_) (fun h10 => ?_) | refine RK.condN rfl (fun h10 => ?_) (fun h10 => ?_) | refine RK.cond rfl (fun h10 => ?_) (fun h10 => ?_)
  · refine RK.seq ?_
    refine RK.region ?_
    refine RL.p rfl rfl ?_
    refine RL.done ?_
    refine RK.ret_of Tryz.func51 (res1 rfl rfl) ?_ _
    exact ⟨_, rfl, by unfold stateS; rw [if_pos (by omega)], rfl⟩
  · refine RK.seq ?_
    refine RK.region ?_
    iterate 4 refine RL.p rfl rfl ?_
    refine RL.done ?_
    first | refine RK.condD rfl (fun h14 => ?_) (fun h14 => ?_) | refine RK.condN rfl (fun h14 => ?_) (fun h14 => ?_) | refine RK.cond rfl (fun h14 => ?_) (fun h14 => ?_)
    · refine RK.seq ?_
      refine RK.region ?_
      refine RL.p rfl rfl ?_
      refine RL.done ?_
      refine RK.ret_of Tryz.func51 (res1 rfl rfl) ?_ _
      exact ⟨_, rfl, by unfold stateS; rw [if_neg (by omega), if_pos (by omega)], rfl⟩
    · refine RK.skip ?_
      refine RK.inBlock ?_
      refine RK.seq ?_
      refine RK.region ?_
      refine RL.p rfl rfl ?_
      refine RL.done ?_
      refine RK.ret_of Tryz.func51 (res1 rfl rfl) ?_ _
      exact ⟨_, rfl, by unfold stateS; rw [if_neg (by omega), if_neg (by omega)], rfl⟩
end Go.Proofs.YtbcbfjnlnmhpbaaGreat
set_option linter.unusedVariables false
set_option linter.unusedSimpArgs false
set_option maxHeartbeats 1000000
set_option maxRecDepth 100000
namespace Go.Proofs.YtbcbfjnlnmhpbaaGreat
open Go Go.X Go.Rex
structure Ru where
  sv : Value
  tv : Value
  ev : Value
  src : List Mt
  tgt : List Mt
  bd : Bd
  eq : List ByteArray
def ruC (r : Ru) : List Value := [r.sv, r.tv, .bool r.bd.all, .float .f64 r.bd.lo, .float .f64 r.bd.hi, r.ev]
theorem ruC_len (r : Ru) : (ruC r).length = 6 := rfl
def strsV (l : List ByteArray) : List Value := l.map Value.string
structure Ru.Ok (M : Nat → Prop) (w : World) (r : Ru) : Prop where
  s : SlM M w r.sv r.src
  t : SlM M w r.tv r.tgt
  e : Sl M w r.ev 1 r.eq.length (strsV r.eq)
theorem Ru.Ok.mod {M : Nat → Prop} {w w' : World} {r : Ru} (h : r.Ok M w) (hm : Mod M w w') : r.Ok M w' := ⟨h.s.mod hm, h.t.mod hm, h.e.mod hm⟩
@[irreducible] def okE (es : List ByteArray) (i : Nat) : Bool := match es[i]? with
  | none => true
  | some x => nameS x && (match i with
    | 0 => true
    | j + 1 => match es[j]? with
      | none => true
      | some y => slt y x)
theorem okE_0 {es : List ByteArray} {x : ByteArray} (hx : es[0]? = some x) : okE es 0 = nameS x := by unfold okE; rw [hx]; simp
theorem okE_s {es : List ByteArray} {j : Nat} {x y : ByteArray} (hx : es[j + 1]? = some x) (hy : es[j]? = some y) : okE es (j + 1) = (nameS x && slt y x) := by unfold okE; rw [hx]; simp only; rw [hy]
def eqsE (es : List ByteArray) : Bool := (List.range es.length).all (okE es)
@[irreducible] def isRu (r : Ru) : Bool := !decide ((r.src.length : Int) = 0) && (!decide ((r.tgt.length : Int) = 0) && (listM r.src && (listM r.tgt && (mayB r.bd && (!decide (4 < (r.eq.length : Int)) && eqsE r.eq)))))
theorem isRu_no {r : Ru} {i : Nat} (hi : i < r.eq.length) (h : okE r.eq i = false) : isRu r = false := by
  have h1 : eqsE r.eq = false := List.all_eq_false.2 ⟨i, List.mem_range.2 hi, by simp [h]⟩
  unfold isRu; simp [h1]
theorem isRu_yes {r : Ru} (h1 : ¬ (r.src.length : Int) = 0) (h2 : ¬ (r.tgt.length : Int) = 0) (h3 : listM r.src = true) (h4 : listM r.tgt = true) (h5 : mayB r.bd = true) (h6 : ¬ 4 < (r.eq.length : Int)) (h : ∀ i, i < r.eq.length → okE r.eq i = true) : isRu r = true := by
  have h7 : eqsE r.eq = true := List.all_eq_true.2 fun i hi => h i (List.mem_range.1 hi)
  unfold isRu
  rw [decide_eq_false h1, decide_eq_false h2, h3, h4, h5, decide_eq_false h6, h7]; rfl
theorem isRule_ok (M : Nat → Prop) (r : Ru) (w : World) (hr : r.Ok M w) : Fx Tryz.prog 151 [.agg (ruC r).toArray] w (fun u w' => u = .bool (isRu r) ∧ Grow w w') := by
  obtain ⟨sv, tv, ev, src, tgt, bd, eq⟩ := r
  obtain ⟨hs, ht, he⟩ := hr
  simp only at hs ht he
  obtain ⟨ad1, c1, rfl⟩ := hs.shape
  obtain ⟨ad2, c2, rfl⟩ := ht.shape
  obtain ⟨ad3, c3, rfl⟩ := he.shape
  have hbig := he.big
  refine enter Tryz.func151 rfl rfl rfl _ (Pick.sub (l := [0]) (.cons rfl .nil)) ?_
  refine RK.seq ?_
  refine RK.region ?_
  refine RL.op (.free rfl) rfl rfl (Does.box rfl) ?_
  rintro _ w1 ⟨b1, rfl, hn1⟩
  have hB1 : Blk w1 b1 90 (ruC ⟨.slice ad1 src.length c1, .slice ad2 tgt.length c2, .slice ad3 eq.length c3, src, tgt, bd, eq⟩) := hn1.blk
  refine RL.p rfl rfl ?_
  refine RL.done ?_
  iterate 2 refine RK.seq ?_
  refine RK.region ?_
  refine RL.q (.free rfl) rfl rfl (Yld.fieldAddr fo90_0 rfl) ?_
  refine RL.q (.free rfl) rfl rfl (Yld.load p28 rfl (at1 (hB1.cell rfl))) ?_
  refine RL.q (.free rfl) rfl rfl (Yld.lenSl u28 rfl) ?_
  iterate 2 refine RL.p rfl rfl ?_
  first | refine RL.splitD (d := 9) rfl rfl (fun h8 => ?_) (fun h8 => ?_) | refine RL.splitN (d := 9) rfl rfl (fun h8 => ?_) (fun h8 => ?_) | refine RL.split (d := 9) rfl rfl (fun h8 => ?_) (fun h8 => ?_)
  · iterate 4 refine RL.no (.no rfl rfl rfl rfl) rfl rfl ?_
    iterate 2 refine RL.p rfl rfl ?_
    iterate 4 refine RL.no (.no rfl rfl rfl rfl) rfl rfl ?_
    iterate 2 refine RL.p rfl rfl ?_
    iterate 4 refine RL.no (.no rfl rfl rfl rfl) rfl rfl ?_
    iterate 2 refine RL.p rfl rfl ?_
    iterate 4 refine RL.no (.no rfl rfl rfl rfl) rfl rfl ?_
    iterate 2 refine RL.p rfl rfl ?_
    iterate 4 refine RL.no (.no rfl rfl rfl rfl) rfl rfl ?_
    refine RL.p rfl rfl ?_
    refine RL.done ?_
    refine RK.condT rfl ?_
    refine RK.seq ?_
    refine RK.region ?_
    refine RL.p rfl rfl ?_
    refine RL.done ?_
    refine RK.ret_of Tryz.func151 (res1 rfl rfl) ?_ _
    exact ⟨_, rfl, by unfold isRu; simp only [decide_eq_true h8]; rfl, hn1.grow⟩
  · refine RL.q (.yes rfl rfl rfl) rfl rfl (Yld.fieldAddr fo90_1 rfl) ?_
    refine RL.q (.yes rfl rfl rfl) rfl rfl (Yld.load p28 rfl (at1 (hB1.cell rfl))) ?_
    refine RL.q (.yes rfl rfl rfl) rfl rfl (Yld.lenSl u28 rfl) ?_
    refine RL.q (.yes rfl rfl rfl) rfl rfl (Yld.pure rfl) ?_
    iterate 2 refine RL.p rfl rfl ?_
    first | refine RL.splitD (d := 15) rfl rfl (fun h13 => ?_) (fun h13 => ?_) | refine RL.splitN (d := 15) rfl rfl (fun h13 => ?_) (fun h13 => ?_) | refine RL.split (d := 15) rfl rfl (fun h13 => ?_) (fun h13 => ?_)
    · iterate 4 refine RL.no (.no rfl rfl rfl rfl) rfl rfl ?_
      iterate 2 refine RL.p rfl rfl ?_
      iterate 4 refine RL.no (.no rfl rfl rfl rfl) rfl rfl ?_
      iterate 2 refine RL.p rfl rfl ?_
      iterate 4 refine RL.no (.no rfl rfl rfl rfl) rfl rfl ?_
      iterate 2 refine RL.p rfl rfl ?_
      iterate 4 refine RL.no (.no rfl rfl rfl rfl) rfl rfl ?_
      refine RL.p rfl rfl ?_
      refine RL.done ?_
      refine RK.condT rfl ?_
      refine RK.seq ?_
      refine RK.region ?_
      refine RL.p rfl rfl ?_
      refine RL.done ?_
      refine RK.ret_of Tryz.func151 (res1 rfl rfl) ?_ _
      exact ⟨_, rfl, by unfold isRu; simp only [decide_eq_true h13]; rw [Bool.not_true, Bool.false_and, Bool.and_false], hn1.grow⟩
    · refine RL.q (.yes rfl rfl rfl) rfl rfl (Yld.fieldAddr fo90_0 rfl) ?_
      refine RL.q (.yes rfl rfl rfl) rfl rfl (Yld.load p28 rfl (at1 (hB1.cell rfl))) ?_
      refine RL.op (.yes rfl rfl rfl) rfl rfl (Does.call rfl e95 (matchList_ok M src _ _ (hs.mod (Mod.any' hn1.grow)))) ?_
      rintro _ w2 ⟨rfl, hg2⟩
      have hB2 := hB1.mod hg2 (fun h => h)
      have hg12 := hn1.grow.trans hg2
      refine RL.q (.yes rfl rfl rfl) rfl rfl (Yld.pure rfl) ?_
      iterate 2 refine RL.p rfl rfl ?_
      first | refine RL.splitD (d := 21) rfl rfl (fun h19 => ?_) (fun h19 => ?_) | refine RL.splitN (d := 21) rfl rfl (fun h19 => ?_) (fun h19 => ?_) | refine RL.split (d := 21) rfl rfl (fun h19 => ?_) (fun h19 => ?_)
      · iterate 4 refine RL.no (.no rfl rfl rfl rfl) rfl rfl ?_
        iterate 2 refine RL.p rfl rfl ?_
        iterate 4 refine RL.no (.no rfl rfl rfl rfl) rfl rfl ?_
        iterate 2 refine RL.p rfl rfl ?_
        iterate 4 refine RL.no (.no rfl rfl rfl rfl) rfl rfl ?_
        refine RL.p rfl rfl ?_
        refine RL.done ?_
        refine RK.condT rfl ?_
        refine RK.seq ?_
        refine RK.region ?_
        refine RL.p rfl rfl ?_
        refine RL.done ?_
        refine RK.ret_of Tryz.func151 (res1 rfl rfl) ?_ _
        exact ⟨_, rfl, by unfold isRu; simp only [show listM src = false by simpa using h19]; rw [Bool.false_and, Bool.and_false, Bool.and_false], hg12⟩
      · have hl1 : listM src = true := by simpa using h19
        refine RL.q (.yes rfl rfl rfl) rfl rfl (Yld.fieldAddr fo90_1 rfl) ?_
        refine RL.q (.yes rfl rfl rfl) rfl rfl (Yld.load p28 rfl (at1 (hB2.cell rfl))) ?_
        refine RL.op (.yes rfl rfl rfl) rfl rfl (Does.call rfl e95 (matchList_ok M tgt _ _ (ht.mod (Mod.any' hg12)))) ?_
        rintro _ w3 ⟨rfl, hg3⟩
        have hB3 := hB2.mod hg3 (fun h => h)
        have hg13 := hg12.trans hg3
        refine RL.q (.yes rfl rfl rfl) rfl rfl (Yld.pure rfl) ?_
        iterate 2 refine RL.p rfl rfl ?_
        first | refine RL.splitD (d := 27) rfl rfl (fun h25 => ?_) (fun h25 => ?_) | refine RL.splitN (d := 27) rfl rfl (fun h25 => ?_) (fun h25 => ?_) | refine RL.split (d := 27) rfl rfl (fun h25 => ?_) (fun h25 => ?_)
        · iterate 4 refine RL.no (.no rfl rfl rfl rfl) rfl rfl ?_
          iterate 2 refine RL.p rfl rfl ?_
          iterate 4 refine RL.no (.no rfl rfl rfl rfl) rfl rfl ?_
          refine RL.p rfl rfl ?_
          refine RL.done ?_
          refine RK.condT rfl ?_
          refine RK.seq ?_
          refine RK.region ?_
          refine RL.p rfl rfl ?_
          refine RL.done ?_
          refine RK.ret_of Tryz.func151 (res1 rfl rfl) ?_ _
          exact ⟨_, rfl, by unfold isRu; simp only [show listM tgt = false by simpa using h25]; rw [Bool.false_and, Bool.and_false, Bool.and_false, Bool.and_false], hg13⟩
        · have hl2 : listM tgt = true := by simpa using h25
          refine RL.q (.yes rfl rfl rfl) rfl rfl (Yld.fieldAddr fo90_2 rfl) ?_
          refine RL.q (.yes rfl rfl rfl) rfl rfl (Yld.loadN (cs := bdC bd) a32 rfl (atN (fldN hB3 2 3))) ?_
          refine RL.op (.yes rfl rfl rfl) rfl rfl (Does.call rfl e96 (may_ok bd _)) ?_
          rintro _ w4 ⟨rfl, hg4⟩
          have hB4 := hB3.mod hg4 (fun h => h)
          have hg14 := hg13.trans hg4
          refine RL.q (.yes rfl rfl rfl) rfl rfl (Yld.pure rfl) ?_
          iterate 2 refine RL.p rfl rfl ?_
          first | refine RL.splitD (d := 33) rfl rfl (fun h31 => ?_) (fun h31 => ?_) | refine RL.splitN (d := 33) rfl rfl (fun h31 => ?_) (fun h31 => ?_) | refine RL.split (d := 33) rfl rfl (fun h31 => ?_) (fun h31 => ?_)
          · iterate 4 refine RL.no (.no rfl rfl rfl rfl) rfl rfl ?_
            refine RL.p rfl rfl ?_
            refine RL.done ?_
            refine RK.condT rfl ?_
            refine RK.seq ?_
            refine RK.region ?_
            refine RL.p rfl rfl ?_
            refine RL.done ?_
            refine RK.ret_of Tryz.func151 (res1 rfl rfl) ?_ _
            exact ⟨_, rfl, by unfold isRu; simp only [show mayB bd = false by simpa using h31]; rw [Bool.false_and, Bool.and_false, Bool.and_false, Bool.and_false, Bool.and_false], hg14⟩
          · have hl3 : mayB bd = true := by simpa using h31
            refine RL.q (.yes rfl rfl rfl) rfl rfl (Yld.fieldAddr fo90_3 rfl) ?_
            refine RL.q (.yes rfl rfl rfl) rfl rfl (Yld.load p88 rfl (at1 (hB4.cell rfl))) ?_
            refine RL.q (.yes rfl rfl rfl) rfl rfl (Yld.lenSl u88 rfl) ?_
            refine RL.q (.yes rfl rfl rfl) rfl rfl (Yld.pure rfl) ?_
            refine RL.p rfl rfl ?_
            refine RL.done ?_
            first | refine RK.condD rfl (fun h37 => ?_) (fun h37 => ?_) | refine RK.condN rfl (fun h37 => ?_) (fun h37 => ?_) | refine RK.cond rfl (fun h37 => ?_) (fun h37 => ?_)
            · refine RK.seq ?_
              refine RK.region ?_
              refine RL.p rfl rfl ?_
              refine RL.done ?_
              refine RK.ret_of Tryz.func151 (res1 rfl rfl) ?_ _
              exact ⟨_, rfl, by unfold isRu; simp only [decide_eq_true h37]; rw [Bool.not_true, Bool.false_and, Bool.and_false, Bool.and_false, Bool.and_false, Bool.and_false, Bool.and_false], hg14⟩
            · have hyes := fun h => isRu_yes (r := ⟨.slice ad1 src.length c1, .slice ad2 tgt.length c2, .slice ad3 eq.length c3, src, tgt, bd, eq⟩) h8 h13 hl1 hl2 hl3 h37 h
              have hno := fun (i : Nat) hi h => isRu_no (r := ⟨.slice ad1 src.length c1, .slice ad2 tgt.length c2, .slice ad3 eq.length c3, src, tgt, bd, eq⟩) (i := i) hi h
              simp only at hyes hno
              refine RK.skip ?_
              iterate 2 refine RK.seq ?_
              refine RK.region ?_
              refine RL.q (.free rfl) rfl rfl (Yld.fieldAddr fo90_3 rfl) ?_
              refine RL.q (.free rfl) rfl rfl (Yld.load p88 rfl (at1 (hB4.cell rfl))) ?_
              refine RL.q (.free rfl) rfl rfl (Yld.lenSl u88 rfl) ?_
              refine RL.p rfl rfl ?_
              refine RL.done ?_
              refine RK.block ?_
              refine RK.loop (fun k : Nat => [(1, pp b1), (40, .slice ad3 eq.length c3), (41, .int .i64 (eq.length : Int)), (42, .int .i64 (k : Int))]) (fun k w' => w4 = w' ∧ k ≤ eq.length ∧ ∀ i, i < k → okE eq i = true) (fun k => eq.length - k) 0 ⟨rfl, rfl, rfl, rfl, trivial⟩ ⟨rfl, by omega, fun i hi => by omega⟩ (fun k w' hI ih => ?_)
              obtain ⟨rfl, hk, hall⟩ := hI
              refine RK.seq ?_
              refine RK.region ?_
              refine RL.p rfl rfl ?_
              refine RL.done ?_
              refine RK.seq ?_
              first | refine RK.condD rfl (fun h43 => ?_) (fun h43 => ?_) | refine RK.condN rfl (fun h43 => ?_) (fun h43 => ?_) | refine RK.cond rfl (fun h43 => ?_) (fun h43 => ?_)
              · obtain ⟨x, hx⟩ : ∃ x, eq[k]? = some x := ⟨eq[k]'(by omega), List.getElem?_eq_getElem (by omega)⟩
                obtain ⟨b2, o2, c', he1, _, _, hc1⟩ := (he.mod (Mod.any' hg14)).elem1 (k := k) (u := .string x) (by simp [strsV, hx])
                cases he1
                refine RK.skip ?_
                refine RK.seq ?_
                refine RK.block ?_
                refine RK.seq ?_
                refine RK.region ?_
                refine RL.p rfl rfl ?_
                refine RL.q (.free rfl) rfl rfl (Yld.indexAddrN u88 i9 rfl rfl (by omega)) ?_
                refine RL.q (.free rfl) rfl rfl (Yld.load p9 rfl (at1 (hc1 k (.string x) (by simp [strsV, hx])))) ?_
                iterate 2 refine RL.p rfl rfl ?_
                refine RL.done ?_
                refine RK.seq ?_
                refine RK.region ?_
                refine RL.p rfl rfl ?_
                refine RL.op (.free rfl) rfl rfl (Does.call rfl e157 (name_ok x _)) ?_
                rintro _ _ ⟨rfl, rfl⟩
                iterate 2 refine RL.p rfl rfl ?_
                first | refine RL.splitD (d := 50) rfl rfl (fun h49 => ?_) (fun h49 => ?_) | refine RL.splitN (d := 50) rfl rfl (fun h49 => ?_) (fun h49 => ?_) | refine RL.split (d := 50) rfl rfl (fun h49 => ?_) (fun h49 => ?_)
                · iterate 12 refine RL.no (.no rfl rfl rfl rfl) rfl rfl ?_
                  refine RL.p rfl rfl ?_
                  refine RL.done ?_
                  refine RK.condT rfl ?_
                  refine RK.seq ?_
                  refine RK.region ?_
                  refine RL.p rfl rfl ?_
                  refine RL.done ?_
                  refine RK.ret_of Tryz.func151 (res1 rfl rfl) ?_ _
                  exact ⟨_, rfl, by rw [hno k (by omega) (by
                      have hf : nameS x = false := by simpa using h49
                      cases k with
                      | zero => rw [okE_0 hx]; exact hf
                      | succ j => rw [okE_s hx (List.getElem?_eq_getElem (by omega)), hf]; rfl)], hg14⟩
                · have hix : nameS x = true := by simpa using h49
                  iterate 3 refine RL.q (.yes rfl rfl rfl) rfl rfl (Yld.pure rfl) ?_
                  first | refine RL.splitD (d := 53) rfl rfl (fun h52 => ?_) (fun h52 => ?_) | refine RL.splitN (d := 53) rfl rfl (fun h52 => ?_) (fun h52 => ?_) | refine RL.split (d := 53) rfl rfl (fun h52 => ?_) (fun h52 => ?_)
                  · obtain ⟨j, rfl⟩ : ∃ j, k = j + 1 := ⟨k - 1, by omega⟩
                    obtain ⟨y, hy⟩ : ∃ y, eq[j]? = some y := ⟨eq[j]'(by omega), List.getElem?_eq_getElem (by omega)⟩
                    refine RL.q (.yes rfl rfl rfl) rfl rfl (Yld.pure rfl) ?_
                    refine RL.q (.yes rfl rfl rfl) rfl rfl (Yld.fieldAddr fo90_3 rfl) ?_
                    refine RL.q (.yes rfl rfl rfl) rfl rfl (Yld.load p88 rfl (at1 (hB4.cell rfl))) ?_
                    iterate 2 refine RL.q (.yes rfl rfl rfl) rfl rfl (Yld.pure rfl) ?_
                    refine RL.re (d := 58) rfl rfl (sub_i64 (z := (j : Int)) (by omega) (by omega) (by omega)) ?_
                    refine RL.q (.yes rfl rfl rfl) rfl rfl (Yld.indexAddrN u88 i9 rfl rfl (by omega)) ?_
                    refine RL.q (.yes rfl rfl rfl) rfl rfl (Yld.load p9 rfl (at1 (hc1 j (.string y) (by simp [strsV, hy])))) ?_
                    iterate 2 refine RL.q (.yes rfl rfl rfl) rfl rfl (Yld.pure rfl) ?_
                    refine RL.p rfl rfl ?_
                    refine RL.done ?_
                    first | refine RK.condD rfl (fun h61 => ?_) (fun h61 => ?_) | refine RK.condN rfl (fun h61 => ?_) (fun h61 => ?_) | refine RK.cond rfl (fun h61 => ?_) (fun h61 => ?_)
                    · refine RK.seq ?_
                      refine RK.region ?_
                      refine RL.p rfl rfl ?_
                      refine RL.done ?_
                      refine RK.ret_of Tryz.func151 (res1 rfl rfl) ?_ _
                      exact ⟨_, rfl, by rw [hno (j + 1) (by omega) (by rw [okE_s hx hy, hix, show slt y x = false by rw [sle_not] at h61; simpa using h61]; rfl)], hg14⟩
                    · refine RK.skip ?_
                      refine RK.inBlock ?_
                      refine RK.region ?_
                      refine RL.p rfl rfl ?_
                      refine RL.re (d := 64) rfl rfl (succ_i64 (by omega)) ?_
                      refine RL.p rfl rfl ?_
                      refine RL.done ?_
                      exact RK.back (ih (j + 1 + 1) _ ⟨rfl, by omega, fun i hi => by by_cases e : i = j + 1; (subst e; rw [okE_s hx hy, hix, show slt y x = true by rw [sle_not] at h61; simpa using h61]; rfl); exact hall i (by omega)⟩ (by omega)) ⟨rfl, rfl, rfl, rfl, trivial⟩
                  · have hk0 : k = 0 := by omega
                    subst hk0
                    iterate 8 refine RL.no (.no rfl rfl rfl rfl) rfl rfl ?_
                    refine RL.q (.yes rfl rfl rfl) rfl rfl (Yld.pure rfl) ?_
                    refine RL.p rfl rfl ?_
                    refine RL.done ?_
                    refine RK.condF rfl ?_
                    refine RK.skip ?_
                    refine RK.inBlock ?_
                    refine RK.region ?_
                    refine RL.p rfl rfl ?_
                    refine RL.re (d := 64) rfl rfl (succ_i64 (by omega)) ?_
                    refine RL.p rfl rfl ?_
                    refine RL.done ?_
                    exact RK.back (ih (0 + 1) _ ⟨rfl, by omega, fun i hi => by by_cases e : i = 0; (subst e; rw [okE_0 hx]; exact hix); omega⟩ (by omega)) ⟨rfl, rfl, rfl, rfl, trivial⟩
              · refine RK.exit rfl ?_
                refine RK.seq ?_
                refine RK.region ?_
                refine RL.p rfl rfl ?_
                refine RL.done ?_
                refine RK.ret_of Tryz.func151 (res1 rfl rfl) ?_ _
                exact ⟨_, rfl, by rw [hyes (fun i hi => hall i (by omega))], hg14⟩
def largeRu (r : Ru) : Bool := isRu r && (anyL r.src || anyL r.tgt)
theorem largeRu_ok (M : Nat → Prop) (r : Ru) (w : World) (hr : r.Ok M w) : Fx Tryz.prog 152 [.agg (ruC r).toArray] w (fun u w' => u = .bool (largeRu r) ∧ Grow w w') := by
  have hr0 := hr
  obtain ⟨sv, tv, ev, src, tgt, bd, eq⟩ := r
  obtain ⟨hs, ht, he⟩ := hr
  simp only at hs ht he
  obtain ⟨ad1, c1, rfl⟩ := hs.shape
  obtain ⟨ad2, c2, rfl⟩ := ht.shape
  obtain ⟨ad3, c3, rfl⟩ := he.shape
  have hbig := he.big
  refine enter Tryz.func152 rfl rfl rfl _ (Pick.sub (l := [0]) (.cons rfl .nil)) ?_
  refine RK.seq ?_
  refine RK.region ?_
  refine RL.op (.free rfl) rfl rfl (Does.box rfl) ?_
  rintro _ w1 ⟨b1, rfl, hn1⟩
  have hB1 : Blk w1 b1 90 (ruC ⟨.slice ad1 src.length c1, .slice ad2 tgt.length c2, .slice ad3 eq.length c3, src, tgt, bd, eq⟩) := hn1.blk
  refine RL.p rfl rfl ?_
  refine RL.done ?_
  refine RK.seq ?_
  refine RK.region ?_
  refine RL.q (.free rfl) rfl rfl (Yld.loadN (cs := ruC ⟨.slice ad1 src.length c1, .slice ad2 tgt.length c2, .slice ad3 eq.length c3, src, tgt, bd, eq⟩) a90 rfl (atN (blk0' hB1))) ?_
  refine RL.op (.free rfl) rfl rfl (Does.call rfl e151 (isRule_ok M _ _ (hr0.mod (Mod.any' hn1.grow)))) ?_
  rintro _ w2 ⟨rfl, hg2⟩
  have hg12 := hn1.grow.trans hg2
  have hB2 := hB1.mod hg2 (fun h => h)
  refine RL.p rfl rfl ?_
  first | refine RL.splitD (d := 5) rfl rfl (fun h4 => ?_) (fun h4 => ?_) | refine RL.splitN (d := 5) rfl rfl (fun h4 => ?_) (fun h4 => ?_) | refine RL.split (d := 5) rfl rfl (fun h4 => ?_) (fun h4 => ?_)
  · refine RL.q (.yes rfl rfl rfl) rfl rfl (Yld.fieldAddr fo90_0 rfl) ?_
    refine RL.q (.yes rfl rfl rfl) rfl rfl (Yld.load p28 rfl (at1 (hB2.cell rfl))) ?_
    refine RL.op (.yes rfl rfl rfl) rfl rfl (Does.call rfl e97 (matchAnyL_ok M src _ _ (hs.mod (Mod.any' hg12)))) ?_
    rintro _ w3 ⟨rfl, hg3⟩
    have hg13 := hg12.trans hg3
    have hB3 := hB2.mod hg3 (fun h => h)
    refine RL.q (.yes rfl rfl rfl) rfl rfl (Yld.pure rfl) ?_
    first | refine RL.splitD (d := 9) rfl rfl (fun h8 => ?_) (fun h8 => ?_) | refine RL.splitN (d := 9) rfl rfl (fun h8 => ?_) (fun h8 => ?_) | refine RL.split (d := 9) rfl rfl (fun h8 => ?_) (fun h8 => ?_)
    · iterate 3 refine RL.no (.no rfl rfl rfl rfl) rfl rfl ?_
      refine RL.q (.yes rfl rfl rfl) rfl rfl (Yld.pure rfl) ?_
      iterate 2 refine RL.p rfl rfl ?_
      refine RL.done ?_
      refine RK.ret_of Tryz.func152 (res1 rfl rfl) ?_ _
      exact ⟨_, rfl, by unfold largeRu; rw [h4]; simp only; rw [h8]; rfl, hg13⟩
    · refine RL.q (.yes rfl rfl rfl) rfl rfl (Yld.fieldAddr fo90_1 rfl) ?_
      refine RL.q (.yes rfl rfl rfl) rfl rfl (Yld.load p28 rfl (at1 (hB3.cell rfl))) ?_
      refine RL.op (.yes rfl rfl rfl) rfl rfl (Does.call rfl e97 (matchAnyL_ok M tgt _ _ (ht.mod (Mod.any' hg13)))) ?_
      rintro _ w4 ⟨rfl, hg4⟩
      refine RL.q (.yes rfl rfl rfl) rfl rfl (Yld.pure rfl) ?_
      iterate 2 refine RL.p rfl rfl ?_
      refine RL.done ?_
      refine RK.ret_of Tryz.func152 (res1 rfl rfl) ?_ _
      exact ⟨_, rfl, by unfold largeRu; rw [h4]; simp only; rw [show anyL src = false by simpa using h8]; rfl, hg13.trans hg4⟩
  · iterate 8 refine RL.no (.no rfl rfl rfl rfl) rfl rfl ?_
    iterate 2 refine RL.p rfl rfl ?_
    refine RL.done ?_
    refine RK.ret_of Tryz.func152 (res1 rfl rfl) ?_ _
    exact ⟨_, rfl, by unfold largeRu; rw [show isRu _ = false by simpa using h4]; rfl, hg12⟩
def worksRu (r : Ru) : Bool := isRu r && !largeRu r
theorem works_ok (M : Nat → Prop) (r : Ru) (w : World) (hr : r.Ok M w) : Fx Tryz.prog 124 [.agg (ruC r).toArray] w (fun u w' => u = .bool (worksRu r) ∧ Grow w w') := by
  refine enter Tryz.func124 rfl rfl rfl _ (Pick.sub (l := [0]) (.cons rfl .nil)) ?_
  refine RK.seq ?_
  refine RK.region ?_
  refine RL.op (.free rfl) rfl rfl (Does.box rfl) ?_
  rintro _ w1 ⟨b1, rfl, hn1⟩
  refine RL.p rfl rfl ?_
  refine RL.done ?_
  refine RK.seq ?_
  refine RK.region ?_
  refine RL.q (.free rfl) rfl rfl (Yld.loadN (cs := ruC r) a90 rfl (atN (blk0' hn1.blk))) ?_
  refine RL.op (.free rfl) rfl rfl (Does.call rfl e151 (isRule_ok M r _ (hr.mod (Mod.any' hn1.grow)))) ?_
  rintro _ w2 ⟨rfl, hg2⟩
  have hg12 := hn1.grow.trans hg2
  refine RL.p rfl rfl ?_
  first | refine RL.splitD (d := 5) rfl rfl (fun h4 => ?_) (fun h4 => ?_) | refine RL.splitN (d := 5) rfl rfl (fun h4 => ?_) (fun h4 => ?_) | refine RL.split (d := 5) rfl rfl (fun h4 => ?_) (fun h4 => ?_)
  · refine RL.q (.yes rfl rfl rfl) rfl rfl (Yld.loadN (cs := ruC r) a90 rfl (atN (blk0' (hn1.blk.mod hg2 (fun h => h))))) ?_
    refine RL.op (.yes rfl rfl rfl) rfl rfl (Does.call rfl e152 (largeRu_ok M r _ (hr.mod (Mod.any' hg12)))) ?_
    rintro _ w3 ⟨rfl, hg3⟩
    refine RL.q (.yes rfl rfl rfl) rfl rfl (Yld.pure rfl) ?_
    iterate 2 refine RL.p rfl rfl ?_
    refine RL.done ?_
    refine RK.ret_of Tryz.func124 (res1 rfl rfl) ?_ _
    exact ⟨_, rfl, by unfold worksRu; rw [h4]; rfl, hg12.trans hg3⟩
  · iterate 3 refine RL.no (.no rfl rfl rfl rfl) rfl rfl ?_
    iterate 2 refine RL.p rfl rfl ?_
    refine RL.done ?_
    refine RK.ret_of Tryz.func124 (res1 rfl rfl) ?_ _
    exact ⟨_, rfl, by unfold worksRu; rw [show isRu _ = false by simpa using h4]; rfl, hg12⟩
end Go.Proofs.YtbcbfjnlnmhpbaaGreat
set_option linter.unusedVariables false
set_option linter.unusedSimpArgs false
namespace Go.X
open Go Go.RowKit
def bytesV (l : List UInt8) : List Value := l.map fun b => Value.int .u8 (b.toNat : Int)
theorem bytesV_len (l : List UInt8) : (bytesV l).length = l.length := by simp [bytesV]
theorem bytesV_app (a b : List UInt8) : bytesV (a ++ b) = bytesV a ++ bytesV b := by simp [bytesV]
theorem bytesV_str (s : ByteArray) : Go.Lib.strCells s = bytesV s.data.toList := rfl
theorem bytesV_one (l : List UInt8) : (bytesV l).all (·.oneCell') = true := by
  rw [List.all_eq_true]
  intro u hu
  obtain ⟨b, _, rfl⟩ := List.mem_map.1 hu
  rfl
section
variable {P : Program} {n : Nat} {e : Env} {w : World} {C : World → Prop}
theorem Does.appendStr {d : Option Tmp} {t u el : Nat} {s x : Operand} {ty : TypeId} {pos : String} {af : Array Edge} {g : Option (Nat × Bool)} (ht : SlT P t el) (hu : P.underlying u = some .string) (hT : TI P el (.int .u8 0) 1 1)
    {v : Value} {k base : Nat} {xs : List Value} {str : ByteArray} (hs : ev e s = some v) (hx : ev e x = some (.string str)) (hown : Row w el 1 v k xs) (hf : ∀ b, v.ownBlock = some b → base ≤ b) (hbase : base ≤ w.heap.size) (hb : k + str.size ≤ 140737488355328) :
    Does P n e w ⟨d, .call { callee := .builtin .append, args := #[s, x], argTypes := #[t, u] }, ty, pos, af, g⟩
      (fun v' w' => Row w' el 1 v' (k + str.size) (xs ++ bytesV str.data.toList) ∧ (∀ b, v'.ownBlock = some b → base ≤ b) ∧ Mod (fun b => v.ownBlock = some b) w w') := by
  obtain ⟨i, hi, hz, hs1, hby⟩ := hT.out
  have hown2 : w.ownsRow base el 1 v k xs := by
    refine ⟨hown.1, ?_⟩
    rcases hown.2 with h | ⟨g, cap, cur, rfl, _, r⟩
    · exact .inl h
    · exact .inr ⟨g, cap, cur, rfl, hf g rfl, r⟩
  obtain ⟨v', w', hr, ho, hg, _⟩ := Go.Lib.run_append_own_string (P := P) w base t u ty el i ht hu hi hz hs1 hby v k xs hown2 str (by simp only [maxLen]; omega) hb hbase
  rw [bytesV_str] at ho
  refine Does.of_run (v := v') (w' := w') (fun a ha => ?_) ⟨⟨ho.1, ?_⟩, fun b hb' => ?_, Mod.grownBy hg (fun k h => h)⟩
  · simp [execOp, resolve, invoke, builtin, ha.ev hs, ha.ev hx, hr]
  · rcases ho.2 with h | ⟨g, cap, cur, rfl, _, r⟩
    · exact .inl h
    · exact .inr ⟨g, cap, cur, rfl, Nat.zero_le _, r⟩
  · exact (World.ownsRow.lt ho b hb').1
theorem mkS_data (xs : List Int) : (mkS xs).data.toList = xs.map fun n => UInt8.ofNat n.toNat := by
  unfold mkS
  have key : ∀ (xs : List Int) (s : ByteArray), (xs.foldl (fun r n => r.push (UInt8.ofNat n.toNat)) s).data.toList = s.data.toList ++ xs.map fun n => UInt8.ofNat n.toNat := by
    intro xs
    induction xs with
    | nil => intro s; simp
    | cons x xs ih => intro s; rw [List.foldl_cons, ih]; simp [ByteArray.push]
  rw [key]
  rfl
theorem mkS_bytes (l : List UInt8) : mkS (l.map fun b => (b.toNat : Int)) = ⟨l.toArray⟩ := by
  apply ByteArray.ext
  apply Array.toList_inj.1
  rw [mkS_data, List.map_map]
  show _ = l
  conv => rhs; rw [← List.map_id l]
  apply List.map_congr_left
  intro x _
  simp
theorem Yld.bytesSl {d : Option Tmp} {src dst el : Nat} {x : Operand} {ty : TypeId} {pos : String} {af : Array Edge} {g : Option (Nat × Bool)} (hs : SlT P src el) (he : P.underlying el = some (.int .u8)) (hd : P.underlying dst = some .string) {v : Value} {l : List UInt8} (hx : ev e x = some v) (hv : ∀ w, C w → Sl No w v 1 l.length (bytesV l)) :
    Yld P n C e ⟨d, .convert src dst x, ty, pos, af, g⟩ (.string ⟨l.toArray⟩) := by
  intro ac ha w hw
  obtain ⟨ad, c, rfl, hf⟩ := (hv w hw).form
  have hm : bytesV l = (l.map fun b => (b.toNat : Int)).map (Value.int .u8) := by simp [bytesV]
  cases ad with
  | some a =>
    by_cases hn : 0 < l.length
    · obtain ⟨b, o, ha2, _, hc⟩ := hf hn
      cases ha2
      have h1 := run_loadCells_list (P := P) w ⟨b, o, none⟩ (bytesV l) (fun j v hj => by rw [add_none]; exact hc j v hj)
      have h2 := run_bytesToString (P := P) w ⟨b, o, none⟩ l.length c (l.map fun b => (b.toNat : Int)) (by rw [bytesV_len, hm] at h1; exact h1)
      simp only [execOp, ha.ev hx, Sem.run_bind, run_convert_bytes_string w src dst el _ _ c hs he hd, h2, Result.andThen_ok, Sem.run_pure]
      rw [show (l.map fun b => (b.toNat : Int)).foldl (fun r n => r.push (UInt8.ofNat n.toNat)) ByteArray.empty = mkS (l.map fun b => (b.toNat : Int)) from rfl, mkS_bytes]
    · have hl : l = [] := List.length_eq_zero_iff.1 (by omega)
      subst hl
      have h2 := run_bytesToString (P := P) w a 0 c [] (by simp [loadCells, loadCellsFrom])
      simp only [execOp, ha.ev hx, Sem.run_bind, List.length_nil, run_convert_bytes_string w src dst el _ _ c hs he hd, h2, Result.andThen_ok, Sem.run_pure]
      rfl
  | none =>
    have hl : l = [] := by
      by_cases hn : 0 < l.length
      · obtain ⟨b, o, ha2, _⟩ := hf hn
        cases ha2
      · exact List.length_eq_zero_iff.1 (by omega)
    subst hl
    have h2 := run_convert_bytes_nil (P := P) (w := w) src el hs he 0 c dst hd
    simp only [execOp, ha.ev hx, Sem.run_bind, List.length_nil, h2, Result.andThen_ok, Sem.run_pure]
    rfl
end
end Go.X
set_option linter.unusedVariables false
set_option linter.unusedSimpArgs false
set_option maxHeartbeats 1000000
set_option maxRecDepth 100000
namespace Go.Proofs.YtbcbfjnlnmhpbaaGreat
open Go Go.X Go.Rex
def putB (n : Nat) : List UInt8 := if h : n < 128 then [UInt8.ofNat n] else UInt8.ofNat (n % 128 + 128) :: putB (n / 128)
termination_by n
decreasing_by omega
theorem putB_lo {n : Nat} (h : n < 128) : putB n = [UInt8.ofNat n] := by rw [putB, dif_pos h]
theorem putB_hi {n : Nat} (h : ¬ n < 128) : putB n = UInt8.ofNat (n % 128 + 128) :: putB (n / 128) := by rw [putB, dif_neg h]
theorem ofNat_lo {n : Nat} (h : n < 256) : (UInt8.ofNat n).toNat = n := by simp [UInt8.toNat_ofNat']; omega
def putT (s : ByteArray) : List UInt8 := putB s.size ++ s.data.toList
def keyB (es : List ByteArray) (ls : List Lab) : List UInt8 := es.flatMap fun x => putT (getL ls x)
theorem or_byte (n : Nat) : IntKind.u8.wrap (BitVec.ofInt IntKind.u8.bits (IntKind.u8.wrap (n : Int)) ||| BitVec.ofInt IntKind.u8.bits 128).toNat = ((n % 128 + 128 : Nat) : Int) := by
  have h1 : IntKind.u8.wrap (n : Int) = ((n % 256 : Nat) : Int) := by simp [IntKind.wrap, IntKind.signed, IntKind.bits]
  rw [h1]
  have h2 : n % 128 = (n % 256) % 128 := by omega
  rw [h2]
  have h3 : n % 256 < 256 := Nat.mod_lt _ (by omega)
  generalize n % 256 = m at h3
  have key : ∀ m, m < 256 → IntKind.u8.wrap (BitVec.ofInt IntKind.u8.bits ((m : Nat) : Int) ||| BitVec.ofInt IntKind.u8.bits 128).toNat = ((m % 128 + 128 : Nat) : Int) := by decide +kernel
  exact key m h3
theorem lo_byte {n : Nat} (h : n < 128) : IntKind.u8.wrap (n : Int) = ((UInt8.ofNat n).toNat : Int) := by
  rw [ofNat_lo (by omega)]
  simp [IntKind.wrap, IntKind.signed, IntKind.bits]
  omega
theorem vput_ok (n : Nat) (hn : n < 18446744073709551616) (w : World) : Fx Tryz.prog 183 [.int .u64 n] w (fun u w' => Row w' 5 1 u (putB n).length (bytesV (putB n)) ∧ Fresh w.heap.size u ∧ Grow w w') := by
  refine enter Tryz.func183 rfl rfl rfl _ (Pick.sub (l := [0]) (.cons rfl .nil)) ?_
  refine RK.seq ?_
  refine RK.region ?_
  refine RL.p rfl rfl ?_
  refine RL.done ?_
  refine RK.seq ?_
  refine RK.region ?_
  refine RL.p rfl rfl ?_
  refine RL.done ?_
  refine RK.seq ?_
  refine RK.block ?_
  refine RK.loop (fun s : Nat × List UInt8 × Value => [(0, .int .u64 (s.1 : Int)), (3, s.2.2)]) (fun s w' => Row w' 5 1 s.2.2 s.2.1.length (bytesV s.2.1) ∧ Fresh w.heap.size s.2.2 ∧ Grow w w' ∧ s.1 < 18446744073709551616 ∧ (s.2.1.length = 0 ∨ 1 ≤ s.1) ∧ s.2.1 ++ putB s.1 = putB n ∧ s.1 * 128 ^ s.2.1.length ≤ n) (fun s => s.1) (n, [], .slice none 0 0) ⟨rfl, rfl, trivial⟩ ⟨by simpa [bytesV] using Row.nil _ _ _, fun b e => by simp [Value.ownBlock] at e, Mod.refl _ _, hn, by simp, by simp, by simp⟩ (fun s w' hI ih => ?_)
  obtain ⟨m, l, u⟩ := s
  obtain ⟨hr, hf, hg, hm, hl, hst, hpw⟩ := hI
  simp only at hr hf hm hl hst hpw
  have hl10 : l.length ≤ 10 := by
      rcases Nat.lt_or_ge 10 l.length with h | h
      · have h1 : 128 ^ 10 ≤ 128 ^ l.length := Nat.pow_le_pow_right (by omega) (by omega)
        have h2 : 1 * 128 ^ l.length ≤ m * 128 ^ l.length := Nat.mul_le_mul_right _ (by omega)
        have h3 : (18446744073709551616 : Nat) < 128 ^ 10 := by decide
        omega
      · exact h
  iterate 2 refine RK.seq ?_
  refine RK.region ?_
  iterate 2 refine RL.p rfl rfl ?_
  refine RL.done ?_
  first | refine RK.condD rfl (fun h5 => ?_) (fun h5 => ?_) | refine RK.condN rfl (fun h5 => ?_) (fun h5 => ?_) | refine RK.cond rfl (fun h5 => ?_) (fun h5 => ?_)
  · have h128 : ¬ m < 128 := by omega
    refine RK.skip ?_
    refine RK.block ?_
    refine RK.seq ?_
    refine RK.region ?_
    iterate 2 refine RL.p rfl rfl ?_
    refine RL.q (.free rfl) rfl rfl (Yld.convI Tryz.underlying22 Tryz.underlying5 rfl) ?_
    refine RL.p rfl rfl ?_
    refine RL.re (d := 9) rfl rfl (congrArg (Value.int .u8) ((or_byte m).trans (by rw [ofNat_lo (by omega)] : _ = ((UInt8.ofNat (m % 128 + 128)).toNat : Int)))) ?_
    refine RL.op (.free rfl) rfl rfl (Does.slice1 u208 i5 rfl rfl rfl rfl rfl) ?_
    rintro _ w2 ⟨b2, rfl, hn2⟩
    refine RL.op (.free rfl) rfl rfl (Does.append u208 i5 rfl rfl rfl rfl rfl (hr.mod hn2.grow (fun _ _ h => h)) (Sl.new hn2 1 1 rfl (by omega) (fun h => h)) (rfl) (by omega)) ?_
    rintro u3 w3 ⟨hr3, hm3, hu3⟩
    have hs2 := hn2.grow.size
    have hs0 := hg.size
    refine RL.p rfl rfl ?_
    refine RL.done ?_
    refine RK.region ?_
    refine RL.p rfl rfl ?_
    refine RL.q (.free rfl) rfl rfl (Yld.shr (a := m) (s := 7) rfl rfl (by decide)) ?_
    refine RL.re (d := 13) rfl rfl (congrArg (Value.int .u64) (by rw [Nat.shiftRight_eq_div_pow] : _ = ((m / 128 : Nat) : Int))) ?_
    refine RL.p rfl rfl ?_
    refine RL.done ?_
    refine RK.inBlock ?_
    exact RK.back (ih (m / 128, l ++ [UInt8.ofNat (m % 128 + 128)], u3) _ ⟨by
        simp only
        rw [bytesV_app, List.length_append]; exact hr3, fun b e => by
        rcases hu3 with h1 | h1
        · exact hf b (h1 ▸ e)
        · rw [h1] at e; cases e; omega, (hg.trans hn2.grow).then hm3 (fun b hb e => by have := hf b e; omega), by simp only; omega, by simp only; omega, by simp only; rw [List.append_assoc, ← hst, putB_hi h128]; rfl, by
        simp only
        rw [List.length_append]
        have h1 : m / 128 * 128 ≤ m := Nat.div_mul_le_self m 128
        calc m / 128 * 128 ^ (l.length + 1) = m / 128 * 128 * 128 ^ l.length := by rw [Nat.pow_succ, Nat.mul_assoc, Nat.mul_comm 128]
          _ ≤ m * 128 ^ l.length := Nat.mul_le_mul_right _ h1
          _ ≤ n := hpw⟩ (by simp only; omega)) ⟨rfl, rfl, trivial⟩
  · have h128 : m < 128 := by omega
    refine RK.exit rfl ?_
    refine RK.seq ?_
    refine RK.region ?_
    iterate 2 refine RL.p rfl rfl ?_
    refine RL.q (.free rfl) rfl rfl (Yld.convI Tryz.underlying22 Tryz.underlying5 rfl) ?_
    refine RL.re (d := 16) rfl rfl (congrArg (Value.int .u8) (lo_byte h128)) ?_
    refine RL.op (.free rfl) rfl rfl (Does.slice1 u208 i5 rfl rfl rfl rfl rfl) ?_
    rintro _ w2 ⟨b2, rfl, hn2⟩
    refine RL.op (.free rfl) rfl rfl (Does.append u208 i5 rfl rfl rfl rfl rfl (hr.mod hn2.grow (fun _ _ h => h)) (Sl.new hn2 1 1 rfl (by omega) (fun h => h)) (rfl) (by omega)) ?_
    rintro u3 w3 ⟨hr3, hm3, hu3⟩
    have hs2 := hn2.grow.size
    have hs0 := hg.size
    refine RL.p rfl rfl ?_
    refine RL.done ?_
    refine RK.ret_of Tryz.func183 (res1 rfl rfl) ?_ _
    exact ⟨_, rfl, by
        rw [← hst, putB_lo h128, bytesV_app, List.length_append]; exact hr3, fun b e => by
        rcases hu3 with h1 | h1
        · exact hf b (h1 ▸ e)
        · rw [h1] at e; cases e; omega, (hg.trans hn2.grow).then hm3 (fun b hb e => by have := hf b e; omega)⟩
theorem putB_len (n : Nat) (hn : n < 18446744073709551616) : (putB n).length ≤ 20 := by
  have key : ∀ (k n : Nat), n < 128 ^ k → (putB n).length ≤ k + 1 := by
    intro k
    induction k with
    | zero => intro n h; rw [putB_lo (by omega)]; simp
    | succ k ih =>
      intro n h
      by_cases h1 : n < 128
      · rw [putB_lo h1]; simp
      · rw [putB_hi h1, List.length_cons]
        have := ih (n / 128) (Nat.div_lt_of_lt_mul (by rw [Nat.pow_succ] at h; rw [Nat.mul_comm]; exact h))
        omega
  have := key 10 n (Nat.lt_trans hn (by decide))
  omega
theorem putT_ok (s : ByteArray) (hs : s.size ≤ 100000000) (w : World) : Fx Tryz.prog 153 [.string s] w (fun u w' => Row w' 5 1 u (putT s).length (bytesV (putT s)) ∧ Fresh w.heap.size u ∧ Grow w w') := by
  refine enter Tryz.func153 rfl rfl rfl _ (Pick.sub (l := [0]) (.cons rfl .nil)) ?_
  refine RK.seq ?_
  refine RK.region ?_
  refine RL.p rfl rfl ?_
  refine RL.done ?_
  refine RK.seq ?_
  refine RK.region ?_
  refine RL.p rfl rfl ?_
  refine RL.q (.free rfl) rfl rfl (Yld.lenStr u9 rfl) ?_
  refine RL.q (.free rfl) rfl rfl (Yld.convI Tryz.underlying3 Tryz.underlying22 rfl) ?_
  refine RL.re (d := 5) rfl rfl (congrArg (Value.int .u64) (wrap_u64 (x := s.size) (by omega))) ?_
  refine RL.op (.free rfl) rfl rfl (Does.call rfl e183 (vput_ok s.size (by omega) _)) ?_
  rintro u1 w1 ⟨hr1, hf1, hg1⟩
  have hpl := putB_len s.size (by omega)
  refine RL.p rfl rfl ?_
  refine RL.op (.free rfl) rfl rfl (Does.appendStr u208 Tryz.underlying9 i5 rfl rfl hr1 hf1 hg1.size (by omega)) ?_
  rintro u2 w2 ⟨hr2, hf2, hm2⟩
  refine RL.p rfl rfl ?_
  refine RL.done ?_
  refine RK.ret_of Tryz.func153 (res1 rfl rfl) ?_ _
  exact ⟨_, rfl, by
      unfold putT
      rw [bytesV_app, List.length_append, show s.data.toList.length = s.size from Array.length_toList]; exact hr2, hf2, hg1.then hm2 (fun b hb e => by have := hf1 b e; omega)⟩
theorem keyB_snoc {es : List ByteArray} {k : Nat} {x : ByteArray} (hx : es[k]? = some x) (ls : List Lab) : keyB (es.take (k + 1)) ls = keyB (es.take k) ls ++ putT (getL ls x) := by
  have hk := (List.getElem?_eq_some_iff.1 hx).1
  unfold keyB
  rw [List.take_succ_eq_append_getElem hk, (List.getElem?_eq_some_iff.1 hx).2, List.flatMap_append]
  simp
theorem putT_len {ls : List Lab} (hz : ∀ x ∈ ls, x.value.size ≤ 100000) (x : ByteArray) : (putT (getL ls x)).length ≤ 100020 := by
  have h1 := getL_size hz x
  have h2 := putB_len (getL ls x).size (by omega)
  unfold putT
  rw [List.length_append, show (getL ls x).data.toList.length = (getL ls x).size from Array.length_toList]
  omega
theorem keyB_len {ls : List Lab} (hz : ∀ x ∈ ls, x.value.size ≤ 100000) : ∀ es : List ByteArray, (keyB es ls).length ≤ 100020 * es.length
  | [] => by simp [keyB]
  | x :: es => by
    have h1 := keyB_len hz es
    have h2 := putT_len hz x
    unfold keyB at h1 ⊢
    rw [List.flatMap_cons, List.length_append, List.length_cons]
    omega
def keyT (es : List ByteArray) (ls : List Lab) : ByteArray := ⟨(keyB es ls).toArray⟩
theorem project_ok (M M' : Nat → Prop) (es : List ByteArray) (h4 : es.length ≤ 4) (ls : List Lab) (hz : ∀ x ∈ ls, x.value.size ≤ 100000) (vl ve : Value) (w : World) (hl : SlL M w vl ls) (he : Sl M' w ve 1 es.length (strsV es)) :
    Fx Tryz.prog 125 [vl, ve] w (fun u w' => u = .string (keyT es ls) ∧ Grow w w') := by
  obtain ⟨ade, ce, rfl⟩ := he.shape
  obtain ⟨adl, cl, hvl⟩ := hl.shape
  refine enter Tryz.func125 rfl rfl rfl _ (Pick.sub (l := [0, 1]) (.cons rfl (.cons rfl .nil))) ?_
  refine RK.seq ?_
  refine RK.region ?_
  refine RL.p rfl rfl ?_
  refine RL.done ?_
  refine RK.seq ?_
  refine RK.region ?_
  refine RL.p rfl rfl ?_
  refine RL.done ?_
  iterate 2 refine RK.seq ?_
  refine RK.region ?_
  refine RL.p rfl rfl ?_
  refine RL.q (.free rfl) rfl rfl (Yld.lenSl u88 rfl) ?_
  refine RL.p rfl rfl ?_
  refine RL.done ?_
  refine RK.block ?_
  refine RK.loop (fun s : Nat × Value => [(0, vl), (5, s.2), (8, .slice ade es.length ce), (9, .int .i64 (es.length : Int)), (10, .int .i64 (s.1 : Int))]) (fun s w' => Row w' 5 1 s.2 (keyB (es.take s.1) ls).length (bytesV (keyB (es.take s.1) ls)) ∧ Fresh w.heap.size s.2 ∧ Grow w w' ∧ s.1 ≤ es.length) (fun s => es.length - s.1) (0, .slice none 0 0) ⟨rfl, rfl, rfl, rfl, rfl, trivial⟩ ⟨by simpa [keyB, bytesV] using Row.nil _ _ _, fun b e => by simp [Value.ownBlock] at e, Mod.refl _ _, by simp⟩ (fun s w' hI ih => ?_)
  obtain ⟨k, u⟩ := s
  obtain ⟨hr, hf, hg, hk⟩ := hI
  simp only at hr hf hk
  refine RK.seq ?_
  refine RK.region ?_
  refine RL.p rfl rfl ?_
  refine RL.done ?_
  refine RK.seq ?_
  first | refine RK.condD rfl (fun h11 => ?_) (fun h11 => ?_) | refine RK.condN rfl (fun h11 => ?_) (fun h11 => ?_) | refine RK.cond rfl (fun h11 => ?_) (fun h11 => ?_)
  · obtain ⟨x, hx⟩ : ∃ x, es[k]? = some x := ⟨es[k]'(by omega), List.getElem?_eq_getElem (by omega)⟩
    obtain ⟨b2, o2, c', he1, _, _, hc1⟩ := (he.mod (Mod.any' hg)).elem1 (k := k) (u := .string x) (by simp [strsV, hx])
    cases he1
    refine RK.skip ?_
    refine RK.seq ?_
    refine RK.block ?_
    refine RK.seq ?_
    refine RK.region ?_
    refine RL.q (.free rfl) rfl rfl (Yld.indexAddrN u88 i9 rfl rfl (by omega)) ?_
    refine RL.q (.free rfl) rfl rfl (Yld.load p9 rfl (at1 (hc1 k (.string x) (by simp [strsV, hx])))) ?_
    refine RL.p rfl rfl ?_
    refine RL.done ?_
    refine RK.region ?_
    iterate 3 refine RL.p rfl rfl ?_
    refine RL.op (.free rfl) rfl rfl (Does.call rfl e139 (labelsGet_ok M ls vl x _ (hl.mod (Mod.any' hg)))) ?_
    rintro _ w2 ⟨rfl, hg2⟩
    have hsz := getL_size hz x
    refine RL.op (.free rfl) rfl rfl (Does.call rfl e153 (putT_ok (getL ls x) (by omega) _)) ?_
    rintro u3 w3 ⟨hr3, hf3, hg3⟩
    have hpl := putT_len hz x
    have hkl := keyB_len hz (es.take k)
    have hkl2 : (es.take k).length ≤ 4 := by simp; omega
    refine RL.op (.free rfl) rfl rfl (Does.append u208 i5 rfl rfl rfl rfl rfl (hr.mod (hg2.trans hg3) (fun _ _ h => h)) (Sl.own hr3 (fun _ _ h => h)) (bytesV_one _) (by omega)) ?_
    rintro u4 w4 ⟨hr4, hm4, hu4⟩
    have hs2 := hg2.size
    have hs3 := hg3.size
    have hs0 := hg.size
    refine RL.p rfl rfl ?_
    refine RL.done ?_
    refine RK.inBlock ?_
    refine RK.region ?_
    refine RL.p rfl rfl ?_
    refine RL.re (d := 20) rfl rfl (succ_i64 (by omega)) ?_
    refine RL.p rfl rfl ?_
    refine RL.done ?_
    exact RK.back (ih (k + 1, u4) _ ⟨by
        simp only
        rw [keyB_snoc hx, bytesV_app, List.length_append]; exact hr4, fun b e => by
        rcases hu4 with h1 | h1
        · exact hf b (h1 ▸ e)
        · rw [h1] at e; cases e; omega, (hg.trans (hg2.trans hg3)).then hm4 (fun b hb e => by have := hf b e; omega), by simp only; omega⟩ (by simp only; omega)) ⟨rfl, rfl, rfl, rfl, rfl, trivial⟩
  · rw [List.take_of_length_le (by omega)] at hr
    refine RK.exit rfl ?_
    refine RK.seq ?_
    refine RK.region ?_
    refine RL.p rfl rfl ?_
    refine RL.q (.free rfl) rfl rfl (Yld.bytesSl u208 Tryz.underlying5 Tryz.underlying9 rfl (fun w9 h9 => h9 ▸ Sl.own hr (fun _ _ h => h))) ?_
    refine RL.p rfl rfl ?_
    refine RL.done ?_
    refine RK.ret_of Tryz.func125 (res1 rfl rfl) ?_ _
    exact ⟨_, rfl, rfl, hg⟩
theorem ruleKey_ok (M M' : Nat → Prop) (r : Ru) (h4 : r.eq.length ≤ 4) (a : Al) (hz : ∀ x ∈ a.ls, x.value.size ≤ 100000) (w : World) (hr : r.Ok M w) (ha : SlL M' w a.v a.ls) : Fx Tryz.prog 85 [.agg (ruC r).toArray, .agg (alC a).toArray] w (fun u w' => u = .string (keyT r.eq a.ls) ∧ Grow w w') := by
  refine enter Tryz.func85 rfl rfl rfl _ (Pick.sub (l := [0, 1]) (.cons rfl (.cons rfl .nil))) ?_
  refine RK.seq ?_
  refine RK.region ?_
  refine RL.op (.free rfl) rfl rfl (Does.box rfl) ?_
  rintro _ w1 ⟨b1, rfl, hn1⟩
  refine RL.op (.free rfl) rfl rfl (Does.box rfl) ?_
  rintro _ w2 ⟨b2, rfl, hn2⟩
  have hB1 : Blk w2 b1 90 [r.sv, r.tv, .bool r.bd.all, .float .f64 r.bd.lo, .float .f64 r.bd.hi, r.ev] := hn1.blk.mod hn2.grow (fun h => h)
  have hB2 : Blk w2 b2 82 [.int .i64 a.id, a.v, .float .f64 a.val] := hn2.blk
  have hg2 := hn1.grow.trans hn2.grow
  refine RL.p rfl rfl ?_
  refine RL.done ?_
  refine RK.seq ?_
  refine RK.region ?_
  refine RL.q (.free rfl) rfl rfl (Yld.fieldAddr fo82_1 rfl) ?_
  refine RL.q (.free rfl) rfl rfl (Yld.load p39 rfl (at1 (hB2.cell rfl))) ?_
  refine RL.q (.free rfl) rfl rfl (Yld.fieldAddr fo90_3 rfl) ?_
  refine RL.q (.free rfl) rfl rfl (Yld.load p88 rfl (at1 (hB1.cell rfl))) ?_
  refine RL.op (.free rfl) rfl rfl (Does.call rfl e125 (project_ok M' M r.eq h4 a.ls hz _ _ _ (ha.mod (Mod.any' hg2)) (hr.e.mod (Mod.any' hg2)))) ?_
  rintro _ w3 ⟨rfl, hg3⟩
  refine RL.p rfl rfl ?_
  refine RL.done ?_
  refine RK.ret_of Tryz.func85 (res1 rfl rfl) ?_ _
  exact ⟨_, rfl, rfl, hg2.trans hg3⟩
end Go.Proofs.YtbcbfjnlnmhpbaaGreat
set_option linter.unusedVariables false
set_option linter.unusedSimpArgs false
set_option maxHeartbeats 1000000
set_option maxRecDepth 100000
namespace Go.Proofs.YtbcbfjnlnmhpbaaGreat
open Go Go.X Go.Rex
noncomputable def targetS (r : Ru) (ls : List Lab) : Bool := worksRu r && r.tgt.all fun m => holdsM m ls
noncomputable def sourceS (r : Ru) (ls : List Lab) (val : Nat) : Bool := (worksRu r && r.src.all fun m => holdsM m ls) && inBd r.bd val
noncomputable def mutesS (r : Ru) (s t : Al) : Bool := targetS r t.ls && (sourceS r s.ls s.val && (!sourceS r t.ls t.val && decide (keyT r.eq s.ls = keyT r.eq t.ls)))
theorem isRu_le {r : Ru} (h : isRu r = true) : r.eq.length ≤ 4 := by
  unfold isRu at h
  simp only [Bool.and_eq_true, Bool.not_eq_true', decide_eq_false_iff_not] at h
  omega
theorem target_le {r : Ru} {ls : List Lab} (h : targetS r ls = true) : r.eq.length ≤ 4 := by
  unfold targetS worksRu at h
  simp only [Bool.and_eq_true] at h
  exact isRu_le h.1.1
structure AlOk (M : Nat → Prop) (w : World) (a : Al) : Prop where
  l : SlL M w a.v a.ls
  z : ∀ x ∈ a.ls, x.value.size ≤ 100000
theorem AlOk.mod {M : Nat → Prop} {w w' : World} {a : Al} (h : AlOk M w a) (hm : Mod M w w') : AlOk M w' a := ⟨h.l.mod hm, h.z⟩
theorem target_ok (M M' : Nat → Prop) (r : Ru) (a : Al) (w : World) (hr : r.Ok M w) (ha : AlOk M' w a) : Fx Tryz.prog 88 [.agg (ruC r).toArray, .agg (alC a).toArray] w (fun u w' => u = .bool (targetS r a.ls) ∧ Grow w w') := by
  refine enter Tryz.func88 rfl rfl rfl _ (Pick.sub (l := [0, 1]) (.cons rfl (.cons rfl .nil))) ?_
  refine RK.seq ?_
  refine RK.region ?_
  refine RL.op (.free rfl) rfl rfl (Does.box rfl) ?_
  rintro _ w1 ⟨b1, rfl, hn1⟩
  refine RL.op (.free rfl) rfl rfl (Does.box rfl) ?_
  rintro _ w2 ⟨b2, rfl, hn2⟩
  have hB1 : Blk w2 b1 90 (ruC r) := hn1.blk.mod hn2.grow (fun h => h)
  have hB2 : Blk w2 b2 82 (alC a) := hn2.blk
  have hg2 := hn1.grow.trans hn2.grow
  refine RL.p rfl rfl ?_
  refine RL.done ?_
  refine RK.seq ?_
  refine RK.region ?_
  refine RL.q (.free rfl) rfl rfl (Yld.loadN (cs := ruC r) a90 rfl (atN (blk0' hB1))) ?_
  refine RL.op (.free rfl) rfl rfl (Does.call rfl e124 (works_ok M r _ (hr.mod (Mod.any' hg2)))) ?_
  rintro _ w3 ⟨rfl, hg3⟩
  have hg03 := hg2.trans hg3
  refine RL.p rfl rfl ?_
  first | refine RL.splitD (d := 7) rfl rfl (fun h6 => ?_) (fun h6 => ?_) | refine RL.splitN (d := 7) rfl rfl (fun h6 => ?_) (fun h6 => ?_) | refine RL.split (d := 7) rfl rfl (fun h6 => ?_) (fun h6 => ?_)
  · refine RL.q (.yes rfl rfl rfl) rfl rfl (Yld.fieldAddr fo90_1 rfl) ?_
    refine RL.q (.yes rfl rfl rfl) rfl rfl (Yld.load p28 rfl (at1 ((hB1.mod hg3 (fun h => h)).cell rfl))) ?_
    refine RL.q (.yes rfl rfl rfl) rfl rfl (Yld.fieldAddr fo82_1 rfl) ?_
    refine RL.q (.yes rfl rfl rfl) rfl rfl (Yld.load p39 rfl (at1 ((hB2.mod hg3 (fun h => h)).cell rfl))) ?_
    refine RL.op (.yes rfl rfl rfl) rfl rfl (Does.call rfl e52 (allM_ok holdsM r.tgt (fun m _ => matchHolds_ok m) M' M a.ls ha.z _ _ _ (hr.t.mod (Mod.any' hg03)) (ha.l.mod (Mod.any' hg03)))) ?_
    rintro _ w4 ⟨rfl, hg4⟩
    iterate 2 refine RL.p rfl rfl ?_
    refine RL.done ?_
    refine RK.ret_of Tryz.func88 (res1 rfl rfl) ?_ _
    exact ⟨_, rfl, by unfold targetS; rw [h6]; rfl, hg03.trans hg4⟩
  · iterate 5 refine RL.no (.no rfl rfl rfl rfl) rfl rfl ?_
    iterate 2 refine RL.p rfl rfl ?_
    refine RL.done ?_
    refine RK.ret_of Tryz.func88 (res1 rfl rfl) ?_ _
    exact ⟨_, rfl, by unfold targetS; rw [show worksRu r = false by simpa using h6]; rfl, hg03⟩
theorem source_ok (M M' : Nat → Prop) (r : Ru) (a : Al) (w : World) (hr : r.Ok M w) (ha : AlOk M' w a) : Fx Tryz.prog 84 [.agg (ruC r).toArray, .agg (alC a).toArray] w (fun u w' => u = .bool (sourceS r a.ls a.val) ∧ Grow w w') := by
  refine enter Tryz.func84 rfl rfl rfl _ (Pick.sub (l := [0, 1]) (.cons rfl (.cons rfl .nil))) ?_
  refine RK.seq ?_
  refine RK.region ?_
  refine RL.op (.free rfl) rfl rfl (Does.box rfl) ?_
  rintro _ w1 ⟨b1, rfl, hn1⟩
  refine RL.op (.free rfl) rfl rfl (Does.box rfl) ?_
  rintro _ w2 ⟨b2, rfl, hn2⟩
  have hB1 : Blk w2 b1 90 (ruC r) := hn1.blk.mod hn2.grow (fun h => h)
  have hB2 : Blk w2 b2 82 (alC a) := hn2.blk
  have hg2 := hn1.grow.trans hn2.grow
  refine RL.p rfl rfl ?_
  refine RL.done ?_
  refine RK.seq ?_
  refine RK.region ?_
  refine RL.q (.free rfl) rfl rfl (Yld.loadN (cs := ruC r) a90 rfl (atN (blk0' hB1))) ?_
  refine RL.op (.free rfl) rfl rfl (Does.call rfl e124 (works_ok M r _ (hr.mod (Mod.any' hg2)))) ?_
  rintro _ w3 ⟨rfl, hg3⟩
  have hg03 := hg2.trans hg3
  refine RL.p rfl rfl ?_
  first | refine RL.splitD (d := 7) rfl rfl (fun h6 => ?_) (fun h6 => ?_) | refine RL.splitN (d := 7) rfl rfl (fun h6 => ?_) (fun h6 => ?_) | refine RL.split (d := 7) rfl rfl (fun h6 => ?_) (fun h6 => ?_)
  · refine RL.q (.yes rfl rfl rfl) rfl rfl (Yld.fieldAddr fo90_0 rfl) ?_
    refine RL.q (.yes rfl rfl rfl) rfl rfl (Yld.load p28 rfl (at1 ((hB1.mod hg3 (fun h => h)).cell rfl))) ?_
    refine RL.q (.yes rfl rfl rfl) rfl rfl (Yld.fieldAddr fo82_1 rfl) ?_
    refine RL.q (.yes rfl rfl rfl) rfl rfl (Yld.load p39 rfl (at1 ((hB2.mod hg3 (fun h => h)).cell rfl))) ?_
    refine RL.op (.yes rfl rfl rfl) rfl rfl (Does.call rfl e52 (allM_ok holdsM r.src (fun m _ => matchHolds_ok m) M' M a.ls ha.z _ _ _ (hr.s.mod (Mod.any' hg03)) (ha.l.mod (Mod.any' hg03)))) ?_
    rintro _ w4 ⟨rfl, hg4⟩
    have hg34 := hg3.trans hg4
    iterate 2 refine RL.p rfl rfl ?_
    first | refine RL.splitD (d := 14) rfl rfl (fun h12 => ?_) (fun h12 => ?_) | refine RL.splitN (d := 14) rfl rfl (fun h12 => ?_) (fun h12 => ?_) | refine RL.split (d := 14) rfl rfl (fun h12 => ?_) (fun h12 => ?_)
    · refine RL.q (.yes rfl rfl rfl) rfl rfl (Yld.fieldAddr fo90_2 rfl) ?_
      refine RL.q (.yes rfl rfl rfl) rfl rfl (Yld.loadN (cs := bdC r.bd) a32 rfl (atN (fldN (hB1.mod hg34 (fun h => h)) 2 3))) ?_
      refine RL.q (.yes rfl rfl rfl) rfl rfl (Yld.fieldAddr fo82_2 rfl) ?_
      refine RL.q (.yes rfl rfl rfl) rfl rfl (Yld.load p30 rfl (at1 ((hB2.mod hg34 (fun h => h)).cell rfl))) ?_
      refine RL.op (.yes rfl rfl rfl) rfl rfl (Does.call rfl e53 (in_band_ok r.bd a.val _)) ?_
      rintro _ w5 ⟨rfl, hg5⟩
      iterate 2 refine RL.p rfl rfl ?_
      refine RL.done ?_
      refine RK.ret_of Tryz.func84 (res1 rfl rfl) ?_ _
      exact ⟨_, rfl, by unfold sourceS; rw [h6, h12]; rfl, (hg03.trans hg4).trans hg5⟩
    · iterate 5 refine RL.no (.no rfl rfl rfl rfl) rfl rfl ?_
      iterate 2 refine RL.p rfl rfl ?_
      refine RL.done ?_
      refine RK.ret_of Tryz.func84 (res1 rfl rfl) ?_ _
      exact ⟨_, rfl, by unfold sourceS; rw [h6, show (r.src.all fun m => holdsM m a.ls) = false by simpa only [Bool.not_eq_true] using h12]; rfl, hg03.trans hg4⟩
  · iterate 5 refine RL.no (.no rfl rfl rfl rfl) rfl rfl ?_
    iterate 2 refine RL.p rfl rfl ?_
    iterate 5 refine RL.no (.no rfl rfl rfl rfl) rfl rfl ?_
    iterate 2 refine RL.p rfl rfl ?_
    refine RL.done ?_
    refine RK.ret_of Tryz.func84 (res1 rfl rfl) ?_ _
    exact ⟨_, rfl, by unfold sourceS; rw [show worksRu r = false by simpa using h6]; rfl, hg03⟩
theorem mutes_ok (M M1 M2 : Nat → Prop) (r : Ru) (s t : Al) (w : World) (hr : r.Ok M w) (hs : AlOk M1 w s) (ht : AlOk M2 w t) : Fx Tryz.prog 91 [.agg (ruC r).toArray, .agg (alC s).toArray, .agg (alC t).toArray] w (fun u w' => u = .bool (mutesS r s t) ∧ Grow w w') := by
  refine enter Tryz.func91 rfl rfl rfl _ (Pick.sub (l := [0, 1, 2]) (.cons rfl (.cons rfl (.cons rfl .nil)))) ?_
  refine RK.seq ?_
  refine RK.region ?_
  refine RL.op (.free rfl) rfl rfl (Does.box rfl) ?_
  rintro _ w1 ⟨b1, rfl, hn1⟩
  refine RL.op (.free rfl) rfl rfl (Does.box rfl) ?_
  rintro _ w2 ⟨b2, rfl, hn2⟩
  refine RL.op (.free rfl) rfl rfl (Does.box rfl) ?_
  rintro _ w3 ⟨b3, rfl, hn3⟩
  have hB1 : Blk w3 b1 90 (ruC r) := (hn1.blk.mod hn2.grow (fun h => h)).mod hn3.grow (fun h => h)
  have hB2 : Blk w3 b2 82 (alC s) := hn2.blk.mod hn3.grow (fun h => h)
  have hB3 : Blk w3 b3 82 (alC t) := hn3.blk
  have hg3 := (hn1.grow.trans hn2.grow).trans hn3.grow
  have hgd := hg3.trans (Mod.drew No w3)
  refine RL.p rfl rfl ?_
  refine RL.done ?_
  refine RK.seq ?_
  refine RK.drawM No [(0, false), (1, false), (2, true), (3, false), (4, false), (5, false), (6, true), (7, false), (8, false), (9, false), (10, false), (11, true), (12, false), (13, false), (14, false), (15, false), (16, false), (18, false), (19, false), (17, true), (20, true), (21, false), (22, false), (23, false)] [] mixed (by kernel_rfl) ?_
  refine DL.q rfl (.free rfl) rfl rfl rfl (Yld.loadN (cs := ruC r) a90 rfl (atNM (blk0' hB1) (fun h => h))) (Mod.drew _ _) ?_
  refine DL.q rfl (.free rfl) rfl rfl rfl (Yld.loadN (cs := alC t) a82 rfl (atNM (blk0' hB3) (fun h => h))) (Mod.drew _ _) ?_
  refine DL.op rfl (.free rfl) rfl rfl (Does.call rfl e88 (target_ok M M2 r t _ (hr.mod (Mod.any' hgd)) (ht.mod (Mod.any' hgd)))) ?_
  rintro _ w4 ⟨rfl, hg4⟩
  have hd4 := (Mod.drew No w3).trans hg4
  have hg04 := hg3.trans hd4
  refine ⟨hd4, ?_⟩
  refine DL.p rfl rfl rfl ?_
  first | refine DL.splitD (d := 10) rfl rfl (fun h9 => ?_) (fun h9 => ?_) | refine DL.splitN (d := 10) rfl rfl (fun h9 => ?_) (fun h9 => ?_) | refine DL.split (d := 10) rfl rfl (fun h9 => ?_) (fun h9 => ?_)
  · refine DL.q rfl (.yes rfl rfl rfl) rfl rfl rfl (Yld.loadN (cs := ruC r) a90 rfl (atNM (blk0' hB1) (fun h => h))) (hd4) ?_
    refine DL.q rfl (.yes rfl rfl rfl) rfl rfl rfl (Yld.loadN (cs := alC s) a82 rfl (atNM (blk0' hB2) (fun h => h))) (hd4) ?_
    refine DL.op rfl (.yes rfl rfl rfl) rfl rfl (Does.call rfl e84 (source_ok M M1 r s _ (hr.mod (Mod.any' hg04)) (hs.mod (Mod.any' hg04)))) ?_
    rintro _ w5 ⟨rfl, hg5⟩
    have hd5 := hd4.trans hg5
    have hg05 := hg3.trans hd5
    refine ⟨hd5, ?_⟩
    iterate 2 refine DL.p rfl rfl rfl ?_
    first | refine DL.splitD (d := 15) rfl rfl (fun h14 => ?_) (fun h14 => ?_) | refine DL.splitN (d := 15) rfl rfl (fun h14 => ?_) (fun h14 => ?_) | refine DL.split (d := 15) rfl rfl (fun h14 => ?_) (fun h14 => ?_)
    · refine DL.q rfl (.yes rfl rfl rfl) rfl rfl rfl (Yld.loadN (cs := ruC r) a90 rfl (atNM (blk0' hB1) (fun h => h))) (hd5) ?_
      refine DL.q rfl (.yes rfl rfl rfl) rfl rfl rfl (Yld.loadN (cs := alC t) a82 rfl (atNM (blk0' hB3) (fun h => h))) (hd5) ?_
      refine DL.op rfl (.yes rfl rfl rfl) rfl rfl (Does.call rfl e84 (source_ok M M2 r t _ (hr.mod (Mod.any' hg05)) (ht.mod (Mod.any' hg05)))) ?_
      rintro _ w6 ⟨rfl, hg6⟩
      have hd6 := hd5.trans hg6
      have hg06 := hg3.trans hd6
      refine ⟨hd6, ?_⟩
      refine DL.qf rfl (.yes rfl rfl rfl) rfl rfl (Yld.pure rfl) ?_
      iterate 2 refine DL.p rfl rfl rfl ?_
      first | refine DL.splitD (d := 21) rfl rfl (fun h19 => ?_) (fun h19 => ?_) | refine DL.splitN (d := 21) rfl rfl (fun h19 => ?_) (fun h19 => ?_) | refine DL.split (d := 21) rfl rfl (fun h19 => ?_) (fun h19 => ?_)
      · have hno : sourceS r t.ls t.val = false := by simpa using h19
        have h4 := target_le h9
        refine DL.q rfl (.yes rfl rfl rfl) rfl rfl rfl (Yld.loadN (cs := ruC r) a90 rfl (atNM (blk0' hB1) (fun h => h))) (hd6) ?_
        refine DL.q rfl (.yes rfl rfl rfl) rfl rfl rfl (Yld.loadN (cs := alC s) a82 rfl (atNM (blk0' hB2) (fun h => h))) (hd6) ?_
        refine DL.q rfl (.yes rfl rfl rfl) rfl rfl rfl (Yld.loadN (cs := ruC r) a90 rfl (atNM (blk0' hB1) (fun h => h))) (hd6) ?_
        refine DL.q rfl (.yes rfl rfl rfl) rfl rfl rfl (Yld.loadN (cs := alC t) a82 rfl (atNM (blk0' hB3) (fun h => h))) (hd6) ?_
        refine DL.op rfl (.yes rfl rfl rfl) rfl rfl (Does.call rfl e85 (ruleKey_ok M M1 r h4 s hs.z _ (hr.mod (Mod.any' hg06)) (hs.l.mod (Mod.any' hg06)))) ?_
        rintro _ w7 ⟨rfl, hg7⟩
        have hd7 := hd6.trans hg7
        have hg07 := hg3.trans hd7
        refine ⟨hd7, ?_⟩
        refine DL.op rfl (.yes rfl rfl rfl) rfl rfl (Does.call rfl e85 (ruleKey_ok M M2 r h4 t ht.z _ (hr.mod (Mod.any' hg07)) (ht.l.mod (Mod.any' hg07)))) ?_
        rintro _ w8 ⟨rfl, hg8⟩
        refine ⟨hd7.trans hg8, ?_⟩
        refine DL.qf rfl (.yes rfl rfl rfl) rfl rfl (Yld.pure rfl) ?_
        iterate 2 refine DL.p rfl rfl rfl ?_
        refine DL.done ?_
        refine RK.ret_of Tryz.func91 (res1 rfl rfl) ?_ _
        exact ⟨_, rfl, by unfold mutesS; rw [h9, h14, hno]; rfl, hg3.trans (hd7.trans hg8)⟩
      · iterate 4 refine DL.no rfl (.no rfl rfl rfl rfl) rfl rfl ?_
        iterate 2 refine DL.lno rfl (.no rfl rfl rfl rfl) rfl rfl ?_
        refine DL.no rfl (.no rfl rfl rfl rfl) rfl rfl ?_
        iterate 2 refine DL.p rfl rfl rfl ?_
        refine DL.done ?_
        refine RK.ret_of Tryz.func91 (res1 rfl rfl) ?_ _
        exact ⟨_, rfl, by unfold mutesS; rw [h9, h14, show sourceS r t.ls t.val = true by simpa using h19]; rfl, hg06⟩
    · iterate 2 refine DL.no rfl (.no rfl rfl rfl rfl) rfl rfl ?_
      refine DL.lno rfl (.no rfl rfl rfl rfl) rfl rfl ?_
      refine DL.no rfl (.no rfl rfl rfl rfl) rfl rfl ?_
      iterate 2 refine DL.p rfl rfl rfl ?_
      iterate 4 refine DL.no rfl (.no rfl rfl rfl rfl) rfl rfl ?_
      iterate 2 refine DL.lno rfl (.no rfl rfl rfl rfl) rfl rfl ?_
      refine DL.no rfl (.no rfl rfl rfl rfl) rfl rfl ?_
      iterate 2 refine DL.p rfl rfl rfl ?_
      refine DL.done ?_
      refine RK.ret_of Tryz.func91 (res1 rfl rfl) ?_ _
      exact ⟨_, rfl, by unfold mutesS; rw [h9, show sourceS r s.ls s.val = false by simpa using h14]; rfl, hg05⟩
  · iterate 2 refine DL.no rfl (.no rfl rfl rfl rfl) rfl rfl ?_
    refine DL.lno rfl (.no rfl rfl rfl rfl) rfl rfl ?_
    iterate 2 refine DL.p rfl rfl rfl ?_
    iterate 2 refine DL.no rfl (.no rfl rfl rfl rfl) rfl rfl ?_
    refine DL.lno rfl (.no rfl rfl rfl rfl) rfl rfl ?_
    refine DL.no rfl (.no rfl rfl rfl rfl) rfl rfl ?_
    iterate 2 refine DL.p rfl rfl rfl ?_
    iterate 4 refine DL.no rfl (.no rfl rfl rfl rfl) rfl rfl ?_
    iterate 2 refine DL.lno rfl (.no rfl rfl rfl rfl) rfl rfl ?_
    refine DL.no rfl (.no rfl rfl rfl rfl) rfl rfl ?_
    iterate 2 refine DL.p rfl rfl rfl ?_
    refine DL.done ?_
    refine RK.ret_of Tryz.func91 (res1 rfl rfl) ?_ _
    exact ⟨_, rfl, by unfold mutesS; rw [show targetS r t.ls = false by simpa using h9]; rfl, hg04⟩
end Go.Proofs.YtbcbfjnlnmhpbaaGreat
set_option linter.unusedVariables false
set_option linter.unusedSimpArgs false
set_option maxHeartbeats 2000000
set_option maxRecDepth 100000
namespace Go.Proofs.YtbcbfjnlnmhpbaaGreat
open Go Go.X Go.Rex
structure Sil where
  id : Int
  ver : Int
  start : Int
  stop : Int
  mv : Value
  ms : List Mt
  bd : Bd
def silC (s : Sil) : List Value := [.int .i64 s.id, .int .i64 s.ver, .int .u64 s.start, .int .u64 s.stop, s.mv, .bool s.bd.all, .float .f64 s.bd.lo, .float .f64 s.bd.hi]
theorem silC_len (s : Sil) : (silC s).length = 8 := rfl
theorem silC_one {M : Nat → Prop} {w : World} {s : Sil} (h : SlM M w s.mv s.ms) : ((Value.agg (silC s).toArray).cells.toList.all fun x => x.oneCell') = true := by
  obtain ⟨ad, c, e⟩ := h.shape
  show (silC s).all _ = true
  unfold silC
  rw [e]; rfl
theorem ruC_one {M : Nat → Prop} {w : World} {r : Ru} (h : r.Ok M w) : ((Value.agg (ruC r).toArray).cells.toList.all fun x => x.oneCell') = true := by
  obtain ⟨ad, c, e⟩ := h.s.shape
  obtain ⟨ad2, c2, e2⟩ := h.t.shape
  obtain ⟨ad3, c3, e3⟩ := h.e.shape
  show (ruC r).all _ = true
  unfold ruC
  rw [e, e2, e3]; rfl
theorem alC_one {M : Nat → Prop} {w : World} {a : Al} (h : AlOk M w a) : ((Value.agg (alC a).toArray).cells.toList.all fun x => x.oneCell') = true := by
  obtain ⟨ad, c, e⟩ := h.l.shape
  show (alC a).all _ = true
  unfold alC
  rw [e]; rfl
noncomputable def silHolds (now : Int) (t : Al) (s : Sil) : Bool := decide (stateS now s.start s.stop = 2) && ((s.ms.all fun m => holdsM m t.ls) && inBd s.bd t.val)
noncomputable def silS (now : Int) (t : Al) (l : List Sil) : List Int := (l.filter (silHolds now t)).map (·.id)
theorem silS_snoc {l : List Sil} {k : Nat} {s : Sil} (h : l[k]? = some s) (now : Int) (t : Al) : silS now t (l.take (k + 1)) = silS now t (l.take k) ++ (if silHolds now t s = true then [s.id] else []) := by
  have hk := (List.getElem?_eq_some_iff.1 h).1
  unfold silS
  rw [List.take_succ_eq_append_getElem hk, (List.getElem?_eq_some_iff.1 h).2, List.filter_append, List.map_append]
  by_cases e : silHolds now t s = true <;> simp [e]
theorem silS_len (now : Int) (t : Al) (l : List Sil) : (silS now t l).length ≤ l.length := by unfold silS; rw [List.length_map]; exact List.length_filter_le _ _
noncomputable def mutOf (r : Ru) (t : Al) (l : List Al) : List Int := (l.filter fun s => mutesS r s t).map (·.id)
theorem mutOf_snoc {l : List Al} {k : Nat} {s : Al} (h : l[k]? = some s) (r : Ru) (t : Al) : mutOf r t (l.take (k + 1)) = mutOf r t (l.take k) ++ (if mutesS r s t = true then [s.id] else []) := by
  have hk := (List.getElem?_eq_some_iff.1 h).1
  unfold mutOf
  rw [List.take_succ_eq_append_getElem hk, (List.getElem?_eq_some_iff.1 h).2, List.filter_append, List.map_append]
  by_cases e : mutesS r s t = true <;> simp [e]
theorem mutOf_len (r : Ru) (t : Al) (l : List Al) : (mutOf r t l).length ≤ l.length := by unfold mutOf; rw [List.length_map]; exact List.length_filter_le _ _
noncomputable def mutS (t : Al) (l : List Al) (rs : List Ru) : List Int := rs.flatMap fun r => mutOf r t l
theorem mutS_snoc {rs : List Ru} {k : Nat} {r : Ru} (h : rs[k]? = some r) (t : Al) (l : List Al) : mutS t l (rs.take (k + 1)) = mutS t l (rs.take k) ++ mutOf r t l := by
  have hk := (List.getElem?_eq_some_iff.1 h).1
  unfold mutS
  rw [List.take_succ_eq_append_getElem hk, (List.getElem?_eq_some_iff.1 h).2, List.flatMap_append]
  simp
theorem mutS_len (t : Al) (l : List Al) : ∀ rs : List Ru, (mutS t l rs).length ≤ rs.length * l.length
  | [] => by simp [mutS]
  | r :: rs => by
    have h1 := mutS_len t l rs
    have h2 := mutOf_len r t l
    unfold mutS at h1 ⊢
    rw [List.flatMap_cons, List.length_append, List.length_cons, Nat.add_mul]
    omega
structure PlainIn (w : World) (t : Al) (sils : List Sil) (vs : Value) (als : List Al) (va : Value) (rs : List Ru) (vr : Value) : Prop where
  t : AlOk No w t
  s : Sl No w vs 8 sils.length (sils.flatMap silC)
  sm : ∀ s ∈ sils, SlM No w s.mv s.ms
  a : Sl No w va 3 als.length (als.flatMap alC)
  al : ∀ a ∈ als, AlOk No w a
  r : Sl No w vr 6 rs.length (rs.flatMap ruC)
  rl : ∀ r ∈ rs, r.Ok No w
  n1 : sils.length ≤ 1000
  n2 : als.length ≤ 1000
  n3 : rs.length ≤ 1000
theorem PlainIn.mod {w w' : World} {t : Al} {sils : List Sil} {vs : Value} {als : List Al} {va : Value} {rs : List Ru} {vr : Value} (h : PlainIn w t sils vs als va rs vr) (hg : Grow w w') : PlainIn w' t sils vs als va rs vr :=
  ⟨h.t.mod hg, h.s.mod hg, fun s hs => (h.sm s hs).mod hg, h.a.mod hg, fun a ha => (h.al a ha).mod hg, h.r.mod hg, fun r hr => (h.rl r hr).mod hg, h.n1, h.n2, h.n3⟩
theorem plainX_ok (now : Int) (t : Al) (sils : List Sil) (vs : Value) (als : List Al) (va : Value) (rs : List Ru) (vr : Value) (w : World) (h : PlainIn w t sils vs als va rs vr) :
    Fx Tryz.prog 41 [.int .u64 now, .agg (alC t).toArray, vs, va, vr] w (fun u w' => ∃ v1 v2, u = .tuple #[v1, v2] ∧ Row w' 3 1 v1 (mkRow (silS now t sils)).length (ints (mkRow (silS now t sils))) ∧ Row w' 3 1 v2 (mkRow (mutS t als rs)).length (ints (mkRow (mutS t als rs))) ∧ (Fresh w.heap.size v1 ∧ Fresh w.heap.size v2) ∧ Grow w w') := by
  obtain ⟨ads, cs, rfl⟩ := h.s.shape
  obtain ⟨ada, ca, rfl⟩ := h.a.shape
  obtain ⟨adr, cr, rfl⟩ := h.r.shape
  obtain ⟨adt, ct, htv⟩ := h.t.l.shape
  have hn1 := h.n1
  have hn2 := h.n2
  have hn3 := h.n3
  refine enter Tryz.func41 rfl rfl rfl _ (Pick.sub (l := [0, 1, 2, 3, 4]) (.cons rfl (.cons rfl (.cons rfl (.cons rfl (.cons rfl .nil)))))) ?_
  refine RK.seq ?_
  refine RK.region ?_
  refine RL.op (.free rfl) rfl rfl (Does.box rfl) ?_
  rintro _ w6 ⟨b6, rfl, hn6⟩
  have hB6 : Blk w6 b6 82 [.int .i64 t.id, t.v, .float .f64 t.val] := hn6.blk
  iterate 2 refine RL.p rfl rfl ?_
  refine RL.done ?_
  refine RK.seq ?_
  refine RK.region ?_
  iterate 2 refine RL.p rfl rfl ?_
  refine RL.done ?_
  iterate 2 refine RK.seq ?_
  refine RK.region ?_
  refine RL.p rfl rfl ?_
  refine RL.q (.free rfl) rfl rfl (Yld.lenSl u44 rfl) ?_
  refine RL.p rfl rfl ?_
  refine RL.done ?_
  refine RK.block ?_
  refine RK.loop (fun s : Nat × Value => [(0, .int .u64 now), (3, .slice ada als.length ca), (4, .slice adr rs.length cr), (6, pp b6), (12, s.2), (13, .slice none 0 0), (20, .slice ads sils.length cs), (21, .int .i64 (sils.length : Int)), (22, .int .i64 (s.1 : Int))]) (fun s w' => Row w' 3 1 s.2 (silS now t (sils.take s.1)).length (ints (silS now t (sils.take s.1))) ∧ Fresh w6.heap.size s.2 ∧ Grow w6 w' ∧ s.1 ≤ sils.length) (fun s => sils.length - s.1) (0, .slice none 0 0) ⟨rfl, rfl, rfl, rfl, rfl, rfl, rfl, rfl, rfl, trivial⟩ ⟨by simpa [silS] using Row.nil _ _ _, fun b e => by simp [Value.ownBlock] at e, Mod.refl _ _, by simp⟩ (fun s w' hI ih => ?_)
  obtain ⟨k, u⟩ := s
  obtain ⟨hr, hf, hg, hk⟩ := hI
  simp only at hr hf hk
  refine RK.seq ?_
  refine RK.region ?_
  refine RL.p rfl rfl ?_
  refine RL.done ?_
  refine RK.seq ?_
  first | refine RK.condD rfl (fun h23 => ?_) (fun h23 => ?_) | refine RK.condN rfl (fun h23 => ?_) (fun h23 => ?_) | refine RK.cond rfl (fun h23 => ?_) (fun h23 => ?_)
  · obtain ⟨s, hs⟩ : ∃ s, sils[k]? = some s := ⟨sils[k]'(by omega), List.getElem?_eq_getElem (by omega)⟩
    have h1 := h.mod (hn6.grow.trans hg)
    obtain ⟨b1, o1, c1', he1, _, _, hc1⟩ := h1.s.elem silC_len hs
    cases he1
    have hsm := h1.sm s (List.mem_of_getElem? hs)
    have hsn := silS_snoc hs now t
    have hsl := silS_len now t (sils.take k)
    have hsl2 : (sils.take k).length ≤ k := by simp; omega
    refine RK.skip ?_
    refine RK.seq ?_
    refine RK.block ?_
    refine RK.seq ?_
    refine RK.region ?_
    refine RL.q (.free rfl) rfl rfl (Yld.indexAddrN u44 i41 rfl rfl (by omega)) ?_
    refine RL.q (.free rfl) rfl rfl (Yld.loadN (cs := silC s) a41 rfl (atN (fun q z hq => hc1 q z hq))) ?_
    refine RL.op (.free rfl) rfl rfl (Does.alloc i41) ?_
    rintro _ w1 ⟨b15, rfl, hn15⟩
    refine RL.op' (.free rfl) rfl (Does.storeN i41 rfl rfl rfl (silC_one hsm) hn15.blk (Nat.le_refl 8)) ?_
    rintro _ w2 ⟨hb2, hm2, _⟩
    have hg2' : Grow w' w2 := hn15.grow.then hm2 (fun y hy e => by have e' : y = b15 := e; have := hn15.at_; omega)
    have hg2 := hg.trans hg2'
    have hB2 : Blk w2 b15 41 [.int .i64 s.id, .int .i64 s.ver, .int .u64 s.start, .int .u64 s.stop, s.mv, .bool s.bd.all, .float .f64 s.bd.lo, .float .f64 s.bd.hi] := hb2
    have hB6b := hB6.mod hg2 (fun h => h)
    refine RL.done ?_
    refine RK.seq ?_
    refine RK.region ?_
    refine RL.p rfl rfl ?_
    refine RL.q (.free rfl) rfl rfl (Yld.fieldAddr fo41_2 rfl) ?_
    refine RL.q (.free rfl) rfl rfl (Yld.load p22 rfl (at1 (hB2.cell rfl))) ?_
    refine RL.q (.free rfl) rfl rfl (Yld.fieldAddr fo41_3 rfl) ?_
    refine RL.q (.free rfl) rfl rfl (Yld.load p22 rfl (at1 (hB2.cell rfl))) ?_
    refine RL.op (.free rfl) rfl rfl (Does.call rfl e51 (state_ok now s.start s.stop _)) ?_
    rintro _ _ ⟨rfl, rfl⟩
    iterate 2 refine RL.p rfl rfl ?_
    first | refine RL.splitD (d := 33) rfl rfl (fun h32 => ?_) (fun h32 => ?_) | refine RL.splitN (d := 33) rfl rfl (fun h32 => ?_) (fun h32 => ?_) | refine RL.split (d := 33) rfl rfl (fun h32 => ?_) (fun h32 => ?_)
    · refine RL.q (.yes rfl rfl rfl) rfl rfl (Yld.fieldAddr fo41_4 rfl) ?_
      refine RL.q (.yes rfl rfl rfl) rfl rfl (Yld.load p28 rfl (at1 (hB2.cell rfl))) ?_
      refine RL.q (.yes rfl rfl rfl) rfl rfl (Yld.fieldAddr fo82_1 rfl) ?_
      refine RL.q (.yes rfl rfl rfl) rfl rfl (Yld.load p39 rfl (at1 (hB6b.cell rfl))) ?_
      refine RL.op (.yes rfl rfl rfl) rfl rfl (Does.call rfl e52 (allM_ok holdsM s.ms (fun m _ => matchHolds_ok m) No No t.ls h.t.z _ _ _ (hsm.mod hg2') (h.t.l.mod (hn6.grow.trans hg2)))) ?_
      rintro _ w3 ⟨rfl, hg3⟩
      have hg23 := hg2.trans hg3
      have hB3 := hB2.mod hg3 (fun h => h)
      have hB6c := hB6b.mod hg3 (fun h => h)
      iterate 2 refine RL.p rfl rfl ?_
      first | refine RL.splitD (d := 40) rfl rfl (fun h39 => ?_) (fun h39 => ?_) | refine RL.splitN (d := 40) rfl rfl (fun h39 => ?_) (fun h39 => ?_) | refine RL.split (d := 40) rfl rfl (fun h39 => ?_) (fun h39 => ?_)
      · refine RL.q (.yes rfl rfl rfl) rfl rfl (Yld.fieldAddr fo41_5 rfl) ?_
        refine RL.q (.yes rfl rfl rfl) rfl rfl (Yld.loadN (cs := bdC s.bd) a32 rfl (atN (fldN hB3 5 3))) ?_
        refine RL.q (.yes rfl rfl rfl) rfl rfl (Yld.fieldAddr fo82_2 rfl) ?_
        refine RL.q (.yes rfl rfl rfl) rfl rfl (Yld.load p30 rfl (at1 (hB6c.cell rfl))) ?_
        refine RL.op (.yes rfl rfl rfl) rfl rfl (Does.call rfl e53 (in_band_ok s.bd t.val _)) ?_
        rintro _ w4 ⟨rfl, hg4⟩
        have hg24 := hg23.trans hg4
        have hr4 := hr.mod ((hg2'.trans hg3).trans hg4) (fun _ _ h => h)
        refine RL.p rfl rfl ?_
        refine RL.done ?_
        first | refine RK.condD rfl (fun h46 => ?_) (fun h46 => ?_) | refine RK.condN rfl (fun h46 => ?_) (fun h46 => ?_) | refine RK.cond rfl (fun h46 => ?_) (fun h46 => ?_)
        · have hyes : silHolds now t s = true := by unfold silHolds; rw [decide_eq_true h32, h39, h46]; rfl
          refine RK.region ?_
          refine RL.p rfl rfl ?_
          refine RL.q (.free rfl) rfl rfl (Yld.fieldAddr fo41_0 rfl) ?_
          refine RL.q (.free rfl) rfl rfl (Yld.load p3 rfl (at1 ((hB3.mod hg4 (fun h => h)).cell rfl))) ?_
          refine RL.op (.free rfl) rfl rfl (Does.slice1 u35 i3 rfl rfl rfl rfl rfl) ?_
          rintro _ w5 ⟨b7, rfl, hn7⟩
          refine RL.op (.free rfl) rfl rfl (Does.append u35 i3 rfl rfl rfl rfl rfl (hr4.mod hn7.grow (fun _ _ h => h)) (Sl.new hn7 1 1 rfl (by omega) (fun h => h)) (rfl) (by omega)) ?_
          rintro z8 w8 ⟨hr8, hm8, hu8⟩
          have hs7 := hn7.grow.size
          have hs4 := hg24.size
          refine RL.p rfl rfl ?_
          refine RL.done ?_
          refine RK.inBlock ?_
          refine RK.region ?_
          refine RL.p rfl rfl ?_
          refine RL.re (d := 52) rfl rfl (succ_i64 (by omega)) ?_
          refine RL.p rfl rfl ?_
          refine RL.done ?_
          exact RK.back (ih (k + 1, z8) _ ⟨by
              simp only
              rw [hsn, if_pos hyes]
              have e1 : ints (silS now t (sils.take k) ++ [s.id]) = ints (silS now t (sils.take k)) ++ (Value.int .i64 s.id).cells.toList := by simp [ints, Value.cells]
              rw [e1, List.length_append]; exact hr8, fun b e => by
              rcases hu8 with h1 | h1
              · exact hf b (h1 ▸ e)
              · rw [h1] at e; cases e; omega, (hg24.trans hn7.grow).then hm8 (fun b hb e => by have := hf b e; omega), by simp only; omega⟩ (by simp only; omega)) ⟨rfl, rfl, rfl, rfl, rfl, rfl, rfl, rfl, rfl, trivial⟩
        · have hnos : silHolds now t s = false := by unfold silHolds; rw [decide_eq_true h32, h39, show inBd s.bd t.val = false by simpa using h46]; rfl
          refine RK.skip ?_
          refine RK.inBlock ?_
          refine RK.region ?_
          refine RL.p rfl rfl ?_
          refine RL.re (d := 52) rfl rfl (succ_i64 (by omega)) ?_
          refine RL.p rfl rfl ?_
          refine RL.done ?_
          exact RK.back (ih (k + 1, u) _ ⟨by simp only; rw [hsn, if_neg (by simp [hnos]), List.append_nil]; exact hr4, hf, hg24, by simp only; omega⟩ (by simp only; omega)) ⟨rfl, rfl, rfl, rfl, rfl, rfl, rfl, rfl, rfl, trivial⟩
      · have hnos : silHolds now t s = false := by unfold silHolds; rw [show (s.ms.all fun m => holdsM m t.ls) = false by simpa only [Bool.not_eq_true] using h39]; simp
        iterate 5 refine RL.no (.no rfl rfl rfl rfl) rfl rfl ?_
        refine RL.p rfl rfl ?_
        refine RL.done ?_
        refine RK.condF rfl ?_
        refine RK.skip ?_
        refine RK.inBlock ?_
        refine RK.region ?_
        refine RL.p rfl rfl ?_
        refine RL.re (d := 52) rfl rfl (succ_i64 (by omega)) ?_
        refine RL.p rfl rfl ?_
        refine RL.done ?_
        exact RK.back (ih (k + 1, u) _ ⟨by simp only; rw [hsn, if_neg (by simp [hnos]), List.append_nil]; exact hr.mod (hg2'.trans hg3) (fun _ _ h => h), hf, hg23, by simp only; omega⟩ (by simp only; omega)) ⟨rfl, rfl, rfl, rfl, rfl, rfl, rfl, rfl, rfl, trivial⟩
    · have hnos : silHolds now t s = false := by unfold silHolds; rw [decide_eq_false h32]; rfl
      iterate 5 refine RL.no (.no rfl rfl rfl rfl) rfl rfl ?_
      iterate 2 refine RL.p rfl rfl ?_
      iterate 5 refine RL.no (.no rfl rfl rfl rfl) rfl rfl ?_
      refine RL.p rfl rfl ?_
      refine RL.done ?_
      refine RK.condF rfl ?_
      refine RK.skip ?_
      refine RK.inBlock ?_
      refine RK.region ?_
      refine RL.p rfl rfl ?_
      refine RL.re (d := 52) rfl rfl (succ_i64 (by omega)) ?_
      refine RL.p rfl rfl ?_
      refine RL.done ?_
      exact RK.back (ih (k + 1, u) _ ⟨by simp only; rw [hsn, if_neg (by simp [hnos]), List.append_nil]; exact hr.mod hg2' (fun _ _ h => h), hf, hg2, by simp only; omega⟩ (by simp only; omega)) ⟨rfl, rfl, rfl, rfl, rfl, rfl, rfl, rfl, rfl, trivial⟩
  · have ek : sils.take k = sils := List.take_of_length_le (by omega)
    rw [ek] at hr
    clear ih
    generalize hS : silS now t sils = S at *
    have hSl : S.length ≤ 1000 := by have := silS_len now t sils; rw [hS] at this; omega
    refine RK.exit rfl ?_
    iterate 2 refine RK.seq ?_
    refine RK.region ?_
    refine RL.p rfl rfl ?_
    refine RL.q (.free rfl) rfl rfl (Yld.lenSl u83 rfl) ?_
    refine RL.p rfl rfl ?_
    refine RL.done ?_
    refine RK.block ?_
    refine RK.loop (fun s : Nat × Value => [(3, .slice ada als.length ca), (4, .slice adr rs.length cr), (6, pp b6), (12, u), (13, s.2), (53, .slice adr rs.length cr), (54, .int .i64 (rs.length : Int)), (55, .int .i64 (s.1 : Int))]) (fun s w2 => Row w2 3 1 s.2 (mutS t als (rs.take s.1)).length (ints (mutS t als (rs.take s.1))) ∧ Fresh w'.heap.size s.2 ∧ Grow w' w2 ∧ s.1 ≤ rs.length) (fun s => rs.length - s.1) (0, .slice none 0 0) ⟨rfl, rfl, rfl, rfl, rfl, rfl, rfl, rfl, trivial⟩ ⟨by simpa [mutS] using Row.nil _ _ _, fun b e => by simp [Value.ownBlock] at e, Mod.refl _ _, by simp⟩ (fun s w2 hI ih => ?_)
    obtain ⟨k2, u2⟩ := s
    obtain ⟨hr2, hf2, hg2, hk2⟩ := hI
    simp only at hr2 hf2 hk2
    refine RK.seq ?_
    refine RK.region ?_
    refine RL.p rfl rfl ?_
    refine RL.done ?_
    refine RK.seq ?_
    first | refine RK.condD rfl (fun h56 => ?_) (fun h56 => ?_) | refine RK.condN rfl (fun h56 => ?_) (fun h56 => ?_) | refine RK.cond rfl (fun h56 => ?_) (fun h56 => ?_)
    · obtain ⟨r, hrk⟩ : ∃ r, rs[k2]? = some r := ⟨rs[k2]'(by omega), List.getElem?_eq_getElem (by omega)⟩
      have h1 := h.mod ((hn6.grow.trans hg).trans hg2)
      obtain ⟨b1, o1, c1', he1, _, _, hc1⟩ := h1.r.elem ruC_len hrk
      cases he1
      have hro := h1.rl r (List.mem_of_getElem? hrk)
      have hsn := mutS_snoc hrk t als
      have hsl := mutS_len t als (rs.take k2)
      have hsl1 : (rs.take k2).length ≤ 1000 := by simp; omega
      have hsl2 : (mutS t als (rs.take k2)).length ≤ 1000000 := Nat.le_trans hsl (Nat.mul_le_mul hsl1 hn2)
      refine RK.skip ?_
      refine RK.seq ?_
      refine RK.block ?_
      refine RK.seq ?_
      refine RK.region ?_
      refine RL.q (.free rfl) rfl rfl (Yld.indexAddrN u83 i90 rfl rfl (by omega)) ?_
      refine RL.q (.free rfl) rfl rfl (Yld.loadN (cs := ruC r) a90 rfl (atN (fun q z hq => hc1 q z hq))) ?_
      refine RL.op (.free rfl) rfl rfl (Does.alloc i90) ?_
      rintro _ w3 ⟨b17, rfl, hn17⟩
      refine RL.op' (.free rfl) rfl (Does.storeN i90 rfl rfl rfl (ruC_one hro) hn17.blk (Nat.le_refl 6)) ?_
      rintro _ w4 ⟨hb4, hm4, _⟩
      have hg24 : Grow w2 w4 := hn17.grow.then hm4 (fun y hy e => by have e' : y = b17 := e; have := hn17.at_; omega)
      have hg4 := hg2.trans hg24
      have hro4 := hro.mod hg24
      have hr4 := hr2.mod hg24 (fun _ _ h => h)
      refine RL.done ?_
      refine RK.seq ?_
      refine RK.region ?_
      refine RL.p rfl rfl ?_
      refine RL.q (.free rfl) rfl rfl (Yld.lenSl u79 rfl) ?_
      refine RL.p rfl rfl ?_
      refine RL.done ?_
      refine RK.block ?_
      refine RK.loop (fun s : Nat × Value => [(3, .slice ada als.length ca), (4, .slice (some ⟨b1, o1, none⟩) rs.length cr), (6, pp b6), (12, u), (13, s.2), (17, pp b17), (53, .slice (some ⟨b1, o1, none⟩) rs.length cr), (54, .int .i64 (rs.length : Int)), (55, .int .i64 (k2 : Int)), (59, .slice ada als.length ca), (60, .int .i64 (als.length : Int)), (61, .int .i64 (s.1 : Int))]) (fun s w5 => Row w5 3 1 s.2 (mutS t als (rs.take k2) ++ mutOf r t (als.take s.1)).length (ints (mutS t als (rs.take k2) ++ mutOf r t (als.take s.1))) ∧ Fresh w'.heap.size s.2 ∧ Grow w' w5 ∧ s.1 ≤ als.length ∧ Blk w5 b17 90 (ruC r) ∧ (∀ b, s.2.ownBlock = some b → b ≠ b17) ∧ w4.heap.size ≤ w5.heap.size) (fun s => als.length - s.1) (0, u2) ⟨rfl, rfl, rfl, rfl, rfl, rfl, rfl, rfl, rfl, rfl, rfl, rfl, trivial⟩ ⟨by simpa [mutOf] using hr4, hf2, hg4, by simp, hb4, fun b hb => by have h8 := hr2.lt hb; have := hn17.at_; omega, Nat.le_refl _⟩ (fun s w5 hI3 ih3 => ?_)
      obtain ⟨j, u5⟩ := s
      obtain ⟨hr5, hf5, hg5, hj, hb5, hu17, hsz5⟩ := hI3
      simp only at hr5 hf5 hj hu17
      have hb17 := hb4.lt
      refine RK.seq ?_
      refine RK.region ?_
      refine RL.p rfl rfl ?_
      refine RL.done ?_
      refine RK.seq ?_
      first | refine RK.condD rfl (fun h62 => ?_) (fun h62 => ?_) | refine RK.condN rfl (fun h62 => ?_) (fun h62 => ?_) | refine RK.cond rfl (fun h62 => ?_) (fun h62 => ?_)
      · obtain ⟨a, haj⟩ : ∃ a, als[j]? = some a := ⟨als[j]'(by omega), List.getElem?_eq_getElem (by omega)⟩
        have h5 := h.mod ((hn6.grow.trans hg).trans hg5)
        obtain ⟨b2, o2, c2', he2, _, _, hc2⟩ := h5.a.elem alC_len haj
        cases he2
        have hao := h5.al a (List.mem_of_getElem? haj)
        have hmn := mutOf_snoc haj r t
        have hml := mutOf_len r t (als.take j)
        have hml2 : (als.take j).length ≤ 1000 := by simp; omega
        refine RK.skip ?_
        refine RK.seq ?_
        refine RK.block ?_
        refine RK.seq ?_
        refine RK.region ?_
        refine RL.q (.free rfl) rfl rfl (Yld.indexAddrN u79 i82 rfl rfl (by omega)) ?_
        refine RL.q (.free rfl) rfl rfl (Yld.loadN (cs := alC a) a82 rfl (atN (fun q z hq => hc2 q z hq))) ?_
        refine RL.op (.free rfl) rfl rfl (Does.alloc i82) ?_
        rintro _ w7 ⟨b19, rfl, hn19⟩
        refine RL.op' (.free rfl) rfl (Does.storeN i82 rfl rfl rfl (alC_one hao) hn19.blk (Nat.le_refl 3)) ?_
        rintro _ w8 ⟨hb8, hm8, _⟩
        have hg58 : Grow w5 w8 := hn19.grow.then hm8 (fun y hy e => by have e' : y = b19 := e; have := hn19.at_; omega)
        have hg8 := hg5.trans hg58
        have hB8 : Blk w8 b19 82 [.int .i64 a.id, a.v, .float .f64 a.val] := hb8
        refine RL.done ?_
        refine RK.seq ?_
        refine RK.region ?_
        refine RL.q (.free rfl) rfl rfl (Yld.loadN (cs := ruC r) a90 rfl (atN (blk0' (hb5.mod hg58 (fun h => h))))) ?_
        refine RL.q (.free rfl) rfl rfl (Yld.loadN (cs := alC a) a82 rfl (atN (blk0' hb8))) ?_
        refine RL.q (.free rfl) rfl rfl (Yld.loadN (cs := alC t) a82 rfl (atN (blk0' (hB6.mod (hg.trans hg8) (fun h => h))))) ?_
        refine RL.op (.free rfl) rfl rfl (Does.call rfl e91 (mutes_ok No No No r a t _ ((h5.rl r (List.mem_of_getElem? hrk)).mod hg58) (hao.mod hg58) (h.t.mod ((hn6.grow.trans hg).trans hg8)))) ?_
        rintro _ w9 ⟨rfl, hg9⟩
        have hg59 := hg58.trans hg9
        have hg49 := hg5.trans hg59
        refine RL.done ?_
        first | refine RK.condD rfl (fun h68 => ?_) (fun h68 => ?_) | refine RK.condN rfl (fun h68 => ?_) (fun h68 => ?_) | refine RK.cond rfl (fun h68 => ?_) (fun h68 => ?_)
        · refine RK.region ?_
          refine RL.p rfl rfl ?_
          refine RL.q (.free rfl) rfl rfl (Yld.fieldAddr fo82_0 rfl) ?_
          refine RL.q (.free rfl) rfl rfl (Yld.load p3 rfl (at1 ((hB8.mod hg9 (fun h => h)).cell rfl))) ?_
          refine RL.op (.free rfl) rfl rfl (Does.slice1 u35 i3 rfl rfl rfl rfl rfl) ?_
          rintro _ w10 ⟨b7, rfl, hn7⟩
          refine RL.op (.free rfl) rfl rfl (Does.append u35 i3 rfl rfl rfl rfl rfl ((hr5.mod hg59 (fun _ _ h => h)).mod hn7.grow (fun _ _ h => h)) (Sl.new hn7 1 1 rfl (by omega) (fun h => h)) (rfl) (by rw [List.length_append]; omega)) ?_
          rintro z11 w11 ⟨hr11, hm11, hu11⟩
          have hs7 := hn7.grow.size
          have hs4 := hg49.size
          have hs59 := hg59.size
          refine RL.p rfl rfl ?_
          refine RL.done ?_
          refine RK.inBlock ?_
          refine RK.region ?_
          refine RL.p rfl rfl ?_
          refine RL.re (d := 74) rfl rfl (succ_i64 (by omega)) ?_
          refine RL.p rfl rfl ?_
          refine RL.done ?_
          exact RK.back (ih3 (j + 1, z11) _ ⟨by
              simp only
              rw [hmn, if_pos h68, ← List.append_assoc]
              have e1 : ints ((mutS t als (rs.take k2) ++ mutOf r t (als.take j)) ++ [a.id]) = ints (mutS t als (rs.take k2) ++ mutOf r t (als.take j)) ++ (Value.int .i64 a.id).cells.toList := by simp [ints, Value.cells]
              rw [e1, List.length_append]; exact hr11, fun b e => by
              rcases hu11 with h1 | h1
              · exact hf5 b (h1 ▸ e)
              · rw [h1] at e; cases e; omega, (hg49.trans hn7.grow).then hm11 (fun b hb e => by have := hf5 b e; omega), by simp only; omega, ((hb5.mod hg59 (fun h => h)).mod hn7.grow (fun h => h)).mod hm11 (fun e => hu17 _ e rfl), fun b e => by
              rcases hu11 with h1 | h1
              · exact hu17 b (h1 ▸ e)
              · rw [h1] at e; cases e; omega, by have := hm11.size; omega⟩ (by simp only; omega)) ⟨rfl, rfl, rfl, rfl, rfl, rfl, rfl, rfl, rfl, rfl, rfl, rfl, trivial⟩
        · refine RK.skip ?_
          refine RK.inBlock ?_
          refine RK.region ?_
          refine RL.p rfl rfl ?_
          refine RL.re (d := 74) rfl rfl (succ_i64 (by omega)) ?_
          refine RL.p rfl rfl ?_
          refine RL.done ?_
          exact RK.back (ih3 (j + 1, u5) _ ⟨by simp only; rw [hmn, if_neg (by simpa using h68), List.append_nil]; exact hr5.mod hg59 (fun _ _ h => h), hf5, hg49, by simp only; omega, hb5.mod hg59 (fun h => h), hu17, by have := hg59.size; omega⟩ (by simp only; omega)) ⟨rfl, rfl, rfl, rfl, rfl, rfl, rfl, rfl, rfl, rfl, rfl, rfl, trivial⟩
      · have ej : als.take j = als := List.take_of_length_le (by omega)
        rw [ej, ← hsn] at hr5
        refine RK.exit rfl ?_
        refine RK.inBlock ?_
        refine RK.region ?_
        refine RL.p rfl rfl ?_
        refine RL.re (d := 75) rfl rfl (succ_i64 (by omega)) ?_
        refine RL.p rfl rfl ?_
        refine RL.done ?_
        exact RK.back (ih (k2 + 1, u5) _ ⟨hr5, hf5, hg5, by simp only; omega⟩ (by simp only; omega)) ⟨rfl, rfl, rfl, rfl, rfl, rfl, rfl, rfl, trivial⟩
    · have ek2 : rs.take k2 = rs := List.take_of_length_le (by omega)
      rw [ek2] at hr2
      have hml := mutS_len t als rs
      have hml2 : (mutS t als rs).length ≤ 1000000 := Nat.le_trans hml (Nat.mul_le_mul hn3 hn2)
      refine RK.exit rfl ?_
      refine RK.seq ?_
      refine RK.region ?_
      refine RL.p rfl rfl ?_
      refine RL.op (.free rfl) rfl rfl (Does.call rfl e92 (make_ok No S u _ (Sl.own (hr.mod hg2 (fun _ _ h => h)) (fun _ _ h => h)) (by omega))) ?_
      rintro z1 w4 ⟨hr4, hf4, hg4⟩
      refine RL.p rfl rfl ?_
      refine RL.op (.free rfl) rfl rfl (Does.call rfl e92 (make_ok No (mutS t als rs) u2 _ (Sl.own (hr2.mod hg4 (fun _ _ h => h)) (fun _ _ h => h)) (by omega))) ?_
      rintro z2 w5 ⟨hr5, hf5, hg5⟩
      have hq2 := ((hn6.grow.trans hg).trans hg2).size
      have hq4 := hg4.size
      iterate 2 refine RL.p rfl rfl ?_
      refine RL.done ?_
      refine RK.ret_of Tryz.func41 (res2 rfl rfl rfl) ?_ _
      exact ⟨_, rfl, _, _, rfl, hr4.mod hg5 (fun _ _ h => h), hr5, ⟨fun b e => by have := hf4 b e; omega, fun b e => by have := hf5 b e; omega⟩, (((hn6.grow.trans hg).trans hg2).trans hg4).trans hg5⟩
theorem plain_ok (now : Int) (t : Al) (sils : List Sil) (vs : Value) (als : List Al) (va : Value) (rs : List Ru) (vr : Value) (w : World) (h : PlainIn w t sils vs als va rs vr) :
    Fx Tryz.prog 41 [.int .u64 now, .agg (alC t).toArray, vs, va, vr] w (fun u w' => ∃ v1 v2, u = .tuple #[v1, v2] ∧ Row w' 3 1 v1 (mkRow (silS now t sils)).length (ints (mkRow (silS now t sils))) ∧ Row w' 3 1 v2 (mkRow (mutS t als rs)).length (ints (mkRow (mutS t als rs))) ∧ Grow w w') := by
  refine Calls.mono (plainX_ok now t sils vs als va rs vr w h) ?_
  rintro e w' ⟨u, he, v1, v2, h1, h2, h3, h4, h5⟩
  exact ⟨u, he, v1, v2, h1, h2, h3, h5⟩
end Go.Proofs.YtbcbfjnlnmhpbaaGreat
set_option linter.unusedVariables false
set_option linter.unusedSimpArgs false
set_option maxHeartbeats 1000000
set_option maxRecDepth 100000
namespace Go.Proofs.YtbcbfjnlnmhpbaaGreat
open Go Go.X
structure Sp where
  drop : Bool
  id : Int
  labs : List Int
  v : Value
def Sp.Ok (w : World) (x : Sp) : Prop := Sl No w x.v 1 x.labs.length (ints x.labs) ∧ (∀ n ∈ x.labs, -9223372036854775808 ≤ n ∧ n ≤ 9223372036854775807) ∧ -9223372036854775808 ≤ x.id ∧ x.id ≤ 9223372036854775807
end Go.Proofs.YtbcbfjnlnmhpbaaGreat
set_option linter.unusedVariables false
set_option linter.unusedSimpArgs false
set_option maxHeartbeats 2000000
set_option maxRecDepth 100000
namespace Go.Proofs.YtbcbfjnlnmhpbaaGreat
open Go Go.X
end Go.Proofs.YtbcbfjnlnmhpbaaGreat
set_option linter.unusedVariables false
set_option linter.unusedSimpArgs false
set_option maxHeartbeats 1000000
set_option maxRecDepth 100000
namespace Go.Proofs.YtbcbfjnlnmhpbaaGreat
open Go Go.X
end Go.Proofs.YtbcbfjnlnmhpbaaGreat
set_option linter.unusedVariables false
set_option linter.unusedSimpArgs false
set_option maxHeartbeats 2000000
set_option maxRecDepth 100000
namespace Go.Proofs.YtbcbfjnlnmhpbaaGreat
open Go Go.X
end Go.Proofs.YtbcbfjnlnmhpbaaGreat
set_option linter.unusedVariables false
set_option linter.unusedSimpArgs false
namespace Go.X
open Go Go.RowKit
structure IterAt {κ : Type} (enc : κ → Value) (w : World) (r m : Nat) (rest : List (κ × Value)) : Prop where
  out : ∃ es clock seen, w.heap[m]? = some (.map es clock) ∧ w.heap[r]? = some (.mapIter (some m) clock seen clock) ∧ (es.toList.map (·.born)).Nodup ∧ (∀ e ∈ es.toList, e.born < clock) ∧ (es.toList.filter fun e => !seen.contains e.born).map (fun e => (e.key, e.val)) = rest.map fun p => (enc p.1, p.2)
structure EntryAt (w : World) (r m : Nat) (k v : Value) : Prop where
  out : ∃ es clock seen stamp e, w.heap[m]? = some (.map es clock) ∧ w.heap[r]? = some (.mapIter (some m) clock (Array.push seen stamp) clock) ∧ es.find? (·.born == stamp) = some e ∧ e.key = k ∧ e.val = v
theorem IterAt.mod {κ : Type} {enc : κ → Value} {M : Nat → Prop} {w w' : World} {r m : Nat} {rest : List (κ × Value)} (h : IterAt enc w r m rest) (hm : Mod M w w') (h1 : ¬ M r) (h2 : ¬ M m) : IterAt enc w' r m rest := by
  obtain ⟨es, c, s, a1, a2, a3⟩ := h.out
  exact ⟨es, c, s, hm.heap a1 h2, hm.heap a2 h1, a3⟩
theorem IterAt.lt {κ : Type} {enc : κ → Value} {w : World} {r m : Nat} {rest : List (κ × Value)} (h : IterAt enc w r m rest) : r < w.heap.size ∧ m < w.heap.size := by
  obtain ⟨es, c, s, a1, a2, a3⟩ := h.out
  exact ⟨(Array.getElem?_eq_some_iff.1 a2).1, (Array.getElem?_eq_some_iff.1 a1).1⟩
theorem EntryAt.mod {M : Nat → Prop} {w w' : World} {r m : Nat} {k v : Value} (h : EntryAt w r m k v) (hm : Mod M w w') (h1 : ¬ M r) (h2 : ¬ M m) : EntryAt w' r m k v := by
  obtain ⟨es, c, s, t, e, a1, a2, a3⟩ := h.out
  exact ⟨es, c, s, t, e, hm.heap a1 h2, hm.heap a2 h1, a3⟩
section
variable {P : Program} {n : Nat} {e : Env} {w : World} {κ : Type} {enc : κ → Value}
end
end Go.X
set_option linter.unusedVariables false
set_option linter.unusedSimpArgs false
set_option maxHeartbeats 1000000
set_option maxRecDepth 100000
namespace Go.Proofs.YtbcbfjnlnmhpbaaGreat
open Go Go.X
end Go.Proofs.YtbcbfjnlnmhpbaaGreat
set_option linter.unusedVariables false
set_option linter.unusedSimpArgs false
set_option maxHeartbeats 1000000
set_option maxRecDepth 100000
namespace Go.Proofs.YtbcbfjnlnmhpbaaGreat
open Go Go.X
end Go.Proofs.YtbcbfjnlnmhpbaaGreat
set_option linter.unusedVariables false
set_option linter.unusedSimpArgs false
set_option maxHeartbeats 1000000
set_option maxRecDepth 100000
namespace Go.Proofs.YtbcbfjnlnmhpbaaGreat
open Go Go.X
end Go.Proofs.YtbcbfjnlnmhpbaaGreat
set_option linter.unusedVariables false
set_option linter.unusedSimpArgs false
set_option maxHeartbeats 1000000
set_option maxRecDepth 100000
namespace Go.X
open Ieee
end Go.X
namespace Go.Proofs.YtbcbfjnlnmhpbaaGreat
open Go Go.X
end Go.Proofs.YtbcbfjnlnmhpbaaGreat
set_option linter.unusedVariables false
set_option linter.unusedSimpArgs false
set_option maxHeartbeats 1000000
set_option maxRecDepth 100000
namespace Go.Proofs.YtbcbfjnlnmhpbaaGreat
open Go Go.X
end Go.Proofs.YtbcbfjnlnmhpbaaGreat
set_option linter.unusedVariables false
set_option linter.unusedSimpArgs false
set_option maxHeartbeats 1000000
set_option maxRecDepth 100000
namespace Go.Proofs.YtbcbfjnlnmhpbaaGreat
open Go Go.X
end Go.Proofs.YtbcbfjnlnmhpbaaGreat
set_option linter.unusedVariables false
set_option linter.unusedSimpArgs false
set_option maxHeartbeats 1000000
set_option maxRecDepth 100000
namespace Go.Proofs.YtbcbfjnlnmhpbaaGreat
open Go Go.X
end Go.Proofs.YtbcbfjnlnmhpbaaGreat
set_option linter.unusedVariables false
set_option linter.unusedSimpArgs false
set_option maxHeartbeats 1000000
set_option maxRecDepth 100000
namespace Go.Proofs.YtbcbfjnlnmhpbaaGreat
open Go Go.X
structure Sv where
  d : Int
  id : Int
  labs : List Int
  val : Nat
  v : Value
def Sv.Ok (w : World) (x : Sv) : Prop := Sl No w x.v 1 x.labs.length (ints x.labs) ∧ (∀ n ∈ x.labs, -9223372036854775808 ≤ n ∧ n ≤ 9223372036854775807) ∧ x.val < 18446744073709551616
end Go.Proofs.YtbcbfjnlnmhpbaaGreat
set_option linter.unusedVariables false
set_option linter.unusedSimpArgs false
set_option maxHeartbeats 1000000
set_option maxRecDepth 100000
namespace Go.Proofs.YtbcbfjnlnmhpbaaGreat
open Go Go.X
end Go.Proofs.YtbcbfjnlnmhpbaaGreat
set_option linter.unusedVariables false
set_option linter.unusedSimpArgs false
set_option maxHeartbeats 1000000
set_option maxRecDepth 100000
namespace Go.Proofs.YtbcbfjnlnmhpbaaGreat
open Go Go.X Go.Sort
abbrev strs (xs : List ByteArray) : List Value := xs.map Value.string
theorem allOne_strs (xs : List ByteArray) : ((strs xs).all fun x => x.oneCell') = true := by rw [List.all_eq_true]; intro u hu; obtain ⟨x, _, rfl⟩ := List.mem_map.1 hu; rfl
end Go.Proofs.YtbcbfjnlnmhpbaaGreat
set_option linter.unusedVariables false
set_option linter.unusedSimpArgs false
set_option maxHeartbeats 1000000
set_option maxRecDepth 100000
namespace Go.Proofs.YtbcbfjnlnmhpbaaGreat
open Go Go.X
end Go.Proofs.YtbcbfjnlnmhpbaaGreat
set_option linter.unusedVariables false
set_option linter.unusedSimpArgs false
set_option maxHeartbeats 2000000
set_option maxRecDepth 100000
namespace Go.Proofs.YtbcbfjnlnmhpbaaGreat
open Go Go.X
end Go.Proofs.YtbcbfjnlnmhpbaaGreat
