/- Alerts deleted, resolved, told. -/
import Derived.Test.YtffbcfcoddacmaaGreatEc
import Derived.Test.YtffbcfcoddacmaaGreatXB
set_option linter.unusedVariables false
set_option linter.unusedSimpArgs false
set_option maxHeartbeats 800000
set_option maxRecDepth 100000
namespace Go.Proofs.YtffbcfcoddacmaaGreat
open Go Go.X

theorem allOne_als {al : List Al} (h : ∀ a ∈ al, ∃ ad n c, a.v = .slice ad n c) : (al.flatMap alC).all (·.oneCell') = true := by
  rw [List.all_eq_true]
  intro u hu
  obtain ⟨a, ha, hu⟩ := List.mem_flatMap.1 hu
  obtain ⟨ad, n, c, e⟩ := h a ha
  simp only [alC, List.mem_cons, List.not_mem_nil, or_false] at hu
  rcases hu with rfl | rfl | rfl
  · rfl
  · rw [e]; rfl
  · rfl
theorem deleteA_ok (al : List Al) (i : Nat) (v : Value) (w : World) (hv : Row w 32 3 v al.length (al.flatMap alC)) (hsh : ∀ a ∈ al, ∃ ad n c, a.v = .slice ad n c) (hi : i < al.length) (hb : al.length ≤ 1000000) :
    Fx Tryz.prog 83 [v, .int .i64 (i : Int), .int .i64 ((i + 1 : Nat) : Int)] w (fun u w' => Row w' 32 3 u (al.eraseIdx i).length ((al.eraseIdx i).flatMap alC) ∧ u.ownBlock = v.ownBlock ∧ Mod (fun b => v.ownBlock = some b) w w') := by
  obtain ⟨gb, cp, cs, rfl, hbk, hl, hkc, hcm, htk⟩ := hv.whole (by omega)
  have hmax : maxLen ≤ 9223372036854775807 := by decide
  have hnews : (cs.drop ((i + 1) * 3)).take ((al.length - (i + 1)) * 3) = (al.drop (i + 1)).flatMap alC := by
    rw [← flat_drop alC 3 alC_len, ← htk, List.drop_take]
    congr 1
    omega
  have hpre : cs.take (i * 3) = (al.take i).flatMap alC := by
    rw [← flat_take alC 3 alC_len, ← htk, List.take_take, Nat.min_eq_left (by omega)]
  have herase : (al.take i).flatMap alC ++ (al.drop (i + 1)).flatMap alC = (al.eraseIdx i).flatMap alC := by
    rw [List.eraseIdx_eq_take_drop_succ, List.flatMap_append]
  have hlen : (al.eraseIdx i).length = i + (al.length - (i + 1)) := by rw [List.length_eraseIdx]; simp [hi]; omega
  have hone : ((cs.drop ((i + 1) * 3)).take ((al.length - (i + 1)) * 3)).all (·.oneCell') = true := by
    rw [hnews]
    exact allOne_als fun a ha => hsh a (List.mem_of_mem_drop ha)
  have hbd : ∀ w', Grow w w' → Blk w' gb 32 cs := fun w' h => hbk.mod h (fun h => h)
  refine enter Tryz.func83 rfl rfl rfl _ (Pick.sub (l := [0, 1, 2]) (.cons rfl (.cons rfl (.cons rfl .nil)))) ?_
  refine RK.seq ?_
  refine RK.region ?_
  refine RL.p rfl rfl ?_
  refine RL.done ?_
  refine RK.seq ?_
  refine RK.region ?_
  iterate 4 refine RL.p rfl rfl ?_
  refine RL.q (.free rfl) rfl rfl (Yld.lenSl u58 rfl) ?_
  refine RL.q (.free rfl) rfl rfl (Yld.slice3 u58 i32 (lo := i) (hi := i + 1) (mx := al.length) rfl rfl rfl rfl (by omega) (by omega) hkc) ?_
  refine RL.done ?_
  iterate 2 refine RK.seq ?_
  refine RK.region ?_
  iterate 3 refine RL.p rfl rfl ?_
  refine RL.done ?_
  refine RK.condF (hcF rfl (decide_eq_false (by omega))) ?_
  refine RK.skip ?_
  refine RK.seq ?_
  refine RK.region ?_
  refine RL.p rfl rfl ?_
  refine RL.q (.free rfl) rfl rfl (Yld.lenSl u58 rfl) ?_
  refine RL.p rfl rfl ?_
  refine RL.done ?_
  refine RK.seq ?_
  refine RK.drawM (· = gb) [(0, false), (1, false), (2, false), (3, false), (4, false), (5, false), (6, true), (7, false)] [] mixed (by kernel_rfl) ?_
  iterate 2 refine DL.p rfl rfl rfl ?_
  refine DL.qf rfl (.free rfl) rfl rfl (Yld.sliceHi u58 i32 (m := i) rfl rfl (by omega)) ?_
  iterate 2 refine DL.p rfl rfl rfl ?_
  refine DL.qf rfl (.free rfl) rfl rfl (Yld.sliceFrom u58 i32 (m := i + 1) rfl rfl (by omega)) ?_
  refine DL.op rfl (.free rfl) rfl rfl (Does.appendIn u58 i32 (m := al.length - (i + 1)) rfl rfl (hbd _ (Mod.drew No _)) hl (Sl.ofBlk (hbd _ (Mod.drew No _)) hl (by omega) (fun h => h) (by omega)) hone (by omega)) ?_
  rintro _ w3 ⟨rfl, ⟨cs3, hb3, hl3, ht3⟩, hm3, hs3⟩
  refine ⟨(Mod.drew _ _).trans hm3, ?_⟩
  refine DL.p rfl rfl rfl ?_
  refine DL.done ?_
  refine RK.seq ?_
  refine RK.region ?_
  iterate 2 refine RL.p rfl rfl ?_
  refine RL.q (.free rfl) rfl rfl (Yld.lenSl u58 rfl) ?_
  refine RL.p rfl rfl ?_
  refine RL.q (.free rfl) rfl rfl (Yld.sliceLH u58 i32 (lo := i + (al.length - (i + 1))) (hi := al.length) rfl rfl rfl (by omega) (by omega)) ?_
  refine RL.op' (.free rfl) rfl (Does.clear u58 i32 (cap := cp) (lo := i + (al.length - (i + 1))) (m := al.length - (i + (al.length - (i + 1)))) rfl (by simp [Value.cells, Value.oneCell']) rfl hb3 (by rw [hl3, hl]) (by omega)) ?_
  rintro _ w4 ⟨⟨cs4, hb4, hl4, ht4⟩, hm4, hs4⟩
  refine RL.done ?_
  refine RK.seq ?_
  refine RK.region ?_
  iterate 2 refine RL.p rfl rfl ?_
  refine RL.done ?_
  refine RK.ret_of Tryz.func83 (res1 rfl rfl) ?_ _
  exact ⟨_, rfl, by
      rw [ht3, hpre, hnews, herase] at ht4
      rw [← ht4, hlen]
      exact Row.shut hb4 (by rw [hl4, hl3, hl]) (by omega) hcm, rfl, (((Mod.drew _ _).trans hm3).trans hm4).mono fun b _ e => congrArg some e.symm⟩
end Go.Proofs.YtffbcfcoddacmaaGreat

