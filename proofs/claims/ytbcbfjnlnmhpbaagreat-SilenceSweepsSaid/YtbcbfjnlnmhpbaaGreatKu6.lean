/- What the claim stands on, part 6. Of own lemmas only those that it reaches. -/
import Derived.Test.YtbcbfjnlnmhpbaaGreatKu5
set_option linter.unusedVariables false
set_option linter.unusedSimpArgs false
set_option maxHeartbeats 1600000
set_option maxRecDepth 100000
namespace Go.Proofs.YtbcbfjnlnmhpbaaGreat
open Go Go.X
theorem findZ1_ok (a : Sil) (ad : Option Addr) (n c : Nat) (ha : a.mv = .slice ad n c) (id : Int) (w : World) : Fx Tryz.prog 105 [.agg (silC a).toArray, .int .i64 id] w (fun u w' => u = .int .i64 (Lib.compareInt a.id id) ∧ Grow w w') := by
  obtain ⟨aid, ver, sta, sto, mv, ms, bd⟩ := a
  simp only at ha
  subst ha
  refine enter Tryz.func105 rfl rfl rfl _ (Pick.sub (l := [0, 1]) (.cons rfl (.cons rfl .nil))) ?_
  refine RK.seq ?_
  refine RK.region ?_
  refine RL.op (.free rfl) rfl rfl (Does.box rfl) ?_
  rintro _ w1 ⟨bx, rfl, hbx⟩
  refine RL.p rfl rfl ?_
  refine RL.done ?_
  refine RK.seq ?_
  refine RK.region ?_
  refine RL.q (.free rfl) rfl rfl (Yld.fieldAddr fo41_0 rfl) ?_
  refine RL.q (.free rfl) rfl rfl (Yld.load p3 rfl (at1 (hbx.blk.cell rfl))) ?_
  refine RL.p rfl rfl ?_
  refine RL.op (.free rfl) rfl rfl (Does.call rfl e106 (cmpInt_ok _ _ _)) ?_
  rintro _ _ ⟨rfl, rfl⟩
  refine RL.p rfl rfl ?_
  refine RL.done ?_
  refine RK.ret_of Tryz.func105 (res1 rfl rfl) ?_ _
  exact ⟨_, rfl, rfl, hbx.grow⟩
theorem bsZ_ok (al : List Sil) (id : Int) (v : Value) (w : World) (hv : Sl No w v 8 al.length (al.flatMap silC)) (hsh : ∀ a ∈ al, ∃ ad n c, a.mv = .slice ad n c) (hs : Ris (al.map (·.id))) (hb : al.length ≤ 1000000) :
    Fx Tryz.prog 104 [v, .int .i64 id, .func (.func 105) #[] #[]] w (fun u w' => (∃ i : Nat, i ≤ al.length ∧ (∀ t a, t < i → al[t]? = some a → a.id < id) ∧ (∀ t a, i ≤ t → al[t]? = some a → id ≤ a.id) ∧ u = .tuple #[.int .i64 i, .bool ((al.map (·.id))[i]? == some id)]) ∧ Grow w w') := by
  obtain ⟨ad, c, rfl⟩ := hv.shape
  have hris : ∀ (t t' : Nat) (a a' : Sil), t < t' → al[t]? = some a → al[t']? = some a' → a.id < a'.id := fun t t' a a' h h1 h2 => by
    have h3 := (List.getElem?_eq_some_iff.1 h1).1
    have h4 := (List.getElem?_eq_some_iff.1 h2).1
    have := List.pairwise_iff_getElem.1 hs t t' (by simpa using h3) (by simpa using h4) h
    simp only [List.getElem_map, (List.getElem?_eq_some_iff.1 h1).2, (List.getElem?_eq_some_iff.1 h2).2] at this
    exact this
  refine enter Tryz.func104 rfl rfl rfl _ (Pick.sub (l := [0, 1, 2]) (.cons rfl (.cons rfl (.cons rfl .nil)))) ?_
  refine RK.seq ?_
  refine RK.region ?_
  iterate 2 refine RL.p rfl rfl ?_
  refine RL.done ?_
  refine RK.seq ?_
  refine RK.region ?_
  refine RL.p rfl rfl ?_
  refine RL.q (.free rfl) rfl rfl (Yld.lenSl u44 rfl) ?_
  refine RL.p rfl rfl ?_
  refine RL.done ?_
  refine RK.seq ?_
  refine RK.region ?_
  iterate 3 refine RL.p rfl rfl ?_
  refine RL.done ?_
  refine RK.seq ?_
  refine RK.block ?_
  refine RK.loop (fun s : Nat × Nat => [(0, .slice ad al.length c), (1, .int .i64 id), (2, .func (.func 105) #[] #[]), (8, .int .i64 al.length), (9, .int .i64 (s.1 : Int)), (10, .int .i64 (s.2 : Int))]) (fun s w' => Grow w w' ∧ s.1 ≤ s.2 ∧ s.2 ≤ al.length ∧ (∀ t a, t < s.1 → al[t]? = some a → a.id < id) ∧ (∀ t a, s.2 ≤ t → al[t]? = some a → id ≤ a.id)) (fun s => s.2 - s.1) (0, al.length) ⟨rfl, rfl, rfl, rfl, rfl, rfl, trivial⟩ ⟨Mod.refl _ _, by simp, by simp, fun t a h => by simp only at h; omega, fun t a h h1 => by have := (List.getElem?_eq_some_iff.1 h1).1; simp only at h; omega⟩ (fun s w' hI ih => ?_)
  obtain ⟨i, j⟩ := s
  obtain ⟨hg, hij, hj, hlo, hhi⟩ := hI
  simp only at hij hj hlo hhi
  iterate 2 refine RK.seq ?_
  refine RK.region ?_
  iterate 3 refine RL.p rfl rfl ?_
  refine RL.done ?_
  first | refine RK.condD rfl (fun h17 => ?_) (fun h17 => ?_) | refine RK.condN rfl (fun h17 => ?_) (fun h17 => ?_) | refine RK.cond rfl (fun h17 => ?_) (fun h17 => ?_)
  · obtain ⟨m, hm⟩ : ∃ m, m = (i + j) >>> 1 := ⟨_, rfl⟩
    have hm2 : m = (i + j) / 2 := by rw [hm, Nat.shiftRight_eq_div_pow]
    obtain ⟨a, ha⟩ : ∃ a, al[m]? = some a := ⟨al[m]'(by omega), List.getElem?_eq_getElem (by omega)⟩
    obtain ⟨ada, na, ca, hsa⟩ := hsh a (List.mem_of_getElem? ha)
    obtain ⟨b1, o1, c1', he1, _, _, hc1⟩ := hv.elem silC_len ha
    cases he1
    refine RK.skip ?_
    refine RK.block ?_
    refine RK.seq ?_
    refine RK.region ?_
    iterate 3 refine RL.p rfl rfl ?_
    refine RL.re (d := 20) rfl rfl (add_i64 (z := ((i + j : Nat) : Int)) (by simp) (by omega) (by omega)) ?_
    refine RL.q (.free rfl) rfl rfl (Yld.convI Tryz.underlying3 Tryz.underlying198 rfl) ?_
    refine RL.re (d := 21) rfl rfl (congrArg (Value.int .u64) (wrap_u64 (x := i + j) (by omega))) ?_
    refine RL.q (.free rfl) rfl rfl (Yld.shr (a := i + j) (s := 1) rfl rfl (by decide)) ?_
    refine RL.q (.free rfl) rfl rfl (Yld.convI Tryz.underlying198 Tryz.underlying3 rfl) ?_
    refine RL.re (d := 23) rfl rfl ((congrArg (Value.int .i64) (wrap_i64 (x := (((i + j) >>> 1 : Nat) : Int)) (by omega) (by rw [← hm]; omega))).trans (by rw [← hm])) ?_
    refine RL.p rfl rfl ?_
    refine RL.done ?_
    refine RK.seq ?_
    refine RK.region ?_
    iterate 3 refine RL.p rfl rfl ?_
    refine RL.q (.free rfl) rfl rfl (Yld.indexAddrN u44 i41 rfl rfl (by omega)) ?_
    refine RL.q (.free rfl) rfl rfl (Yld.loadN (cs := silC a) a41 rfl (atN (fun q u hq => hg.cell (hc1 q u hq) (fun h => h)))) ?_
    refine RL.p rfl rfl ?_
    refine RL.op (.free rfl) rfl rfl (Does.callv rfl rfl e105 (findZ1_ok a ada na ca hsa id _)) ?_
    rintro _ w2 ⟨rfl, hg2⟩
    refine RL.p rfl rfl ?_
    refine RL.done ?_
    first | refine RK.condD rfl (fun h31 => ?_) (fun h31 => ?_) | refine RK.condN rfl (fun h31 => ?_) (fun h31 => ?_) | refine RK.cond rfl (fun h31 => ?_) (fun h31 => ?_)
    · have hlt := (cmp_lt _ _).1 h31
      refine RK.region ?_
      iterate 2 refine RL.p rfl rfl ?_
      refine RL.re (d := 33) rfl rfl (succ_i64 (by omega)) ?_
      refine RL.p rfl rfl ?_
      refine RL.done ?_
      refine RK.inBlock ?_
      exact RK.back (ih (m + 1, j) _ ⟨hg.trans hg2, by simp only; omega, hj, fun t a' ht hta => by simp only at ht; by_cases e : t = m; (subst e; rw [ha] at hta; cases hta; exact hlt); have := hris t m a' a (by omega) hta ha; omega, hhi⟩ (by simp only; omega)) ⟨rfl, rfl, rfl, rfl, rfl, rfl, trivial⟩
    · have hge : ¬ a.id < id := fun h => h31 ((cmp_lt _ _).2 h)
      refine RK.region ?_
      iterate 2 refine RL.p rfl rfl ?_
      refine RL.done ?_
      refine RK.inBlock ?_
      exact RK.back (ih (i, m) _ ⟨hg.trans hg2, by simp only; omega, by simp only; omega, hlo, fun t a' ht hta => by simp only at ht; by_cases e : t = m; (subst e; rw [ha] at hta; cases hta; omega); have := hris m t a a' (by omega) ha hta; omega⟩ (by simp only; omega)) ⟨rfl, rfl, rfl, rfl, rfl, rfl, trivial⟩
  · have hije : i = j := by omega
    refine RK.exit rfl ?_
    refine RK.seq ?_
    refine RK.region ?_
    iterate 5 refine RL.p rfl rfl ?_
    first | refine RL.splitD (d := 39) rfl rfl (fun h39 => ?_) (fun h39 => ?_) | refine RL.splitN (d := 39) rfl rfl (fun h39 => ?_) (fun h39 => ?_) | refine RL.split (d := 39) rfl rfl (fun h39 => ?_) (fun h39 => ?_)
    · obtain ⟨a, ha⟩ : ∃ a, al[i]? = some a := ⟨al[i]'(by omega), List.getElem?_eq_getElem (by omega)⟩
      obtain ⟨ada, na, ca, hsa⟩ := hsh a (List.mem_of_getElem? ha)
      obtain ⟨b1, o1, c1', he1, _, _, hc1⟩ := hv.elem silC_len ha
      cases he1
      iterate 3 refine RL.q (.yes rfl rfl rfl) rfl rfl (Yld.pure rfl) ?_
      refine RL.q (.yes rfl rfl rfl) rfl rfl (Yld.indexAddrN u44 i41 rfl rfl (by omega)) ?_
      refine RL.q (.yes rfl rfl rfl) rfl rfl (Yld.loadN (cs := silC a) a41 rfl (atN (fun q u hq => hg.cell (hc1 q u hq) (fun h => h)))) ?_
      refine RL.q (.yes rfl rfl rfl) rfl rfl (Yld.pure rfl) ?_
      refine RL.op (.yes rfl rfl rfl) rfl rfl (Does.callv rfl rfl e105 (findZ1_ok a ada na ca hsa id _)) ?_
      rintro _ w2 ⟨rfl, hg2⟩
      refine RL.q (.yes rfl rfl rfl) rfl rfl (Yld.pure rfl) ?_
      iterate 3 refine RL.p rfl rfl ?_
      refine RL.done ?_
      refine RK.ret_of Tryz.func104 (res2 rfl rfl rfl) ?_ _
      exact ⟨_, rfl, ⟨i, by omega, hlo, by subst hije; exact hhi, by
          have e1 : ((al.map (·.id))[i]? == some id) = decide (Lib.compareInt a.id id = 0) := by
            rw [List.getElem?_map, ha, Bool.eq_iff_iff]
            simp [cmp_eq]
          rw [e1]⟩, hg.trans hg2⟩
    · iterate 8 refine RL.no (.no rfl rfl rfl rfl) rfl rfl ?_
      iterate 3 refine RL.p rfl rfl ?_
      refine RL.done ?_
      refine RK.ret_of Tryz.func104 (res2 rfl rfl rfl) ?_ _
      exact ⟨_, rfl, ⟨i, by omega, hlo, by subst hije; exact hhi, by
          have e1 : (al.map (·.id))[i]? = none := by rw [List.getElem?_eq_none_iff]; simp; omega
          rw [e1]; rfl⟩, hg⟩
theorem allOne_sil {al : List Sil} (h : ∀ a ∈ al, ∃ ad n c, a.mv = .slice ad n c) : (al.flatMap silC).all (·.oneCell') = true := by
  rw [List.all_eq_true]
  intro u hu
  obtain ⟨a, ha, hu⟩ := List.mem_flatMap.1 hu
  obtain ⟨ad, n, c, e⟩ := h a ha
  simp only [silC, List.mem_cons, List.not_mem_nil, or_false] at hu
  rcases hu with rfl | rfl | rfl | rfl | rfl | rfl | rfl | rfl <;> first | rfl | (rw [e]; rfl)
theorem deleteZ_ok (al : List Sil) (i : Nat) (v : Value) (w : World) (hv : Row w 41 8 v al.length (al.flatMap silC)) (hsh : ∀ a ∈ al, ∃ ad n c, a.mv = .slice ad n c) (hi : i < al.length) (hb : al.length ≤ 1000000) :
    Fx Tryz.prog 57 [v, .int .i64 (i : Int), .int .i64 ((i + 1 : Nat) : Int)] w (fun u w' => Row w' 41 8 u (al.eraseIdx i).length ((al.eraseIdx i).flatMap silC) ∧ u.ownBlock = v.ownBlock ∧ Mod (fun b => v.ownBlock = some b) w w') := by
  obtain ⟨gb, cp, cs, rfl, hbk, hl, hkc, hcm, htk⟩ := hv.whole (by omega)
  have hmax : maxLen ≤ 9223372036854775807 := by decide
  have hnews : (cs.drop ((i + 1) * 8)).take ((al.length - (i + 1)) * 8) = (al.drop (i + 1)).flatMap silC := by
    rw [← flat_drop silC 8 silC_len, ← htk, List.drop_take]
    congr 1
    omega
  have hpre : cs.take (i * 8) = (al.take i).flatMap silC := by
    rw [← flat_take silC 8 silC_len, ← htk, List.take_take, Nat.min_eq_left (by omega)]
  have herase : (al.take i).flatMap silC ++ (al.drop (i + 1)).flatMap silC = (al.eraseIdx i).flatMap silC := by
    rw [List.eraseIdx_eq_take_drop_succ, List.flatMap_append]
  have hlen : (al.eraseIdx i).length = i + (al.length - (i + 1)) := by rw [List.length_eraseIdx]; simp [hi]; omega
  have hone : ((cs.drop ((i + 1) * 8)).take ((al.length - (i + 1)) * 8)).all (·.oneCell') = true := by
    rw [hnews]
    exact allOne_sil fun a ha => hsh a (List.mem_of_mem_drop ha)
  have hbd : ∀ w', Grow w w' → Blk w' gb 41 cs := fun w' h => hbk.mod h (fun h => h)
  refine enter Tryz.func57 rfl rfl rfl _ (Pick.sub (l := [0, 1, 2]) (.cons rfl (.cons rfl (.cons rfl .nil)))) ?_
  refine RK.seq ?_
  refine RK.region ?_
  refine RL.p rfl rfl ?_
  refine RL.done ?_
  refine RK.seq ?_
  refine RK.region ?_
  iterate 4 refine RL.p rfl rfl ?_
  refine RL.q (.free rfl) rfl rfl (Yld.lenSl u44 rfl) ?_
  refine RL.q (.free rfl) rfl rfl (Yld.slice3 u44 i41 (lo := i) (hi := i + 1) (mx := al.length) rfl rfl rfl rfl (by omega) (by omega) hkc) ?_
  refine RL.done ?_
  iterate 2 refine RK.seq ?_
  refine RK.region ?_
  iterate 3 refine RL.p rfl rfl ?_
  refine RL.done ?_
  refine RK.condF (hcF rfl (decide_eq_false (by omega))) ?_
  refine RK.skip ?_
  refine RK.seq ?_
  refine RK.region ?_
  refine RL.p rfl rfl ?_
  refine RL.q (.free rfl) rfl rfl (Yld.lenSl u44 rfl) ?_
  refine RL.p rfl rfl ?_
  refine RL.done ?_
  refine RK.seq ?_
  refine RK.drawM (· = gb) [(0, false), (1, false), (2, false), (3, false), (4, false), (5, false), (6, true), (7, false)] [] mixed (by kernel_rfl) ?_
  iterate 2 refine DL.p rfl rfl rfl ?_
  refine DL.qf rfl (.free rfl) rfl rfl (Yld.sliceHi u44 i41 (m := i) rfl rfl (by omega)) ?_
  iterate 2 refine DL.p rfl rfl rfl ?_
  refine DL.qf rfl (.free rfl) rfl rfl (Yld.sliceFrom u44 i41 (m := i + 1) rfl rfl (by omega)) ?_
  refine DL.op rfl (.free rfl) rfl rfl (Does.appendIn u44 i41 (m := al.length - (i + 1)) rfl rfl (hbd _ (Mod.drew No _)) hl (Sl.ofBlk (hbd _ (Mod.drew No _)) hl (by omega) (fun h => h) (by omega)) hone (by omega)) ?_
  rintro _ w3 ⟨rfl, ⟨cs3, hb3, hl3, ht3⟩, hm3, hs3⟩
  refine ⟨(Mod.drew _ _).trans hm3, ?_⟩
  refine DL.p rfl rfl rfl ?_
  refine DL.done ?_
  refine RK.seq ?_
  refine RK.region ?_
  iterate 2 refine RL.p rfl rfl ?_
  refine RL.q (.free rfl) rfl rfl (Yld.lenSl u44 rfl) ?_
  refine RL.p rfl rfl ?_
  refine RL.q (.free rfl) rfl rfl (Yld.sliceLH u44 i41 (lo := i + (al.length - (i + 1))) (hi := al.length) rfl rfl rfl (by omega) (by omega)) ?_
  refine RL.op' (.free rfl) rfl (Does.clear u44 i41 (cap := cp) (lo := i + (al.length - (i + 1))) (m := al.length - (i + (al.length - (i + 1)))) rfl (by simp [Value.cells, Value.oneCell']) rfl hb3 (by rw [hl3, hl]) (by omega)) ?_
  rintro _ w4 ⟨⟨cs4, hb4, hl4, ht4⟩, hm4, hs4⟩
  refine RL.done ?_
  refine RK.seq ?_
  refine RK.region ?_
  iterate 2 refine RL.p rfl rfl ?_
  refine RL.done ?_
  refine RK.ret_of Tryz.func57 (res1 rfl rfl) ?_ _
  exact ⟨_, rfl, by
      rw [ht3, hpre, hnews, herase] at ht4
      rw [← ht4, hlen]
      exact Row.shut hb4 (by rw [hl4, hl3, hl]) (by omega) hcm, rfl, (((Mod.drew _ _).trans hm3).trans hm4).mono fun b _ e => congrArg some e.symm⟩
theorem toldZ_ok (M : Nat → Prop) (now : Int) (a : Sil) (w : World) (ha : SlM M w a.mv a.ms) (hl : a.ms.length ≤ 1000000) : Fx Tryz.prog 55 [.int .u64 now, .agg (silC a).toArray] w (fun u w' => ∃ v', u = .agg (silC { a with ver := stateS now a.start a.stop, mv := v' }).toArray ∧ Row w' 108 3 v' a.ms.length (a.ms.flatMap mtC) ∧ Fresh w.heap.size v' ∧ Grow w w') := by
  obtain ⟨ad, c, e⟩ := ha.shape
  obtain ⟨aid, ver, sta, sto, mv, ms, bd⟩ := a
  simp only at ha hl e
  subst e
  refine enter Tryz.func55 rfl rfl rfl _ (Pick.sub (l := [0, 1]) (.cons rfl (.cons rfl .nil))) ?_
  refine RK.seq ?_
  refine RK.region ?_
  refine RL.op (.free rfl) rfl rfl (Does.box rfl) ?_
  rintro _ w1 ⟨b3, rfl, hn3⟩
  refine RL.op (.free rfl) rfl rfl (Does.alloc i41) ?_
  rintro _ w2 ⟨b4, rfl, hn4⟩
  have hB3 : Blk w2 b3 41 [.int .i64 aid, .int .i64 ver, .int .u64 sta, .int .u64 sto, .slice ad ms.length c, .bool bd.all, .float .f64 bd.lo, .float .f64 bd.hi] := hn3.blk.mod hn4.grow (fun h => h)
  have hg2 := hn3.grow.trans hn4.grow
  refine RL.done ?_
  refine RK.seq ?_
  refine RK.region ?_
  refine RL.p rfl rfl ?_
  refine RL.q (.free rfl) rfl rfl (Yld.fieldAddr fo41_2 rfl) ?_
  refine RL.q (.free rfl) rfl rfl (Yld.load p22 rfl (at1 (hB3.cell rfl))) ?_
  refine RL.q (.free rfl) rfl rfl (Yld.fieldAddr fo41_3 rfl) ?_
  refine RL.q (.free rfl) rfl rfl (Yld.load p22 rfl (at1 (hB3.cell rfl))) ?_
  refine RL.op (.free rfl) rfl rfl (Does.call rfl e51 (state_ok now sta sto _)) ?_
  rintro _ _ ⟨rfl, rfl⟩
  refine RL.q (.free rfl) rfl rfl (Yld.fieldAddr fo41_1 rfl) ?_
  refine RL.op' (.free rfl) rfl (Does.store i3 rfl rfl rfl hB3 (.s .z)) ?_
  rintro _ w3 ⟨hb3, hm3, hs3⟩
  have hg3 : Grow w w3 := hg2.then hm3 (fun y hy e => by have e' : y = b3 := e; have := hn3.at_; omega)
  refine RL.done ?_
  refine RK.seq ?_
  refine RK.region ?_
  refine RL.q (.free rfl) rfl rfl (Yld.fieldAddr fo41_4 rfl) ?_
  refine RL.q (.free rfl) rfl rfl (Yld.load p28 rfl (at1 (hb3.cell rfl))) ?_
  refine RL.op (.free rfl) rfl rfl (Does.call rfl e48 (cloneM_ok M ms _ _ (ha.mod (Mod.any' hg3)) hl)) ?_
  rintro u5 w5 ⟨hr5, hf5, hg5⟩
  obtain ⟨ad5, c5, rfl⟩ := hr5.slice
  have hlt5 := fun b e => hr5.lt (b := b) e
  have ha3 := hn3.at_
  have ha4 := hn4.at_
  have hz3 := hn3.size
  have hz4 := hn4.size
  have hz5 := hg5.size
  refine RL.q (.free rfl) rfl rfl (Yld.fieldAddr fo41_4 rfl) ?_
  refine RL.op' (.free rfl) rfl (Does.store i28 rfl rfl rfl (hb3.mod hg5 (fun h => h)) (.s (.s (.s (.s .z))))) ?_
  rintro _ w6 ⟨hb6, hm6, hs6⟩
  have hB4 := ((hn4.blk.mod hm3 (fun e => by have e' : b4 = b3 := e; omega)).mod hg5 (fun h => h)).mod hm6 (fun e => by have e' : b4 = b3 := e; omega)
  refine RL.done ?_
  refine RK.seq ?_
  refine RK.region ?_
  refine RL.q (.free rfl) rfl rfl (Yld.loadN (cs := silC ⟨aid, stateS now sta sto, sta, sto, .slice ad5 ms.length c5, ms, bd⟩) a41 rfl (atN (blk0' hb6))) ?_
  refine RL.op' (.free rfl) rfl (Does.storeN i41 rfl rfl rfl rfl hB4 (Nat.le_refl 8)) ?_
  rintro _ w7 ⟨hb7, hm7, hs7⟩
  refine RL.done ?_
  refine RK.ret_of Tryz.func55 (resC (cs := silC ⟨aid, stateS now sta sto, sta, sto, .slice ad5 ms.length c5, ms, bd⟩) rfl rfl a41 hb7) ?_ _
  exact ⟨_, rfl, .slice ad5 ms.length c5, rfl, (hr5.mod hm6 (fun b e h => by have := hf5 b e; have h' : b = b3 := h; omega)).mod hm7 (fun b e h => by have := hf5 b e; have h' : b = b4 := h; omega), fun b e => by have := hf5 b e; omega, ((hg3.trans hg5).then hm6 (fun y hy e => by have e' : y = b3 := e; omega)).then hm7 (fun y hy e => by have e' : y = b4 := e; omega)⟩
end Go.Proofs.YtbcbfjnlnmhpbaaGreat
set_option linter.unusedVariables false
set_option linter.unusedSimpArgs false
set_option maxHeartbeats 1600000
set_option maxRecDepth 100000
namespace Go.Proofs.YtbcbfjnlnmhpbaaGreat
open Go Go.X
def spanS (now a b : Int) : Bool := decide (a < b) && decide (now < b) && decide (b ≤ 1099511627776)
theorem spanZ_ok (now a b : Int) (w : World) : Fx Tryz.prog 98 [.int .u64 now, .int .u64 a, .int .u64 b] w (fun u w' => u = .bool (spanS now a b) ∧ w = w') := by
  refine enter Tryz.func98 rfl rfl rfl _ (Pick.sub (l := [0, 1, 2]) (.cons rfl (.cons rfl (.cons rfl .nil)))) ?_
  refine RK.seq ?_
  refine RK.region ?_
  refine RL.p rfl rfl ?_
  refine RL.done ?_
  refine RK.seq ?_
  refine RK.region ?_
  iterate 4 refine RL.p rfl rfl ?_
  first | refine RL.splitD (d := 10) rfl rfl (fun h1 => ?_) (fun h1 => ?_) | refine RL.splitN (d := 10) rfl rfl (fun h1 => ?_) (fun h1 => ?_) | refine RL.split (d := 10) rfl rfl (fun h1 => ?_) (fun h1 => ?_)
  · iterate 3 refine RL.q (.yes rfl rfl rfl) rfl rfl (Yld.pure rfl) ?_
    iterate 2 refine RL.p rfl rfl ?_
    first | refine RL.splitD (d := 15) rfl rfl (fun h2 => ?_) (fun h2 => ?_) | refine RL.splitN (d := 15) rfl rfl (fun h2 => ?_) (fun h2 => ?_) | refine RL.split (d := 15) rfl rfl (fun h2 => ?_) (fun h2 => ?_)
    · iterate 2 refine RL.q (.yes rfl rfl rfl) rfl rfl (Yld.pure rfl) ?_
      iterate 2 refine RL.p rfl rfl ?_
      refine RL.done ?_
      refine RK.ret_of Tryz.func98 (res1 rfl rfl) ?_ _
      exact ⟨_, rfl, by unfold spanS; simp [h1, h2], rfl⟩
    · iterate 2 refine RL.no (.no rfl rfl rfl rfl) rfl rfl ?_
      iterate 2 refine RL.p rfl rfl ?_
      refine RL.done ?_
      refine RK.ret_of Tryz.func98 (res1 rfl rfl) ?_ _
      exact ⟨_, rfl, by unfold spanS; simp [h1, h2], rfl⟩
  · iterate 3 refine RL.no (.no rfl rfl rfl rfl) rfl rfl ?_
    iterate 2 refine RL.p rfl rfl ?_
    iterate 2 refine RL.no (.no rfl rfl rfl rfl) rfl rfl ?_
    iterate 2 refine RL.p rfl rfl ?_
    refine RL.done ?_
    refine RK.ret_of Tryz.func98 (res1 rfl rfl) ?_ _
    exact ⟨_, rfl, by unfold spanS; simp [h1], rfl⟩
def rightS (ms : List Mt) (bd : Bd) : Bool := (decide (0 < ms.length) && listM ms) && mayB bd
theorem rightZ_ok (M : Nat → Prop) (ms : List Mt) (v : Value) (bd : Bd) (w : World) (hv : SlM M w v ms) : Fx Tryz.prog 45 [v, .agg (bdC bd).toArray] w (fun u w' => u = .bool (rightS ms bd) ∧ Grow w w') := by
  obtain ⟨ad, c, rfl⟩ := hv.shape
  refine enter Tryz.func45 rfl rfl rfl _ (Pick.sub (l := [0, 1]) (.cons rfl (.cons rfl .nil))) ?_
  refine RK.seq ?_
  refine RK.region ?_
  refine RL.op (.free rfl) rfl rfl (Does.box rfl) ?_
  rintro _ w1 ⟨b3, rfl, hn3⟩
  refine RL.p rfl rfl ?_
  refine RL.done ?_
  refine RK.seq ?_
  refine RK.region ?_
  refine RL.p rfl rfl ?_
  refine RL.q (.free rfl) rfl rfl (Yld.lenSl u28 rfl) ?_
  iterate 2 refine RL.p rfl rfl ?_
  first | refine RL.splitD (d := 8) rfl rfl (fun h1 => ?_) (fun h1 => ?_) | refine RL.splitN (d := 8) rfl rfl (fun h1 => ?_) (fun h1 => ?_) | refine RL.split (d := 8) rfl rfl (fun h1 => ?_) (fun h1 => ?_)
  · refine RL.q (.yes rfl rfl rfl) rfl rfl (Yld.pure rfl) ?_
    refine RL.op (.yes rfl rfl rfl) rfl rfl (Does.call rfl e95 (matchList_ok M ms _ _ (hv.mod (Mod.any' hn3.grow)))) ?_
    rintro _ w2 ⟨rfl, hg2⟩
    have hB3 : Blk w2 b3 32 (bdC bd) := hn3.blk.mod hg2 (fun h => h)
    iterate 2 refine RL.p rfl rfl ?_
    first | refine RL.splitD (d := 12) rfl rfl (fun h2 => ?_) (fun h2 => ?_) | refine RL.splitN (d := 12) rfl rfl (fun h2 => ?_) (fun h2 => ?_) | refine RL.split (d := 12) rfl rfl (fun h2 => ?_) (fun h2 => ?_)
    · refine RL.q (.yes rfl rfl rfl) rfl rfl (Yld.loadN (cs := bdC bd) a32 rfl (atN (blk0' hB3))) ?_
      refine RL.op (.yes rfl rfl rfl) rfl rfl (Does.call rfl e96 (may_ok bd _)) ?_
      rintro _ w3 ⟨rfl, hg3⟩
      iterate 2 refine RL.p rfl rfl ?_
      refine RL.done ?_
      refine RK.ret_of Tryz.func45 (res1 rfl rfl) ?_ _
      exact ⟨_, rfl, by unfold rightS; rw [h2, decide_eq_true (by omega)]; rfl, (hn3.grow.trans hg2).trans hg3⟩
    · iterate 2 refine RL.no (.no rfl rfl rfl rfl) rfl rfl ?_
      iterate 2 refine RL.p rfl rfl ?_
      refine RL.done ?_
      refine RK.ret_of Tryz.func45 (res1 rfl rfl) ?_ _
      exact ⟨_, rfl, by unfold rightS; rw [show listM ms = false by simpa using h2]; simp, hn3.grow.trans hg2⟩
  · iterate 2 refine RL.no (.no rfl rfl rfl rfl) rfl rfl ?_
    iterate 2 refine RL.p rfl rfl ?_
    iterate 2 refine RL.no (.no rfl rfl rfl rfl) rfl rfl ?_
    iterate 2 refine RL.p rfl rfl ?_
    refine RL.done ?_
    refine RK.ret_of Tryz.func45 (res1 rfl rfl) ?_ _
    exact ⟨_, rfl, by unfold rightS; rw [decide_eq_false (by omega)]; rfl, hn3.grow⟩
def fitsS (now a b : Int) (ms : List Mt) : Int := if anyL ms = true then 7 else if spanS now a b = true then 0 else 8
theorem fitsZ_ok (M : Nat → Prop) (now a b : Int) (ms : List Mt) (v : Value) (w : World) (hv : SlM M w v ms) : Fx Tryz.prog 46 [.int .u64 now, .int .u64 a, .int .u64 b, v] w (fun u w' => u = .int .i64 (fitsS now a b ms) ∧ Grow w w') := by
  obtain ⟨ad, c, rfl⟩ := hv.shape
  refine enter Tryz.func46 rfl rfl rfl _ (Pick.sub (l := [0, 1, 2, 3]) (.cons rfl (.cons rfl (.cons rfl (.cons rfl .nil))))) ?_
  refine RK.seq ?_
  refine RK.region ?_
  refine RL.p rfl rfl ?_
  refine RL.done ?_
  refine RK.seq ?_
  refine RK.block ?_
  refine RK.seq ?_
  refine RK.region ?_
  refine RL.p rfl rfl ?_
  refine RL.op (.free rfl) rfl rfl (Does.call rfl e97 (matchAnyL_ok M ms _ _ hv)) ?_
  rintro _ w2 ⟨rfl, hg2⟩
  refine RL.p rfl rfl ?_
  refine RL.done ?_
  first | refine RK.condD rfl (fun h9 => ?_) (fun h9 => ?_) | refine RK.condN rfl (fun h9 => ?_) (fun h9 => ?_) | refine RK.cond rfl (fun h9 => ?_) (fun h9 => ?_)
  · refine RK.seq ?_
    refine RK.region ?_
    refine RL.p rfl rfl ?_
    refine RL.done ?_
    refine RK.ret_of Tryz.func46 (res1 rfl rfl) ?_ _
    exact ⟨_, rfl, by unfold fitsS; rw [if_pos h9], hg2⟩
  · refine RK.seq ?_
    refine RK.region ?_
    iterate 3 refine RL.p rfl rfl ?_
    refine RL.op (.free rfl) rfl rfl (Does.call rfl e98 (spanZ_ok now a b _)) ?_
    rintro _ _ ⟨rfl, rfl⟩
    iterate 2 refine RL.p rfl rfl ?_
    refine RL.done ?_
    first | refine RK.condD rfl (fun h12 => ?_) (fun h12 => ?_) | refine RK.condN rfl (fun h12 => ?_) (fun h12 => ?_) | refine RK.cond rfl (fun h12 => ?_) (fun h12 => ?_)
    · refine RK.seq ?_
      refine RK.region ?_
      refine RL.p rfl rfl ?_
      refine RL.done ?_
      refine RK.ret_of Tryz.func46 (res1 rfl rfl) ?_ _
      exact ⟨_, rfl, by unfold fitsS; rw [h9, show spanS now a b = false by simpa using h12]; rfl, hg2⟩
    · refine RK.skip ?_
      refine RK.inBlock ?_
      refine RK.seq ?_
      refine RK.region ?_
      refine RL.p rfl rfl ?_
      refine RL.done ?_
      refine RK.ret_of Tryz.func46 (res1 rfl rfl) ?_ _
      exact ⟨_, rfl, by unfold fitsS; rw [h9, show spanS now a b = true by simpa using h12]; rfl, hg2⟩
structure Slz where
  id : Int
  start : Int
  stop : Int
  ms : List Mt
  bd : Bd
def pubZ (a : Sil) : Slz := ⟨a.id, a.start, a.stop, a.ms, a.bd⟩
structure SS where
  ret : Int
  most : Int
  last : Int
  sl : List Slz
def ownS (p pl qu : Nat) (vp vq vs : Value) (b : Nat) : Prop := b = p ∨ b = pl ∨ b = qu ∨ vp.ownBlock = some b ∨ vq.ownBlock = some b ∨ vs.ownBlock = some b
structure ZA (w : World) (p : Nat) (s : SS) (M : Nat → Prop) (pl qu : Nat) (vp vq vs : Value) (al : List Sil) (q : List En) : Prop where
  blk : Blk w p 101 [pp pl, pp qu, .int .u64 s.ret, vs]
  pool : PoolAt w pl s.most s.last (al.map (·.id)) vp
  que : QAt w qu q vq
  row : Row w 41 8 vs al.length (al.flatMap silC)
  als : al.map pubZ = s.sl
  sms : ∀ a ∈ al, SlM M w a.mv a.ms
  sort : SortE q
  perm : q.Perm (al.map fun a => ⟨a.stop + s.ret, a.id⟩)
  ownM : ∀ b, ownS p pl qu vp vq vs b → M b
  ltM : ∀ b, M b → b < w.heap.size
def ZStore (O M : Nat → Prop) (w : World) (p : Nat) (s : SS) : Prop := ∃ pl qu vp vq vs al q, (∀ b, O b ↔ ownS p pl qu vp vq vs b) ∧ ZA w p s M pl qu vp vq vs al q
structure Gz (s : SS) : Prop where
  r0 : 1 ≤ s.ret
  r1 : s.ret ≤ 1048576
  m1 : s.most ≤ 12
  len : (s.sl.length : Int) ≤ s.most
  ris : Ris (s.sl.map (·.id))
  l0 : 0 ≤ s.last
  low : ∀ a ∈ s.sl, a.id ≤ s.last
  st : ∀ a ∈ s.sl, 0 ≤ a.stop ∧ a.stop ≤ 1099511627776
theorem Gz.le {s : SS} (h : Gz s) : s.sl.length ≤ 12 := by have := h.len; have := h.m1; omega
section
variable {w : World} {p : Nat} {s : SS} {M : Nat → Prop} {pl qu : Nat} {vp vq vs : Value} {al : List Sil} {q : List En}
theorem ZA.len (h : ZA w p s M pl qu vp vq vs al q) : al.length = s.sl.length := by rw [← h.als, List.length_map]
theorem ZA.ids (h : ZA w p s M pl qu vp vq vs al q) : al.map (·.id) = s.sl.map (·.id) := by rw [← h.als, List.map_map]; rfl
theorem ZA.qlen (h : ZA w p s M pl qu vp vq vs al q) : q.length = al.length := by rw [h.perm.length_eq, List.length_map]
theorem ZA.sh (h : ZA w p s M pl qu vp vq vs al q) : ∀ a ∈ al, ∃ ad n c, a.mv = .slice ad n c := fun a ha => by obtain ⟨ad, c, e⟩ := (h.sms a ha).shape; exact ⟨ad, _, c, e⟩
theorem ZA.own_lt (h : ZA w p s M pl qu vp vq vs al q) {b : Nat} (e : ownS p pl qu vp vq vs b) : b < w.heap.size := h.ltM b (h.ownM b e)
theorem ZA.ne_ppl (h : ZA w p s M pl qu vp vq vs al q) : p ≠ pl := h.blk.ty.ne h.pool.blk.ty rfl
theorem ZA.ne_plqu (h : ZA w p s M pl qu vp vq vs al q) : pl ≠ qu := h.pool.blk.ty.ne h.que.blk.ty rfl
theorem ZA.grow {w' : World} (h : ZA w p s M pl qu vp vq vs al q) (hg : Grow w w') : ZA w' p s M pl qu vp vq vs al q :=
  ⟨h.blk.mod hg (fun h => h), ⟨h.pool.blk.mod hg (fun h => h), h.pool.row.mod hg (fun _ _ h => h), h.pool.ne⟩, h.que.grow hg, h.row.mod hg (fun _ _ h => h), h.als, fun a ha => (h.sms a ha).mod (Mod.any' hg), h.sort, h.perm, h.ownM, fun b hb => Nat.lt_of_lt_of_le (h.ltM b hb) hg.size⟩
end
theorem ZStore.grow {O M : Nat → Prop} {w w' : World} {p : Nat} {s : SS} (h : ZStore O M w p s) (hg : Grow w w') : ZStore O M w' p s := by
  obtain ⟨pl, qu, vp, vq, vs, al, q, hO, h⟩ := h
  exact ⟨pl, qu, vp, vq, vs, al, q, hO, h.grow hg⟩
theorem ZStore.lt {O M : Nat → Prop} {w : World} {p : Nat} {s : SS} (h : ZStore O M w p s) : ∀ b, O b → b < w.heap.size := by
  obtain ⟨pl, qu, vp, vq, vs, al, q, hO, h⟩ := h
  exact fun b hb => h.own_lt ((hO b).1 hb)
def placeI (l : List Int) (id : Int) : Option Nat := l.findIdx? fun x => decide (x = id)
def placeZ (s : SS) (id : Int) : Option Nat := placeI (s.sl.map (·.id)) id
theorem placeI_eq (l : List Int) (id : Int) (i : Nat) (hs : Ris l) (hlo : ∀ (t : Nat) (x : Int), t < i → l[t]? = some x → x < id) (hhi : ∀ (t : Nat) (x : Int), i ≤ t → l[t]? = some x → id ≤ x) : placeI l id = if l[i]? = some id then some i else none := by
  unfold placeI
  split
  · rename_i he
    obtain ⟨hil, hv⟩ := List.getElem?_eq_some_iff.1 he
    rw [List.findIdx?_eq_some_iff_getElem]
    refine ⟨hil, by simpa using hv, fun j hj => ?_⟩
    have := hlo j _ hj (List.getElem?_eq_getElem (by omega))
    simp only [decide_eq_true_eq]
    omega
  · rename_i he
    rw [List.findIdx?_eq_none_iff]
    intro x hx
    obtain ⟨t, ht⟩ := List.getElem?_of_mem hx
    simp only [decide_eq_false_iff_not]
    intro e
    subst e
    have htl := (List.getElem?_eq_some_iff.1 ht).1
    rcases Nat.lt_trichotomy t i with h1 | h1 | h1
    · have := hlo t _ h1 ht; omega
    · subst h1; exact he ht
    · have h2 := hhi i _ (Nat.le_refl _) (List.getElem?_eq_getElem (by omega))
      have h3 := List.pairwise_iff_getElem.1 hs i t (by omega) htl h1
      rw [(List.getElem?_eq_some_iff.1 ht).2] at h3
      omega
theorem findZ_ok (w : World) (p : Nat) (s : SS) (M : Nat → Prop) (pl qu : Nat) (vp vq vs : Value) (al : List Sil) (q : List En) (h : ZA w p s M pl qu vp vq vs al q) (g : Gz s) (id : Int) :
    Fx Tryz.prog 54 [pp p, .int .i64 id] w (fun u w' => (∃ i : Nat, u = .tuple #[.int .i64 i, .bool (placeZ s id).isSome] ∧ (∀ j, placeZ s id = some j → j = i ∧ i < al.length)) ∧ Grow w w') := by
  have hlen := h.len
  have hle := g.le
  have hids := h.ids
  have hcall := bsZ_ok al id vs w (Sl.own h.row (fun _ _ h => h)) h.sh (by rw [hids]; exact g.ris) (by omega)
  obtain ⟨ad, c, rfl⟩ := h.row.slice
  refine enter Tryz.func54 rfl rfl rfl _ (Pick.sub (l := [0, 1]) (.cons rfl (.cons rfl .nil))) ?_
  refine RK.seq ?_
  refine RK.region ?_
  iterate 2 refine RL.p rfl rfl ?_
  refine RL.done ?_
  refine RK.seq ?_
  refine RK.region ?_
  iterate 2 refine RL.p rfl rfl ?_
  refine RL.q (.free rfl) rfl rfl (Yld.fieldAddr fo101_3 rfl) ?_
  refine RL.q (.free rfl) rfl rfl (Yld.load p44 rfl (at1 (h.blk.cell rfl))) ?_
  refine RL.p rfl rfl ?_
  refine RL.op (.free rfl) rfl rfl (Does.call rfl e104 (hcall)) ?_
  rintro _ w2 ⟨⟨i, hi, hlo, hhi, rfl⟩, hg2⟩
  have hp : placeZ s id = if (al.map (·.id))[i]? = some id then some i else none := by
      unfold placeZ
      rw [← hids]
      refine placeI_eq _ id i (by rw [hids]; exact g.ris) (fun t x ht hx => ?_) (fun t x ht hx => ?_)
      · rw [List.getElem?_map] at hx
        cases ha : al[t]? with
        | none => rw [ha] at hx; cases hx
        | some a => rw [ha] at hx; cases hx; exact hlo t a ht ha
      · rw [List.getElem?_map] at hx
        cases ha : al[t]? with
        | none => rw [ha] at hx; cases hx
        | some a => rw [ha] at hx; cases hx; exact hhi t a ht ha
  iterate 4 refine RL.p rfl rfl ?_
  refine RL.done ?_
  refine RK.ret_of Tryz.func54 (res2 rfl rfl rfl) ?_ _
  exact ⟨_, rfl, ⟨i, by
      rw [hp]
      by_cases he : (al.map (·.id))[i]? = some id
      · rw [if_pos he, he]; simp
      · rw [if_neg he, beq_eq_false_iff_ne.2 he]; rfl
    , fun j hj => by
      rw [hp] at hj
      split at hj
      · rename_i he
        cases hj
        have := (List.getElem?_eq_some_iff.1 he).1
        exact ⟨rfl, by simpa using this⟩
      · cases hj
    ⟩, hg2⟩
theorem set_sil (st sp : Int) : ∀ (al : List Sil) (i : Nat) (a : Sil), al[i]? = some a → ((al.flatMap silC).set (i * 8 + 2) (.int .u64 st)).set (i * 8 + 3) (.int .u64 sp) = (al.set i { a with start := st, stop := sp }).flatMap silC
  | [], i, a, h => by simp at h
  | x :: al, 0, a, h => by
    obtain rfl : x = a := by simpa using h
    simp only [List.flatMap_cons, silC, List.set_cons_zero]
    rfl
  | x :: al, i + 1, a, h => by
    have ih := set_sil st sp al i a (by simpa using h)
    rw [List.set_cons_succ, List.flatMap_cons, List.flatMap_cons, ← ih]
    rw [List.set_append_right _ _ (by rw [silC_len]; omega), List.set_append_right _ _ (by rw [silC_len]; omega), silC_len]
    congr 2
    · congr 1; omega
    · omega
end Go.Proofs.YtbcbfjnlnmhpbaaGreat
set_option linter.unusedVariables false
set_option linter.unusedSimpArgs false
set_option maxHeartbeats 1600000
set_option maxRecDepth 100000
namespace Go.Proofs.YtbcbfjnlnmhpbaaGreat
open Go Go.X
theorem turnZ_ok (w : World) (p pl qu : Nat) (ret start stop : Int) (vq vs : Value) (al : List Sil) (q : List En) (i : Nat) (a : Sil) (hb : Blk w p 101 [pp pl, pp qu, .int .u64 ret, vs]) (hq : QAt w qu q vq) (hs : SortE q) (hr : Row w 41 8 vs al.length (al.flatMap silC)) (ha : al[i]? = some a) (hql : q.length ≤ 1000) (hal : al.length ≤ 1000) (h0 : 0 ≤ stop + ret) (h1 : stop + ret < 18446744073709551616) :
    Fx Tryz.prog 49 [pp p, .int .i64 (i : Int), .int .u64 start, .int .u64 stop] w (fun u w' => u = .tuple #[] ∧ ∃ vq', Blk w' p 101 [pp pl, pp qu, .int .u64 ret, vs] ∧ QAt w' qu (putE (dropE q a.id) ⟨stop + ret, a.id⟩) vq' ∧ Row w' 41 8 vs al.length ((al.set i { a with start := start, stop := stop }).flatMap silC) ∧ Mod (fun b => b = qu ∨ vq.ownBlock = some b ∨ vs.ownBlock = some b) w w' ∧ ∀ b, vq'.ownBlock = some b → vq.ownBlock = some b ∨ w.heap.size ≤ b) := by
  have hil : i < al.length := (List.getElem?_eq_some_iff.1 ha).1
  obtain ⟨gb, cp, cs, rfl, hbk, hl, hkc, hcm, htk⟩ := hr.whole (by omega)
  have hpg : p ≠ gb := hb.ty.ne hbk.ty rfl
  have hgq : gb ≠ qu := hbk.ty.ne hq.blk.ty rfl
  have hpq : p ≠ qu := hb.ty.ne hq.blk.ty rfl
  have hgv : ∀ b, vq.ownBlock = some b → b ≠ gb := fun b e => (hq.row.ty e).ne hbk.ty rfl
  have hpv : ∀ b, vq.ownBlock = some b → b ≠ p := fun b e => (hq.row.ty e).ne hb.ty rfl
  refine enter Tryz.func49 rfl rfl rfl _ (Pick.sub (l := [0, 1, 2, 3]) (.cons rfl (.cons rfl (.cons rfl (.cons rfl .nil))))) ?_
  refine RK.seq ?_
  refine RK.drawM (· = gb) [(0, false), (1, false), (2, false), (3, false), (4, false), (5, false), (6, false), (7, false), (8, false), (9, false), (10, false), (11, false), (12, false), (13, false), (14, true), (15, false), (16, false), (17, true)] [14, 17] mixed (by kernel_rfl) ?_
  iterate 2 refine DL.p rfl rfl rfl ?_
  refine DL.qf rfl (.free rfl) rfl rfl (Yld.fieldAddr fo101_3 rfl) ?_
  refine DL.q rfl (.free rfl) rfl rfl rfl (Yld.load p44 rfl (atM (hb.cell rfl) (hpg))) (Mod.drew _ _) ?_
  iterate 3 refine DL.p rfl rfl rfl ?_
  refine DL.qf rfl (.free rfl) rfl rfl (Yld.fieldAddr fo101_3 rfl) ?_
  refine DL.q rfl (.free rfl) rfl rfl rfl (Yld.load p44 rfl (atM (hb.cell rfl) (hpg))) (Mod.drew _ _) ?_
  iterate 3 refine DL.p rfl rfl rfl ?_
  refine DL.qf rfl (.free rfl) rfl rfl (Yld.indexAddrN u44 i41 rfl rfl (by omega)) ?_
  refine DL.qf rfl (.free rfl) rfl rfl (Yld.fieldAddr fo41_2 rfl) ?_
  refine DL.opT rfl (.free rfl) rfl rfl (Does.store i22 rfl rfl rfl (hbk.mod (Mod.drew No _) (fun h => h)) (SetAt.of (by rw [hl]; omega))) ?_
  rintro _ w2 ⟨hb2, hm2, hs2⟩
  refine DL.qf rfl (.free rfl) rfl rfl (Yld.indexAddrN u44 i41 rfl rfl (by omega)) ?_
  refine DL.qf rfl (.free rfl) rfl rfl (Yld.fieldAddr fo41_3 rfl) ?_
  refine DL.opT rfl (.free rfl) rfl rfl (Does.store i22 rfl rfl rfl hb2 (SetAt.of (by rw [List.length_set, hl]; omega))) ?_
  rintro _ w3 ⟨hb3, hm3, hs3⟩
  have hm03 : Mod (· = gb) w w3 := ((Mod.drew _ _).trans hm2).trans hm3
  have hbp3 := hb.mod hm03 hpg
  have hR : Row w3 41 8 (.slice (some ⟨gb, 0, none⟩) al.length cp) al.length ((al.set i { a with start := start, stop := stop }).flatMap silC) := by
      have hR := Row.shut hb3 (sz := 8) (cap := cp) (k := al.length) (by rw [List.length_set, List.length_set]; exact hl) hkc hcm
      rw [List.take_set, List.take_set, htk, Nat.zero_add, set_sil start stop al i a ha] at hR
      exact hR
  have hR2 : Row w3 41 8 (.slice (some ⟨gb, 0, none⟩) al.length cp) (al.set i { a with start := start, stop := stop }).length ((al.set i { a with start := start, stop := stop }).flatMap silC) := by rw [List.length_set]; exact hR
  have hx : (al.set i { a with start := start, stop := stop })[i]? = some { a with start := start, stop := stop } := by rw [List.getElem?_set_self hil]
  obtain ⟨b1, o1, c1', he1, _, _, hc1⟩ := (Sl.own (M := No) hR2 (fun _ _ h => h)).elem silC_len hx
  rw [List.length_set] at he1
  cases he1
  have hq3 := hq.mod hm03 hgq.symm (fun b e => hgv b e)
  refine DL.done ?_
  refine RK.drawM (fun b => b = qu ∨ vq.ownBlock = some b) [(0, false), (1, false), (2, false), (3, false), (4, false), (5, false), (6, false), (7, false), (8, false), (9, false), (10, false), (11, false), (12, false), (13, false), (14, false), (15, false), (16, false), (17, false), (18, true)] [] mixed (by kernel_rfl) ?_
  iterate 2 refine DL.p rfl rfl rfl ?_
  refine DL.qf rfl (.free rfl) rfl rfl (Yld.fieldAddr fo101_1 rfl) ?_
  refine DL.q rfl (.free rfl) rfl rfl rfl (Yld.load p98 rfl (atM (hbp3.cell rfl) ((fun e => e.elim hpq (fun e => hpv p e rfl))))) (Mod.drew _ _) ?_
  iterate 2 refine DL.p rfl rfl rfl ?_
  refine DL.qf rfl (.free rfl) rfl rfl (Yld.fieldAddr fo101_3 rfl) ?_
  refine DL.q rfl (.free rfl) rfl rfl rfl (Yld.load p44 rfl (atM (hbp3.cell rfl) ((fun e => e.elim hpq (fun e => hpv p e rfl))))) (Mod.drew _ _) ?_
  refine DL.p rfl rfl rfl ?_
  refine DL.qf rfl (.free rfl) rfl rfl (Yld.indexAddrN u44 i41 rfl rfl (by omega)) ?_
  refine DL.qf rfl (.free rfl) rfl rfl (Yld.fieldAddr fo41_0 rfl) ?_
  refine DL.q rfl (.free rfl) rfl rfl rfl (Yld.load p3 rfl (atM (hc1 0 _ rfl) ((fun e => e.elim hgq (fun e => hgv gb e rfl))))) (Mod.drew _ _) ?_
  iterate 3 refine DL.p rfl rfl rfl ?_
  refine DL.qf rfl (.free rfl) rfl rfl (Yld.fieldAddr fo101_2 rfl) ?_
  refine DL.q rfl (.free rfl) rfl rfl rfl (Yld.load p22 rfl (atM (hbp3.cell rfl) ((fun e => e.elim hpq (fun e => hpv p e rfl))))) (Mod.drew _ _) ?_
  refine DL.p rfl rfl rfl ?_
  refine DL.re (d := 41) rfl rfl (congrArg (Value.int .u64) (show _ = stop + ret by rw [IntKind.wrap_u64]; omega)) ?_
  refine DL.op rfl (.free rfl) rfl rfl (Does.call rfl e99 (reapPut_ok _ qu q vq (hq3.grow (Mod.drew No _)) hs a.id (stop + ret) (by omega))) ?_
  rintro _ w4 ⟨rfl, vq', hq4, hm4', hf4⟩
  have hm4 : Mod (fun b => b = qu ∨ vq.ownBlock = some b) w3 w4 := (Mod.drew _ _).trans hm4'
  refine ⟨hm4, ?_⟩
  have hz3 := hm03.size
  refine DL.done ?_
  refine RK.end_of Tryz.func49 (res0 rfl) ?_
  exact ⟨_, rfl, rfl, vq', hbp3.mod hm4 (fun e => e.elim hpq (fun e => hpv p e rfl)), hq4, hR.mod hm4 (fun b e h => by cases e; exact h.elim hgq (fun e => hgv gb e rfl)), (hm03.mono fun b _ e => .inr (.inr (by rw [e]; rfl))).trans (hm4.mono fun b _ e => e.elim .inl (fun e => .inr (.inl e))), fun b e => (hf4 b e).elim .inl (fun h => .inr (by simp only [World.drew] at h; omega))⟩
end Go.Proofs.YtbcbfjnlnmhpbaaGreat
set_option linter.unusedVariables false
set_option linter.unusedSimpArgs false
set_option maxHeartbeats 1600000
set_option maxRecDepth 100000
namespace Go.Proofs.YtbcbfjnlnmhpbaaGreat
open Go Go.X
def entZ (ret : Int) (a : Sil) : En := ⟨a.stop + ret, a.id⟩
theorem ZA.perm' {w : World} {p : Nat} {s : SS} {M : Nat → Prop} {pl qu : Nat} {vp vq vs : Value} {al : List Sil} {q : List En} (h : ZA w p s M pl qu vp vq vs al q) : q.Perm (al.map (entZ s.ret)) := h.perm
theorem ids_find {ret : Int} {al : List Sil} {i : Nat} {a : Sil} (hris : Ris (al.map (·.id))) (ha : al[i]? = some a) : (al.map (entZ ret)).findIdx? (fun x => decide (x.id = a.id)) = some i := by
  obtain ⟨hil, hv⟩ := List.getElem?_eq_some_iff.1 ha
  rw [List.findIdx?_eq_some_iff_getElem]
  refine ⟨by simpa using hil, by simp [hv, entZ], fun j hj => ?_⟩
  have h := List.pairwise_iff_getElem.1 hris j i (by simp; omega) (by simpa using hil) hj
  simp only [List.getElem_map, hv] at h
  simp only [List.getElem_map, entZ, decide_eq_true_eq]
  omega
theorem turn_perm {ret : Int} {al : List Sil} {q : List En} {i : Nat} {a a' : Sil} (hperm : q.Perm (al.map (entZ ret))) (hris : Ris (al.map (·.id))) (ha : al[i]? = some a) (hid : a'.id = a.id) : (putE (dropE q a.id) (entZ ret a')).Perm ((al.set i a').map (entZ ret)) := by
  have hil := (List.getElem?_eq_some_iff.1 ha).1
  have hd : (al.map (entZ ret)).Pairwise (fun x y => decide (x.id = a.id) = true → decide (y.id = a.id) = true → False) := by
    have hris := List.pairwise_map.1 hris
    rw [List.pairwise_map]
    refine hris.imp fun {x y} h h1 h2 => ?_
    have e1 : x.id = a.id := of_decide_eq_true h1
    have e2 : y.id = a.id := of_decide_eq_true h2
    omega
  have h1 := (List.Perm.eraseP (fun x : En => decide (x.id = a.id)) hd hperm.symm).symm
  rw [List.eraseP_eq_eraseIdx (xs := al.map (entZ ret)), ids_find hris ha] at h1
  refine (putE_perm _ _).trans ?_
  rw [List.map_set, List.set_eq_take_append_cons_drop, if_pos (by simpa using hil)]
  refine (List.Perm.cons _ h1).trans ?_
  simp only [List.eraseIdx_eq_take_drop_succ]
  exact List.perm_middle.symm
theorem dropE_none {q : List En} {id : Int} (h : ∀ x ∈ q, x.id ≠ id) : dropE q id = q := List.eraseP_of_forall_not fun x hx => by simpa using h x hx
theorem dropE_no {q : List En} {id : Int} {L : List En} (hp : q.Perm L) (hd : L.Pairwise fun x y => x.id ≠ y.id) : ∀ x ∈ dropE q id, x.id ≠ id := by
  have hd' : q.Pairwise fun x y => x.id ≠ y.id := (hp.pairwise_iff (fun {a b} h => fun e => h e.symm)).2 hd
  clear hd hp
  induction q with
  | nil => intro x hx; simp [dropE] at hx
  | cons y q ih =>
    rw [List.pairwise_cons] at hd'
    intro x hx
    unfold dropE at hx
    by_cases hy : y.id = id
    · rw [List.eraseP_cons_of_pos (by simpa using hy)] at hx
      have := hd'.1 x hx
      omega
    · rw [List.eraseP_cons_of_neg (by simpa using hy)] at hx
      rcases List.mem_cons.1 hx with rfl | hx
      · exact hy
      · exact ih hd'.2 x hx
theorem ids_ne {ret : Int} {al : List Sil} (hris : Ris (al.map (·.id))) : (al.map (entZ ret)).Pairwise fun x y => x.id ≠ y.id := by
  have hris := List.pairwise_map.1 hris
  rw [List.pairwise_map]
  exact hris.imp fun {x y} h e => by simp only [entZ] at e; omega
theorem turn_sort {ret : Int} {al : List Sil} {q : List En} {id due : Int} (hs : SortE q) (hperm : q.Perm (al.map (entZ ret))) (hris : Ris (al.map (·.id))) : SortE (putE (dropE q id) ⟨due, id⟩) :=
  putE_sort (dropE_sort hs id) fun h => dropE_no hperm (ids_ne hris) _ h rfl
theorem ZStore.next {M : Nat → Prop} {w w' : World} {p pl qu : Nat} {s' : SS} {vp vq vs : Value} {al : List Sil} {q : List En} (hM : ∀ b, M b → b < w.heap.size) (hm : Mod M w w')
    (blk : Blk w' p 101 [pp pl, pp qu, .int .u64 s'.ret, vs]) (pool : PoolAt w' pl s'.most s'.last (al.map (·.id)) vp) (que : QAt w' qu q vq) (row : Row w' 41 8 vs al.length (al.flatMap silC)) (als : al.map pubZ = s'.sl)
    (sms : ∀ a ∈ al, SlM M w a.mv a.ms ∨ (Row w' 108 3 a.mv a.ms.length (a.ms.flatMap mtC) ∧ ∀ b, a.mv.ownBlock = some b → w.heap.size ≤ b)) (sort : SortE q) (perm : q.Perm (al.map (entZ s'.ret))) (hO : ∀ b, ownS p pl qu vp vq vs b → M b ∨ w.heap.size ≤ b) :
    ZStore (ownS p pl qu vp vq vs) (fun b => M b ∨ ownS p pl qu vp vq vs b) w' p s' := by
  have hty : ∀ b, ownS p pl qu vp vq vs b → ∀ k, Ty w' k 108 → b ≠ k := fun b e k hk => by
    rcases e with rfl | rfl | rfl | e | e | e
    · exact blk.ty.ne hk rfl
    · exact pool.blk.ty.ne hk rfl
    · exact que.blk.ty.ne hk rfl
    · exact (pool.row.ty e).ne hk rfl
    · exact (que.row.ty e).ne hk rfl
    · exact (row.ty e).ne hk rfl
  refine ⟨pl, qu, vp, vq, vs, al, q, fun _ => Iff.rfl, blk, pool, que, row, als, fun a ha => ?_, sort, perm, fun b e => .inr e, fun b e => ?_⟩
  · rcases sms a ha with h | ⟨h, hf⟩
    · exact (h.off (by omega) (fun b hb e => e.elim id fun e => (hO b e).elim id fun e => by omega)).mod (hm.mono fun b _ e => .inl e)
    · refine Sl.own h fun k hk e => ?_
      have h1 := hf k hk
      rcases e with e | e
      · have := hM k e; omega
      · exact hty k e k (h.ty hk) rfl
  · rcases e with e | rfl | rfl | rfl | e | e | e
    · exact Nat.lt_of_lt_of_le (hM b e) hm.size
    · exact blk.lt
    · exact pool.blk.lt
    · exact que.blk.lt
    · exact pool.row.lt e
    · exact que.row.lt e
    · exact row.lt e
def clampS (x lo hi : Int) : Int := if hi < (if lo > x then lo else x) then hi else (if lo > x then lo else x)
theorem newZ_ok (m r : Int) (w : World) : Fx Tryz.prog 10 [.int .i64 m, .int .u64 r] w (fun u w' => ∃ p O, u = pp p ∧ ZStore O O w' p ⟨clampS r 1 1048576, clampS m 1 12, 0, []⟩ ∧ Grow w w' ∧ ∀ b, O b → w.heap.size ≤ b) := by
  refine enter Tryz.func10 rfl rfl rfl _ (Pick.sub (l := [0, 1]) (.cons rfl (.cons rfl .nil))) ?_
  refine RK.seq ?_
  refine RK.region ?_
  refine RL.p rfl rfl ?_
  refine RL.done ?_
  refine RK.seq ?_
  refine RK.region ?_
  refine RL.p rfl rfl ?_
  refine RL.q (.free rfl) rfl rfl (Yld.max2 rfl rfl) ?_
  refine RL.q (.free rfl) rfl rfl (Yld.min2 rfl rfl) ?_
  refine RL.op (.free rfl) rfl rfl (Does.call rfl e43 (poolNew_ok _ _)) ?_
  rintro _ w1 ⟨pl, rfl, hpa, hp1, hg1, hz1⟩
  refine RL.op (.free rfl) rfl rfl (Does.call rfl e44 (reapNew_ok _)) ?_
  rintro _ w2 ⟨qu, rfl, hqa, hq2, hg2, hz2⟩
  refine RL.p rfl rfl ?_
  refine RL.q (.free rfl) rfl rfl (Yld.max2k rfl rfl) ?_
  refine RL.q (.free rfl) rfl rfl (Yld.min2k rfl rfl) ?_
  refine RL.q (.free rfl) rfl rfl (Yld.build (v := .agg #[pp pl, pp qu, .int .u64 (clampS r 1 1048576), .slice none 0 0]) rfl (fun w => by kernel_rfl)) ?_
  refine RL.op (.free rfl) rfl rfl (Does.box rfl) ?_
  rintro _ w3 ⟨b14, rfl, hn14⟩
  have hmost : (if 0 > clampS m 1 12 then 0 else clampS m 1 12) = clampS m 1 12 := by unfold clampS; split <;> split <;> (try split) <;> omega
  have hp3 : PoolAt w3 pl (clampS m 1 12) 0 [] (.slice none 0 0) := by
      have h1 : PoolAt w1 pl (clampS m 1 12) 0 [] (.slice none 0 0) := hmost ▸ hp1
      exact ⟨h1.blk.mod (hg2.trans hn14.grow) (fun h => h), h1.row.mod (hg2.trans hn14.grow) (fun _ _ h => h), h1.ne⟩
  have hlt : ∀ b, ownS b14 pl qu (.slice none 0 0) (.slice none 0 0) (.slice none 0 0) b → b < w3.heap.size ∧ w.heap.size ≤ b := fun b e => by
      have h1 := hn14.at_
      have h2 := hg1.size
      have h3 := hn14.blk.lt
      have h4 := hp3.blk.lt
      have h5 := (hq2.grow hn14.grow).blk.lt
      have h6 := hg2.size
      rcases e with e | e | e | e | e | e
      · omega
      · omega
      · omega
      · simp [Value.ownBlock] at e
      · simp [Value.ownBlock] at e
      · simp [Value.ownBlock] at e
  refine RL.p rfl rfl ?_
  refine RL.done ?_
  refine RK.ret_of Tryz.func10 (res1 rfl rfl) ?_ _
  exact ⟨_, rfl, b14, ownS b14 pl qu (.slice none 0 0) (.slice none 0 0) (.slice none 0 0), rfl, ⟨pl, qu, .slice none 0 0, .slice none 0 0, .slice none 0 0, [], [], fun _ => Iff.rfl, ⟨hn14.blk, hp3, hq2.grow hn14.grow, Row.nil _ _ _, rfl, fun a ha => (by cases ha), List.Pairwise.nil, List.Perm.nil, fun b e => e, fun b e => (hlt b e).1⟩⟩, (hg1.trans hg2).trans hn14.grow, fun b e => (hlt b e).2⟩
theorem takeNo_ok (w : World) (p : Nat) (most last : Int) (out : List Int) (v : Value) (hp : PoolAt w p most last out v) (h1 : most ≤ out.length) :
    Fx Tryz.prog 47 [pp p] w (fun u w' => u = .tuple #[.int .i64 0, .bool false] ∧ Grow w w') := by
  obtain ⟨ad, c, rfl⟩ := hp.row.slice
  refine enter Tryz.func47 rfl rfl rfl _ (Pick.sub (l := [0]) (.cons rfl .nil)) ?_
  refine RK.seq ?_
  refine RK.region ?_
  iterate 2 refine RL.p rfl rfl ?_
  refine RL.done ?_
  iterate 2 refine RK.seq ?_
  refine RK.drawM No [(0, false), (1, false), (2, false), (3, false), (4, false), (5, false), (6, false), (7, false), (8, false), (9, false), (10, false), (11, false), (12, false), (13, false), (14, false), (15, false), (16, false)] [] mixed (by kernel_rfl) ?_
  iterate 2 refine DL.p rfl rfl rfl ?_
  refine DL.qf rfl (.free rfl) rfl rfl (Yld.fieldAddr fo152_2 rfl) ?_
  refine DL.q rfl (.free rfl) rfl rfl rfl (Yld.load p35 rfl (atM (hp.blk.cell rfl) id)) (Mod.drew _ _) ?_
  refine DL.q rfl (.free rfl) rfl rfl rfl (Yld.lenSl u35 rfl) (Mod.drew _ _) ?_
  iterate 2 refine DL.p rfl rfl rfl ?_
  refine DL.qf rfl (.free rfl) rfl rfl (Yld.fieldAddr fo152_0 rfl) ?_
  refine DL.q rfl (.free rfl) rfl rfl rfl (Yld.load p3 rfl (atM (hp.blk.cell rfl) id)) (Mod.drew _ _) ?_
  iterate 2 refine DL.p rfl rfl rfl ?_
  refine DL.knownT (d := 14) rfl rfl (decide_eq_true (by omega)) ?_
  iterate 5 refine DL.no rfl (.no rfl rfl rfl rfl) rfl rfl ?_
  refine DL.p rfl rfl rfl ?_
  refine DL.done ?_
  refine RK.condT rfl ?_
  refine RK.seq ?_
  refine RK.region ?_
  iterate 2 refine RL.p rfl rfl ?_
  refine RL.done ?_
  refine RK.ret_of Tryz.func47 (res2 rfl rfl rfl) ?_ _
  exact ⟨_, rfl, rfl, Mod.drew _ _⟩
end Go.Proofs.YtbcbfjnlnmhpbaaGreat
set_option linter.unusedVariables false
set_option linter.unusedSimpArgs false
set_option maxHeartbeats 3200000
set_option maxRecDepth 100000
namespace Go.Proofs.YtbcbfjnlnmhpbaaGreat
open Go Go.X
theorem ZStore.self {O M : Nat → Prop} {w : World} {p : Nat} {s : SS} (h : ZStore O M w p s) : ZStore O (fun b => M b ∨ O b) w p s := by
  have e : (fun b => M b ∨ O b) = M := by
    obtain ⟨pl, qu, vp, vq, vs, al, q, hO, h⟩ := h
    exact funext fun b => propext ⟨fun e => e.elim id fun e => h.ownM b ((hO b).1 e), .inl⟩
  rw [e]; exact h
def makeS (s : SS) (now a b : Int) (ms : List Mt) (bd : Bd) : SS × Int × Int :=
  if rightS ms bd = false then (s, 0, 1) else if fitsS now a b ms ≠ 0 then (s, 0, fitsS now a b ms) else if s.most ≤ s.sl.length then (s, 0, 10)
  else ({ s with last := s.last + 1, sl := s.sl ++ [⟨s.last + 1, a, b, ms, bd⟩] }, s.last + 1, 0)
theorem fits_span {now a b : Int} {ms : List Mt} (h : ¬ fitsS now a b ms ≠ 0) : a < b ∧ now < b ∧ b ≤ 1099511627776 := by
  unfold fitsS at h
  split at h
  · simp at h
  · split at h
    · rename_i h2
      unfold spanS at h2
      simp only [Bool.and_eq_true, decide_eq_true_eq] at h2
      omega
    · simp at h
theorem makeZ_ok (w : World) (p : Nat) (s : SS) (O M : Nat → Prop) (h : ZStore O M w p s) (g : Gz s) (hlast : s.last < 2147483647) (now a b : Int) (hb0 : 0 ≤ b) (ms : List Mt) (vm : Value) (bd : Bd) (hms : SlM M w vm ms) (hlen : ms.length ≤ 1000000) :
    Fx Tryz.prog 11 [pp p, .int .u64 now, .int .u64 a, .int .u64 b, vm, .agg (bdC bd).toArray] w (fun u w' => ∃ O', u = .tuple #[.int .i64 (makeS s now a b ms bd).2.1, .int .i64 (makeS s now a b ms bd).2.2] ∧ ZStore O' (fun x => M x ∨ O' x) w' p (makeS s now a b ms bd).1 ∧ Mod O w w' ∧ ∀ x, O' x → O x ∨ w.heap.size ≤ x) := by
  have hself := h.self
  have hback : ∀ w', Grow w w' → ZStore O (fun b => M b ∨ O b) w' p s := fun w' hg => hself.grow hg
  obtain ⟨pl, qu, vp, vq, vs, al, q, hO, h⟩ := h
  have hle := g.le
  have hal := h.len
  have hids := h.ids
  have hql := h.qlen
  obtain ⟨adm, cm, rfl⟩ := hms.shape
  by_cases hfull : s.most ≤ s.sl.length
  · skip
    refine enter Tryz.func11 rfl rfl rfl _ (Pick.sub (l := [0, 1, 2, 3, 4, 5]) (.cons rfl (.cons rfl (.cons rfl (.cons rfl (.cons rfl (.cons rfl .nil))))))) ?_
    refine RK.seq ?_
    refine RK.region ?_
    refine RL.op (.free rfl) rfl rfl (Does.box rfl) ?_
    rintro _ w1 ⟨b11, rfl, hn11⟩
    have hB11 : Blk w1 b11 32 (bdC bd) := hn11.blk
    iterate 2 refine RL.p rfl rfl ?_
    refine RL.done ?_
    iterate 2 refine RK.seq ?_
    refine RK.region ?_
    refine RL.p rfl rfl ?_
    refine RL.q (.free rfl) rfl rfl (Yld.loadN (cs := bdC bd) a32 rfl (atN (blk0' hB11))) ?_
    refine RL.op (.free rfl) rfl rfl (Does.call rfl e45 (rightZ_ok M ms _ bd _ (hms.mod (Mod.any' hn11.grow)))) ?_
    rintro _ w2 ⟨rfl, hg2⟩
    refine RL.p rfl rfl ?_
    refine RL.done ?_
    first | refine RK.condD rfl (fun h20 => ?_) (fun h20 => ?_) | refine RK.condN rfl (fun h20 => ?_) (fun h20 => ?_) | refine RK.cond rfl (fun h20 => ?_) (fun h20 => ?_)
    · have e : makeS s now a b ms bd = (s, 0, 1) := by unfold makeS; rw [if_pos (by simpa using h20)]
      refine RK.seq ?_
      refine RK.region ?_
      iterate 2 refine RL.p rfl rfl ?_
      refine RL.done ?_
      refine RK.ret_of Tryz.func11 (res2 rfl rfl rfl) ?_ _
      exact ⟨_, rfl, O, by rw [e], by rw [e]; exact hback _ (hn11.grow.trans hg2), Mod.any' (hn11.grow.trans hg2), fun x e => .inl e⟩
    · refine RK.skip ?_
      iterate 2 refine RK.seq ?_
      refine RK.region ?_
      iterate 4 refine RL.p rfl rfl ?_
      refine RL.op (.free rfl) rfl rfl (Does.call rfl e46 (fitsZ_ok M now a b ms _ _ ((hms.mod (Mod.any' hn11.grow)).mod (Mod.any' hg2)))) ?_
      rintro _ w3 ⟨rfl, hg3⟩
      have hg03 := (hn11.grow.trans hg2).trans hg3
      refine RL.p rfl rfl ?_
      refine RL.done ?_
      refine RK.seq ?_
      refine RK.region ?_
      iterate 2 refine RL.p rfl rfl ?_
      refine RL.done ?_
      first | refine RK.condD rfl (fun h27 => ?_) (fun h27 => ?_) | refine RK.condN rfl (fun h27 => ?_) (fun h27 => ?_) | refine RK.cond rfl (fun h27 => ?_) (fun h27 => ?_)
      · have e : makeS s now a b ms bd = (s, 0, fitsS now a b ms) := by unfold makeS; rw [if_neg (by simpa using h20), if_pos h27]
        refine RK.seq ?_
        refine RK.region ?_
        iterate 3 refine RL.p rfl rfl ?_
        refine RL.done ?_
        refine RK.ret_of Tryz.func11 (res2 rfl rfl rfl) ?_ _
        exact ⟨_, rfl, O, by rw [e], by rw [e]; exact hback _ hg03, Mod.any' hg03, fun x e => .inl e⟩
      · have e : makeS s now a b ms bd = (s, 0, 10) := by unfold makeS; rw [if_neg (by simpa using h20), if_neg h27, if_pos hfull]
        have h3 := h.grow hg03
        refine RK.skip ?_
        refine RK.seq ?_
        refine RK.region ?_
        iterate 2 refine RL.p rfl rfl ?_
        refine RL.q (.free rfl) rfl rfl (Yld.fieldAddr fo101_0 rfl) ?_
        refine RL.q (.free rfl) rfl rfl (Yld.load p96 rfl (at1 (h3.blk.cell rfl))) ?_
        refine RL.op (.free rfl) rfl rfl (Does.call rfl e47 (takeNo_ok _ pl s.most s.last _ vp h3.pool (by rw [List.length_map, hal]; exact hfull))) ?_
        rintro _ w4 ⟨rfl, hg4⟩
        iterate 5 refine RL.p rfl rfl ?_
        refine RL.done ?_
        iterate 2 refine RK.seq ?_
        refine RK.region ?_
        iterate 2 refine RL.p rfl rfl ?_
        refine RL.done ?_
        refine RK.condT (hcT rfl (rfl)) ?_
        refine RK.seq ?_
        refine RK.region ?_
        iterate 2 refine RL.p rfl rfl ?_
        refine RL.done ?_
        refine RK.ret_of Tryz.func11 (res2 rfl rfl rfl) ?_ _
        exact ⟨_, rfl, O, by rw [e], by rw [e]; exact hback _ (hg03.trans hg4), Mod.any' (hg03.trans hg4), fun x e => .inl e⟩
  · skip
    refine enter Tryz.func11 rfl rfl rfl _ (Pick.sub (l := [0, 1, 2, 3, 4, 5]) (.cons rfl (.cons rfl (.cons rfl (.cons rfl (.cons rfl (.cons rfl .nil))))))) ?_
    refine RK.seq ?_
    refine RK.region ?_
    refine RL.op (.free rfl) rfl rfl (Does.box rfl) ?_
    rintro _ w1 ⟨b11, rfl, hn11⟩
    have hB11 : Blk w1 b11 32 (bdC bd) := hn11.blk
    iterate 2 refine RL.p rfl rfl ?_
    refine RL.done ?_
    iterate 2 refine RK.seq ?_
    refine RK.region ?_
    refine RL.p rfl rfl ?_
    refine RL.q (.free rfl) rfl rfl (Yld.loadN (cs := bdC bd) a32 rfl (atN (blk0' hB11))) ?_
    refine RL.op (.free rfl) rfl rfl (Does.call rfl e45 (rightZ_ok M ms _ bd _ (hms.mod (Mod.any' hn11.grow)))) ?_
    rintro _ w2 ⟨rfl, hg2⟩
    refine RL.p rfl rfl ?_
    refine RL.done ?_
    first | refine RK.condD rfl (fun h20 => ?_) (fun h20 => ?_) | refine RK.condN rfl (fun h20 => ?_) (fun h20 => ?_) | refine RK.cond rfl (fun h20 => ?_) (fun h20 => ?_)
    · have e : makeS s now a b ms bd = (s, 0, 1) := by unfold makeS; rw [if_pos (by simpa using h20)]
      refine RK.seq ?_
      refine RK.region ?_
      iterate 2 refine RL.p rfl rfl ?_
      refine RL.done ?_
      refine RK.ret_of Tryz.func11 (res2 rfl rfl rfl) ?_ _
      exact ⟨_, rfl, O, by rw [e], by rw [e]; exact hback _ (hn11.grow.trans hg2), Mod.any' (hn11.grow.trans hg2), fun x e => .inl e⟩
    · refine RK.skip ?_
      iterate 2 refine RK.seq ?_
      refine RK.region ?_
      iterate 4 refine RL.p rfl rfl ?_
      refine RL.op (.free rfl) rfl rfl (Does.call rfl e46 (fitsZ_ok M now a b ms _ _ ((hms.mod (Mod.any' hn11.grow)).mod (Mod.any' hg2)))) ?_
      rintro _ w3 ⟨rfl, hg3⟩
      have hg03 := (hn11.grow.trans hg2).trans hg3
      refine RL.p rfl rfl ?_
      refine RL.done ?_
      refine RK.seq ?_
      refine RK.region ?_
      iterate 2 refine RL.p rfl rfl ?_
      refine RL.done ?_
      first | refine RK.condD rfl (fun h27 => ?_) (fun h27 => ?_) | refine RK.condN rfl (fun h27 => ?_) (fun h27 => ?_) | refine RK.cond rfl (fun h27 => ?_) (fun h27 => ?_)
      · have e : makeS s now a b ms bd = (s, 0, fitsS now a b ms) := by unfold makeS; rw [if_neg (by simpa using h20), if_pos h27]
        refine RK.seq ?_
        refine RK.region ?_
        iterate 3 refine RL.p rfl rfl ?_
        refine RL.done ?_
        refine RK.ret_of Tryz.func11 (res2 rfl rfl rfl) ?_ _
        exact ⟨_, rfl, O, by rw [e], by rw [e]; exact hback _ hg03, Mod.any' hg03, fun x e => .inl e⟩
      · have e : makeS s now a b ms bd = ({ s with last := s.last + 1, sl := s.sl ++ [⟨s.last + 1, a, b, ms, bd⟩] }, s.last + 1, 0) := by unfold makeS; rw [if_neg (by simpa using h20), if_neg h27, if_neg hfull]
        have hsp := fits_span h27
        have hl0 := g.l0
        have hr0 := g.r0
        have hr1 := g.r1
        have h3 := h.grow hg03
        have hlt3 : ∀ x, ownS p pl qu vp vq vs x → x < w.heap.size := fun x e => h.own_lt e
        have hz03 := hg03.size
        have hb11 : ∀ x, ownS p pl qu vp vq vs x → x ≠ b11 := fun x e hx => by have := hlt3 x e; have := hn11.at_; omega
        refine RK.skip ?_
        refine RK.seq ?_
        refine RK.region ?_
        iterate 2 refine RL.p rfl rfl ?_
        refine RL.q (.free rfl) rfl rfl (Yld.fieldAddr fo101_0 rfl) ?_
        refine RL.q (.free rfl) rfl rfl (Yld.load p96 rfl (at1 (h3.blk.cell rfl))) ?_
        refine RL.op (.free rfl) rfl rfl (Does.call rfl e47 (take_ok _ pl s.most s.last _ vp h3.pool (by rw [List.length_map, hal]; omega) (by omega) hl0 (by omega) (by rw [List.length_map]; omega))) ?_
        rintro _ w4 ⟨rfl, vp', hp4, hm4, hf4⟩
        have hm04 : Mod (fun x => x = pl ∨ vp.ownBlock = some x) w w4 := (Mod.any' hg03).trans hm4
        have n1 : ¬ (p = pl ∨ vp.ownBlock = some p) := fun e => e.elim h.ne_ppl fun e => (h.pool.row.ty e).ne h.blk.ty rfl rfl
        have hb4 := h.blk.mod hm04 n1
        have hr4 := h.row.mod hm04 (fun x e1 e2 => e2.elim (fun e2 => (h.row.ty e1).ne h.pool.blk.ty rfl e2) (fun e2 => (h.row.ty e1).ne (h.pool.row.ty e2) rfl rfl))
        have hq4 := h.que.mod hm04 (fun e2 => e2.elim (fun e2 => h.ne_plqu e2.symm) (fun e2 => h.que.blk.ty.ne (h.pool.row.ty e2) rfl rfl)) (fun x e1 e2 => e2.elim (fun e2 => (h.que.row.ty e1).ne h.pool.blk.ty rfl e2) (fun e2 => (h.que.row.ty e1).ne (h.pool.row.ty e2) rfl rfl))
        have hO4 : Mod M w w4 := hm04.mono fun x _ e => h.ownM x (e.elim (fun e => .inr (.inl e)) (fun e => .inr (.inr (.inr (.inl e)))))
        have hB4 := (hB11.mod (hg2.trans hg3) (fun h => h)).mod hm4 (fun e => hb11 b11 (e.elim (fun e => .inr (.inl e)) (fun e => .inr (.inr (.inr (.inl e))))) rfl)
        have hz4 := hm04.size
        iterate 5 refine RL.p rfl rfl ?_
        refine RL.done ?_
        iterate 2 refine RK.seq ?_
        refine RK.region ?_
        iterate 2 refine RL.p rfl rfl ?_
        refine RL.done ?_
        refine RK.condF (hcF rfl (rfl)) ?_
        refine RK.skip ?_
        refine RK.seq ?_
        refine RK.drawM (fun x => vs.ownBlock = some x) [(0, false), (1, false), (2, false), (3, false), (4, false), (5, false), (6, false), (8, false), (7, true), (9, false), (10, true), (11, true), (12, false), (13, false), (14, true)] [14] mixed (by kernel_rfl) ?_
        iterate 3 refine DL.p rfl rfl rfl ?_
        refine DL.qf rfl (.free rfl) rfl rfl (Yld.fieldAddr fo101_3 rfl) ?_
        refine DL.q rfl (.free rfl) rfl rfl rfl (Yld.load p44 rfl (atM (hb4.cell rfl) (fun e => (h.row.ty e).ne h.blk.ty rfl rfl))) (Mod.drew _ _) ?_
        iterate 2 refine DL.p rfl rfl rfl ?_
        refine DL.q rfl (.free rfl) rfl rfl rfl (Yld.loadN (cs := bdC bd) a32 rfl (atNM (blk0' hB4) (fun e => hb11 b11 (.inr (.inr (.inr (.inr (.inr e))))) rfl))) (Mod.drew _ _) ?_
        refine DL.op rfl (.free rfl) rfl rfl (Does.call rfl e48 (cloneM_ok M ms _ _ ((hms.mod hO4).mod (Mod.drew _ _)) hlen)) ?_
        rintro u5 w5 ⟨hr5, hf5, hg5'⟩
        obtain ⟨ad5, c5, rfl⟩ := hr5.slice
        have hg5 := (Mod.drew No w4).trans hg5'
        refine ⟨Mod.any' hg5, ?_⟩
        refine DL.qf rfl (.free rfl) rfl rfl (Yld.build (v := .agg (silC ⟨s.last + 1, 0, 0, 0, .slice ad5 ms.length c5, ms, bd⟩).toArray) rfl (fun w => by kernel_rfl)) ?_
        refine DL.op rfl (.free rfl) rfl rfl (Does.slice1 u44 i41 rfl rfl rfl rfl rfl) ?_
        rintro _ w6 ⟨b49, rfl, hn49⟩
        have hg46 := hg5.trans hn49.grow
        refine ⟨Mod.any' hg46, ?_⟩
        refine DL.op rfl (.free rfl) rfl rfl (Does.append u44 i41 rfl rfl rfl rfl rfl (hr4.mod hg46 (fun _ _ h => h)) (Sl.new hn49 8 1 rfl (by omega) (fun h => h)) (rfl) (by omega)) ?_
        rintro u7 w7 ⟨hr7, hm7, hu7⟩
        refine ⟨(Mod.any' hg46).trans hm7, ?_⟩
        obtain ⟨ad7, c7, rfl⟩ := hr7.slice
        obtain ⟨a0, ha0⟩ : ∃ a0 : Sil, a0 = ⟨s.last + 1, 0, 0, 0, .slice ad5 ms.length c5, ms, bd⟩ := ⟨_, rfl⟩
        have hb7 := (hb4.mod hg46 (fun h => h)).mod hm7 (fun e => (h.row.ty e).ne h.blk.ty rfl rfl)
        have hq7 := (hq4.grow hg46).mod hm7 (fun e => (h.row.ty e).ne h.que.blk.ty rfl rfl) (fun x e1 e2 => (h.que.row.ty e1).ne (h.row.ty e2) rfl rfl)
        have hp6 := hp4.mod hg46 (fun h => h) (fun _ _ h => h)
        have hr6 := hr4.mod hg46 (fun _ _ h => h)
        have hp7 := hp6.mod hm7 (fun e => (hr6.ty e).ne hp6.blk.ty rfl rfl) (fun x e1 e2 => (hp6.row.ty e1).ne (hr6.ty e2) rfl rfl)
        have hm57 := hr5.mod hn49.grow (fun _ _ h => h)
        have hm7m := hm57.mod hm7 (fun x e1 e2 => (hm57.ty e1).ne (hr6.ty e2) rfl rfl)
        refine DL.p rfl rfl rfl ?_
        refine DL.qf rfl (.free rfl) rfl rfl (Yld.fieldAddr fo101_3 rfl) ?_
        refine DL.opT rfl (.free rfl) rfl rfl (Does.store i44 rfl rfl rfl hb7 (.s (.s (.s .z)))) ?_
        rintro _ w8 ⟨hb8, hm8, hs8⟩
        have hr8 := hr7.mod hm8 (fun x e1 e2 => (hr7.ty e1).ne hb7.ty rfl e2)
        have hq8 := hq7.mod hm8 (fun e => hq7.blk.ty.ne hb7.ty rfl e) (fun x e1 e2 => (hq7.row.ty e1).ne hb7.ty rfl e2)
        have hp8 := hp7.mod hm8 (fun e => hp7.blk.ty.ne hb7.ty rfl e) (fun x e1 e2 => (hp7.row.ty e1).ne hb7.ty rfl e2)
        have hm8m := hm7m.mod hm8 (fun x e1 e2 => (hm7m.ty e1).ne hb7.ty rfl e2)
        have hr8' : Row w8 41 8 (.slice ad7 (al.length + 1) c7) (al ++ [a0]).length ((al ++ [a0]).flatMap silC) := by
            rw [List.length_append, List.flatMap_append, List.flatMap_singleton, ha0]; exact hr8
        have hset : (al ++ [a0]).set al.length { a0 with start := a, stop := b } = al ++ [{ a0 with start := a, stop := b }] := by simp
        refine DL.done ?_
        refine RK.seq ?_
        refine RK.region ?_
        iterate 3 refine RL.p rfl rfl ?_
        refine RL.q (.free rfl) rfl rfl (Yld.fieldAddr fo101_3 rfl) ?_
        refine RL.q (.free rfl) rfl rfl (Yld.load p44 rfl (at1 (hb8.cell rfl))) ?_
        refine RL.q (.free rfl) rfl rfl (Yld.lenSl u44 rfl) ?_
        refine RL.p rfl rfl ?_
        refine RL.re (d := 59) rfl rfl (sub_i64 (z := (al.length : Int)) (by simp) (by omega) (by omega)) ?_
        iterate 2 refine RL.p rfl rfl ?_
        refine RL.op (.free rfl) rfl rfl (Does.call rfl e49 (turnZ_ok _ p pl qu s.ret a b vq (.slice ad7 (al.length + 1) c7) (al ++ [a0]) q al.length a0 hb8 hq8 h.sort hr8' (by simp) (by omega) (by simp; omega) (by omega) (by omega))) ?_
        rintro _ w9 ⟨rfl, vq', hb9, hq9, hr9, hm9, hf9⟩
        have hid : a0.id = s.last + 1 := by rw [ha0]
        have hn8 : ∀ x, (x = qu ∨ vq.ownBlock = some x ∨ (Value.slice ad7 (al.length + 1) c7).ownBlock = some x) → Ty w8 x 155 ∨ Ty w8 x 164 ∨ Ty w8 x 41 := fun x e => by
            rcases e with rfl | e | e
            · exact .inl hq8.blk.ty
            · exact .inr (.inl (hq8.row.ty e))
            · exact .inr (.inr (hr8.ty e))
        have hp9 := hp8.mod hm9 (fun e => by
            rcases hn8 _ e with e | e | e
            · exact hp8.blk.ty.ne e rfl rfl
            · exact hp8.blk.ty.ne e rfl rfl
            · exact hp8.blk.ty.ne e rfl rfl) (fun x e1 e => by
            rcases hn8 _ e with e | e | e
            · exact (hp8.row.ty e1).ne e rfl rfl
            · exact (hp8.row.ty e1).ne e rfl rfl
            · exact (hp8.row.ty e1).ne e rfl rfl)
        have hm9m := hm8m.mod hm9 (fun x e1 e => by
            rcases hn8 _ e with e | e | e
            · exact (hm8m.ty e1).ne e rfl rfl
            · exact (hm8m.ty e1).ne e rfl rfl
            · exact (hm8m.ty e1).ne e rfl rfl)
        rw [hset] at hr9
        have hz6 := hg46.size
        have hz5 := hn49.grow.size
        have hz7 := hm7.size
        have hz8 := hm8.size
        have hz55 := hg5.size
        have hown : ∀ x, ownS p pl qu vp' vq' (.slice ad7 (al.length + 1) c7) x → ownS p pl qu vp vq vs x ∨ w.heap.size ≤ x := fun x e => by
            rcases e with e | e | e | e | e | e
            · exact .inl (.inl e)
            · exact .inl (.inr (.inl e))
            · exact .inl (.inr (.inr (.inl e)))
            · rcases hf4 x e with e | e
              · exact .inl (.inr (.inr (.inr (.inl e))))
              · exact .inr (by omega)
            · rcases hf9 x e with e | e
              · exact .inl (.inr (.inr (.inr (.inr (.inl e)))))
              · exact .inr (by omega)
            · rcases hu7 with h7 | h7
              · rw [h7] at e; exact .inl (.inr (.inr (.inr (.inr (.inr e)))))
              · rw [h7] at e; cases e; exact .inr (by omega)
        have hmod8 : Mod (ownS p pl qu vp vq vs) w w8 := ((hm04.mono fun x _ e => e.elim (fun e => .inr (.inl e)) (fun e => .inr (.inr (.inr (.inl e))))).trans (Mod.any' hg46)).trans ((hm7.mono fun x _ e => .inr (.inr (.inr (.inr (.inr e))))).trans (hm8.mono fun x _ e => .inl e))
        have hmod9 : Mod (ownS p pl qu vp vq vs) w w9 := hmod8.then hm9 (fun x hx e => by
            rcases e with e | e | e
            · exact .inr (.inr (.inl e))
            · exact .inr (.inr (.inr (.inr (.inl e))))
            · exact (hown x (.inr (.inr (.inr (.inr (.inr e)))))).elim id fun e => by omega)
        have hdrop : dropE q a0.id = q := dropE_none fun x hx e => by
            have h1 := h.perm'.mem_iff.1 hx
            obtain ⟨y, hy, rfl⟩ := List.mem_map.1 h1
            have h2 : pubZ y ∈ s.sl := by rw [← h.als]; exact List.mem_map.2 ⟨y, hy, rfl⟩
            have h3 := g.low _ h2
            have h4 : y.id = a0.id := e
            have h5 : y.id ≤ s.last := h3
            omega
        refine RL.done ?_
        refine RK.seq ?_
        refine RK.region ?_
        iterate 3 refine RL.p rfl rfl ?_
        refine RL.done ?_
        refine RK.ret_of Tryz.func11 (res2 rfl rfl rfl) ?_ _
        exact ⟨_, rfl, ownS p pl qu vp' vq' (.slice ad7 (al.length + 1) c7), by rw [e], by
            rw [e]
            refine ZStore.next (w := w) (al := al ++ [{ a0 with start := a, stop := b }]) h.ltM (hmod9.mono fun x _ e => h.ownM x e) hb9 ?_ hq9 (by rw [List.length_append]; exact (by rw [List.length_append] at hr9; exact hr9)) ?_ (fun y hy => ?_) ?_ ?_ (fun x e => (hown x e).elim (fun e => .inl (h.ownM x e)) .inr)
            · rw [List.map_append, List.map_singleton]
              show PoolAt w9 pl s.most (s.last + 1) (al.map (·.id) ++ [a0.id]) vp'
              rw [hid]; exact hp9
            · rw [List.map_append, List.map_singleton, h.als]
              subst ha0; rfl
            · rcases List.mem_append.1 hy with hy | hy
              · exact .inl (h.sms y hy)
              · obtain rfl := List.mem_singleton.1 hy
                subst ha0
                exact .inr ⟨hm9m, fun b e => by have := hf5 b e; simp only [World.drew] at this; omega⟩
            · rw [hdrop]
              have := turn_sort (id := a0.id) (due := b + s.ret) h.sort h.perm' (by rw [hids]; exact g.ris)
              rw [hdrop] at this; exact this
            · rw [hdrop, List.map_append, List.map_singleton]
              refine (putE_perm _ _).trans ?_
              exact (List.Perm.cons _ h.perm').trans (List.perm_append_singleton _ _).symm, hmod9.mono fun x _ e => (hO x).2 e, fun x e => (hown x e).elim (fun e => .inl ((hO x).2 e)) .inr⟩
end Go.Proofs.YtbcbfjnlnmhpbaaGreat
set_option linter.unusedVariables false
set_option linter.unusedSimpArgs false
set_option maxHeartbeats 3200000
set_option maxRecDepth 100000
namespace Go.Proofs.YtbcbfjnlnmhpbaaGreat
open Go Go.X
noncomputable def holdZ (now : Int) (ls : List Lab) (v : Nat) (a : Slz) : Bool := decide (stateS now a.start a.stop = 2) && (a.ms.all fun m => holdsM m ls) && inBd a.bd v
noncomputable def holdsZ (now : Int) (ls : List Lab) (v : Nat) (l : List Slz) : List Int := (l.filter (holdZ now ls v)).map (·.id)
theorem holdsZ_len (now : Int) (ls : List Lab) (v : Nat) (l : List Slz) : (holdsZ now ls v l).length ≤ l.length := by
  unfold holdsZ
  rw [List.length_map]
  exact List.length_filter_le _ _
theorem holdsZ_snoc (now : Int) (ls : List Lab) (v : Nat) {al : List Sil} {k : Nat} {s : Sil} (hs : al[k]? = some s) : holdsZ now ls v ((al.take (k + 1)).map pubZ) = holdsZ now ls v ((al.take k).map pubZ) ++ (if holdZ now ls v (pubZ s) = true then [s.id] else []) := by
  unfold holdsZ
  rw [List.take_add_one, hs, List.map_append, List.filter_append, List.map_append]
  congr 1
  show List.map _ (List.filter _ [pubZ s]) = _
  by_cases h : holdZ now ls v (pubZ s) = true
  · rw [if_pos h, List.filter_cons_of_pos h]; rfl
  · rw [if_neg h, List.filter_cons_of_neg h]; rfl
theorem holdsStore_ok (w : World) (p : Nat) (s : SS) (O M : Nat → Prop) (h : ZStore O M w p s) (g : Gz s) (now : Int) (M' : Nat → Prop) (ls : List Lab) (vl : Value) (v : Nat) (hl : SlL M' w vl ls) (hz : ∀ x ∈ ls, x.value.size ≤ 100000) :
    Fx Tryz.prog 15 [pp p, .int .u64 now, vl, .float .f64 v] w (fun u w' => Row w' 3 1 u (holdsZ now ls v s.sl).length (ints (holdsZ now ls v s.sl)) ∧ Fresh w.heap.size u ∧ Grow w w') := by
  obtain ⟨pl, qu, vp, vq, vs, al, q, hO, h⟩ := h
  have hle := g.le
  have hal := h.len
  have hals := h.als
  have hsl := Sl.own (M := No) h.row (fun _ _ h => h)
  have hsms := h.sms
  have hblk := h.blk
  obtain ⟨ads, cs, rfl⟩ := h.row.slice
  clear h
  obtain ⟨adl, cl, rfl⟩ := hl.shape
  refine enter Tryz.func15 rfl rfl rfl _ (Pick.sub (l := [0, 1, 2, 3]) (.cons rfl (.cons rfl (.cons rfl (.cons rfl .nil))))) ?_
  refine RK.seq ?_
  refine RK.region ?_
  refine RL.p rfl rfl ?_
  refine RL.done ?_
  refine RK.seq ?_
  refine RK.region ?_
  refine RL.p rfl rfl ?_
  refine RL.done ?_
  iterate 2 refine RK.seq ?_
  refine RK.region ?_
  iterate 2 refine RL.p rfl rfl ?_
  refine RL.q (.free rfl) rfl rfl (Yld.fieldAddr fo101_3 rfl) ?_
  refine RL.q (.free rfl) rfl rfl (Yld.load p44 rfl (at1 (hblk.cell rfl))) ?_
  refine RL.q (.free rfl) rfl rfl (Yld.lenSl u44 rfl) ?_
  refine RL.p rfl rfl ?_
  refine RL.done ?_
  refine RK.block ?_
  refine RK.loop (fun s : Nat × Value => [(1, .int .u64 now), (2, .slice adl ls.length cl), (3, .float .f64 v), (9, s.2), (15, .slice ads al.length cs), (16, .int .i64 (al.length : Int)), (17, .int .i64 (s.1 : Int))]) (fun s w' => Row w' 3 1 s.2 (holdsZ now ls v ((al.take s.1).map pubZ)).length (ints (holdsZ now ls v ((al.take s.1).map pubZ))) ∧ Fresh w.heap.size s.2 ∧ Grow w w' ∧ s.1 ≤ al.length) (fun s => al.length - s.1) (0, .slice none 0 0) ⟨rfl, rfl, rfl, rfl, rfl, rfl, rfl, trivial⟩ ⟨by simpa [holdsZ] using Row.nil _ _ _, fun b e => by simp [Value.ownBlock] at e, Mod.refl _ _, by simp⟩ (fun s w' hI ih => ?_)
  obtain ⟨k, u⟩ := s
  obtain ⟨hr, hf, hg, hk⟩ := hI
  simp only at hr hf hk
  refine RK.seq ?_
  refine RK.region ?_
  refine RL.p rfl rfl ?_
  refine RL.done ?_
  refine RK.seq ?_
  first | refine RK.condD rfl (fun h18 => ?_) (fun h18 => ?_) | refine RK.condN rfl (fun h18 => ?_) (fun h18 => ?_) | refine RK.cond rfl (fun h18 => ?_) (fun h18 => ?_)
  · obtain ⟨s, hs⟩ : ∃ s, al[k]? = some s := ⟨al[k]'(by omega), List.getElem?_eq_getElem (by omega)⟩
    obtain ⟨b1, o1, c1', he1, _, _, hc1⟩ := hsl.elem silC_len hs
    cases he1
    have hsm0 := hsms s (List.mem_of_getElem? hs)
    have hsm := hsm0.mod (Mod.any' hg)
    have hsn := holdsZ_snoc now ls v hs
    have hsl1 := holdsZ_len now ls v ((al.take k).map pubZ)
    have hsl2 : ((al.take k).map pubZ).length ≤ k := by simp; omega
    refine RK.skip ?_
    refine RK.seq ?_
    refine RK.block ?_
    refine RK.seq ?_
    refine RK.region ?_
    refine RL.q (.free rfl) rfl rfl (Yld.indexAddrN u44 i41 rfl rfl (by omega)) ?_
    refine RL.q (.free rfl) rfl rfl (Yld.loadN (cs := silC s) a41 rfl (atN (fun q z hq => hg.cell (hc1 q z hq) (fun h => h)))) ?_
    refine RL.op (.free rfl) rfl rfl (Does.alloc i41) ?_
    rintro _ w1 ⟨b11, rfl, hn11⟩
    refine RL.op' (.free rfl) rfl (Does.storeN i41 rfl rfl rfl (silC_one hsm) hn11.blk (Nat.le_refl 8)) ?_
    rintro _ w2 ⟨hb2, hm2, _⟩
    have hg2' : Grow w' w2 := hn11.grow.then hm2 (fun y hy e => by have e' : y = b11 := e; have := hn11.at_; omega)
    have hg2 := hg.trans hg2'
    have hB2 : Blk w2 b11 41 [.int .i64 s.id, .int .i64 s.ver, .int .u64 s.start, .int .u64 s.stop, s.mv, .bool s.bd.all, .float .f64 s.bd.lo, .float .f64 s.bd.hi] := hb2
    refine RL.done ?_
    refine RK.seq ?_
    refine RK.region ?_
    refine RL.p rfl rfl ?_
    refine RL.q (.free rfl) rfl rfl (Yld.fieldAddr fo41_2 rfl) ?_
    refine RL.q (.free rfl) rfl rfl (Yld.load p22 rfl (at1 (hB2.cell rfl))) ?_
    refine RL.q (.free rfl) rfl rfl (Yld.fieldAddr fo41_3 rfl) ?_
    refine RL.q (.free rfl) rfl rfl (Yld.load p22 rfl (at1 (hB2.cell rfl))) ?_
    refine RL.op (.free rfl) rfl rfl (Does.call rfl e51 (state_ok now s.start s.stop _)) ?_
    rintro _ _ ⟨rfl, rfl⟩
    iterate 2 refine RL.p rfl rfl ?_
    first | refine RL.splitD (d := 28) rfl rfl (fun h28 => ?_) (fun h28 => ?_) | refine RL.splitN (d := 28) rfl rfl (fun h28 => ?_) (fun h28 => ?_) | refine RL.split (d := 28) rfl rfl (fun h28 => ?_) (fun h28 => ?_)
    · refine RL.q (.yes rfl rfl rfl) rfl rfl (Yld.fieldAddr fo41_4 rfl) ?_
      refine RL.q (.yes rfl rfl rfl) rfl rfl (Yld.load p28 rfl (at1 (hB2.cell rfl))) ?_
      refine RL.q (.yes rfl rfl rfl) rfl rfl (Yld.pure rfl) ?_
      refine RL.op (.yes rfl rfl rfl) rfl rfl (Does.call rfl e52 (allM_ok holdsM s.ms (fun m _ => matchHolds_ok m) M' M ls hz _ _ _ (hsm.mod (Mod.any' hg2')) (hl.mod (Mod.any' hg2)))) ?_
      rintro _ w3 ⟨rfl, hg3⟩
      have hg23 := hg2.trans hg3
      have hB3 := hB2.mod hg3 (fun h => h)
      iterate 2 refine RL.p rfl rfl ?_
      first | refine RL.splitD (d := 34) rfl rfl (fun h34 => ?_) (fun h34 => ?_) | refine RL.splitN (d := 34) rfl rfl (fun h34 => ?_) (fun h34 => ?_) | refine RL.split (d := 34) rfl rfl (fun h34 => ?_) (fun h34 => ?_)
      · refine RL.q (.yes rfl rfl rfl) rfl rfl (Yld.fieldAddr fo41_5 rfl) ?_
        refine RL.q (.yes rfl rfl rfl) rfl rfl (Yld.loadN (cs := bdC s.bd) a32 rfl (atN (fldN hB3 5 3))) ?_
        refine RL.q (.yes rfl rfl rfl) rfl rfl (Yld.pure rfl) ?_
        refine RL.op (.yes rfl rfl rfl) rfl rfl (Does.call rfl e53 (in_band_ok s.bd v _)) ?_
        rintro _ w4 ⟨rfl, hg4⟩
        have hg24 := hg23.trans hg4
        have hr4 := hr.mod ((hg2'.trans hg3).trans hg4) (fun _ _ h => h)
        refine RL.p rfl rfl ?_
        refine RL.done ?_
        first | refine RK.condD rfl (fun h39 => ?_) (fun h39 => ?_) | refine RK.condN rfl (fun h39 => ?_) (fun h39 => ?_) | refine RK.cond rfl (fun h39 => ?_) (fun h39 => ?_)
        · have hyes : holdZ now ls v (pubZ s) = true := by unfold holdZ pubZ; simp only; rw [decide_eq_true h28, h34, h39]; rfl
          refine RK.region ?_
          refine RL.p rfl rfl ?_
          refine RL.q (.free rfl) rfl rfl (Yld.fieldAddr fo41_0 rfl) ?_
          refine RL.q (.free rfl) rfl rfl (Yld.load p3 rfl (at1 ((hB3.mod hg4 (fun h => h)).cell rfl))) ?_
          refine RL.op (.free rfl) rfl rfl (Does.slice1 u35 i3 rfl rfl rfl rfl rfl) ?_
          rintro _ w5 ⟨b7, rfl, hn7⟩
          refine RL.op (.free rfl) rfl rfl (Does.append u35 i3 rfl rfl rfl rfl rfl (hr4.mod hn7.grow (fun _ _ h => h)) (Sl.new hn7 1 1 rfl (by omega) (fun h => h)) (rfl) (by omega)) ?_
          rintro z8 w8 ⟨hr8, hm8, hu8⟩
          have hs7 := hn7.grow.size
          have hs4 := hg24.size
          refine RL.p rfl rfl ?_
          refine RL.done ?_
          refine RK.inBlock ?_
          refine RK.region ?_
          refine RL.p rfl rfl ?_
          refine RL.re (d := 45) rfl rfl (succ_i64 (by omega)) ?_
          refine RL.p rfl rfl ?_
          refine RL.done ?_
          exact RK.back (ih (k + 1, z8) _ ⟨by
              simp only
              rw [hsn, if_pos hyes]
              have e1 : ints (holdsZ now ls v ((al.take k).map pubZ) ++ [s.id]) = ints (holdsZ now ls v ((al.take k).map pubZ)) ++ (Value.int .i64 s.id).cells.toList := by simp [ints, Value.cells]
              rw [e1, List.length_append]; exact hr8, fun b e => by
              rcases hu8 with h1 | h1
              · exact hf b (h1 ▸ e)
              · rw [h1] at e; cases e; omega, (hg24.trans hn7.grow).then hm8 (fun b hb e => by have := hf b e; omega), by simp only; omega⟩ (by simp only; omega)) ⟨rfl, rfl, rfl, rfl, rfl, rfl, rfl, trivial⟩
        · have hnos : holdZ now ls v (pubZ s) = false := by unfold holdZ pubZ; simp only; rw [decide_eq_true h28, h34, show inBd s.bd v = false by simpa using h39]; rfl
          refine RK.skip ?_
          refine RK.inBlock ?_
          refine RK.region ?_
          refine RL.p rfl rfl ?_
          refine RL.re (d := 45) rfl rfl (succ_i64 (by omega)) ?_
          refine RL.p rfl rfl ?_
          refine RL.done ?_
          exact RK.back (ih (k + 1, u) _ ⟨by simp only; rw [hsn, if_neg (by simp [hnos]), List.append_nil]; exact hr4, hf, hg24, by simp only; omega⟩ (by simp only; omega)) ⟨rfl, rfl, rfl, rfl, rfl, rfl, rfl, trivial⟩
      · have hnos : holdZ now ls v (pubZ s) = false := by unfold holdZ pubZ; simp only; rw [show (s.ms.all fun m => holdsM m ls) = false by simpa only [Bool.not_eq_true] using h34]; simp
        iterate 4 refine RL.no (.no rfl rfl rfl rfl) rfl rfl ?_
        refine RL.p rfl rfl ?_
        refine RL.done ?_
        refine RK.condF rfl ?_
        refine RK.skip ?_
        refine RK.inBlock ?_
        refine RK.region ?_
        refine RL.p rfl rfl ?_
        refine RL.re (d := 45) rfl rfl (succ_i64 (by omega)) ?_
        refine RL.p rfl rfl ?_
        refine RL.done ?_
        exact RK.back (ih (k + 1, u) _ ⟨by simp only; rw [hsn, if_neg (by simp [hnos]), List.append_nil]; exact hr.mod (hg2'.trans hg3) (fun _ _ h => h), hf, hg23, by simp only; omega⟩ (by simp only; omega)) ⟨rfl, rfl, rfl, rfl, rfl, rfl, rfl, trivial⟩
    · have hnos : holdZ now ls v (pubZ s) = false := by unfold holdZ pubZ; simp only; rw [decide_eq_false h28]; rfl
      iterate 4 refine RL.no (.no rfl rfl rfl rfl) rfl rfl ?_
      iterate 2 refine RL.p rfl rfl ?_
      iterate 4 refine RL.no (.no rfl rfl rfl rfl) rfl rfl ?_
      refine RL.p rfl rfl ?_
      refine RL.done ?_
      refine RK.condF rfl ?_
      refine RK.skip ?_
      refine RK.inBlock ?_
      refine RK.region ?_
      refine RL.p rfl rfl ?_
      refine RL.re (d := 45) rfl rfl (succ_i64 (by omega)) ?_
      refine RL.p rfl rfl ?_
      refine RL.done ?_
      exact RK.back (ih (k + 1, u) _ ⟨by simp only; rw [hsn, if_neg (by simp [hnos]), List.append_nil]; exact hr.mod hg2' (fun _ _ h => h), hf, hg2, by simp only; omega⟩ (by simp only; omega)) ⟨rfl, rfl, rfl, rfl, rfl, rfl, rfl, trivial⟩
  · have ek : al.take k = al := List.take_of_length_le (by omega)
    rw [ek, hals] at hr
    refine RK.exit rfl ?_
    refine RK.seq ?_
    refine RK.region ?_
    iterate 2 refine RL.p rfl rfl ?_
    refine RL.done ?_
    refine RK.ret_of Tryz.func15 (res1 rfl rfl) ?_ _
    exact ⟨_, rfl, hr, hf, hg⟩
theorem lenZ_ok (w : World) (p : Nat) (s : SS) (O M : Nat → Prop) (h : ZStore O M w p s) : Fx Tryz.prog 13 [pp p] w (fun u w' => u = .int .i64 (s.sl.length : Int) ∧ w = w') := by
  obtain ⟨pl, qu, vp, vq, vs, al, q, hO, h⟩ := h
  have hal := h.len
  have hblk := h.blk
  obtain ⟨ads, cs, rfl⟩ := h.row.slice
  refine enter Tryz.func13 rfl rfl rfl _ (Pick.sub (l := [0]) (.cons rfl .nil)) ?_
  refine RK.seq ?_
  refine RK.region ?_
  refine RL.p rfl rfl ?_
  refine RL.done ?_
  refine RK.seq ?_
  refine RK.region ?_
  iterate 2 refine RL.p rfl rfl ?_
  refine RL.q (.free rfl) rfl rfl (Yld.fieldAddr fo101_3 rfl) ?_
  refine RL.q (.free rfl) rfl rfl (Yld.load p44 rfl (at1 (hblk.cell rfl))) ?_
  refine RL.q (.free rfl) rfl rfl (Yld.lenSl u44 rfl) ?_
  refine RL.p rfl rfl ?_
  refine RL.done ?_
  refine RK.ret_of Tryz.func13 (res1 rfl rfl) ?_ _
  exact ⟨_, rfl, by rw [hal], rfl⟩
def getZ (s : SS) (id : Int) : Option Slz := (placeZ s id).bind fun i => s.sl[i]?
theorem getZ_ok (w : World) (p : Nat) (s : SS) (O M : Nat → Prop) (h : ZStore O M w p s) (g : Gz s) (now id : Int) (hms : ∀ a ∈ s.sl, a.ms.length ≤ 1000000) :
    Fx Tryz.prog 16 [pp p, .int .u64 now, .int .i64 id] w (fun u w' => (match getZ s id with
      | none => u = .tuple #[.agg (silC ⟨0, 0, 0, 0, .slice none 0 0, [], ⟨false, 0, 0⟩⟩).toArray, .bool false]
      | some a => ∃ v', u = .tuple #[.agg (silC ⟨a.id, stateS now a.start a.stop, a.start, a.stop, v', a.ms, a.bd⟩).toArray, .bool true] ∧ Row w' 108 3 v' a.ms.length (a.ms.flatMap mtC) ∧ Fresh w.heap.size v') ∧ Grow w w') := by
  obtain ⟨pl, qu, vp, vq, vs, al, q, hO, h⟩ := h
  have hal := h.len
  have hals := h.als
  have hsms := h.sms
  have hblk := h.blk
  have hsl := Sl.own (M := No) h.row (fun _ _ h => h)
  cases hpz : placeZ s id with
  | none =>
    have e : getZ s id = none := by unfold getZ; rw [hpz]; rfl
    rw [e]
    refine enter Tryz.func16 rfl rfl rfl _ (Pick.sub (l := [0, 1, 2]) (.cons rfl (.cons rfl (.cons rfl .nil)))) ?_
    refine RK.seq ?_
    refine RK.region ?_
    refine RL.op (.free rfl) rfl rfl (Does.alloc i41) ?_
    rintro _ w1 ⟨b6, rfl, hn6⟩
    refine RL.p rfl rfl ?_
    refine RL.done ?_
    refine RK.seq ?_
    refine RK.region ?_
    iterate 2 refine RL.p rfl rfl ?_
    refine RL.op (.free rfl) rfl rfl (Does.call rfl e54 (findZ_ok _ p s M pl qu vp vq vs al q (h.grow hn6.grow) g id)) ?_
    rintro _ w2 ⟨⟨i, rfl, hi⟩, hg2⟩
    rw [hpz]
    iterate 5 refine RL.p rfl rfl ?_
    refine RL.done ?_
    iterate 2 refine RK.seq ?_
    refine RK.region ?_
    iterate 2 refine RL.p rfl rfl ?_
    refine RL.done ?_
    refine RK.condT (hcT rfl (rfl)) ?_
    refine RK.seq ?_
    refine RK.region ?_
    refine RL.q (.free rfl) rfl rfl (Yld.build (v := .agg (silC ⟨0, 0, 0, 0, .slice none 0 0, [], ⟨false, 0, 0⟩⟩).toArray) rfl (fun w => by kernel_rfl)) ?_
    refine RL.op' (.free rfl) rfl (Does.storeN i41 rfl rfl rfl rfl (hn6.blk.mod hg2 (fun h => h)) (Nat.le_refl 8)) ?_
    rintro _ w3 ⟨hb3, hm3, _⟩
    refine RL.p rfl rfl ?_
    refine RL.done ?_
    refine RK.ret_of Tryz.func16 (resCT (cs := silC ⟨0, 0, 0, 0, .slice none 0 0, [], ⟨false, 0, 0⟩⟩) rfl rfl a41 hb3 rfl) ?_ _
    exact ⟨_, rfl, rfl, (hn6.grow.trans hg2).then hm3 (fun y hy e => by have e' : y = b6 := e; have := hn6.at_; omega)⟩
  | some j =>
    obtain ⟨ads, cs, rfl⟩ := h.row.slice
    refine enter Tryz.func16 rfl rfl rfl _ (Pick.sub (l := [0, 1, 2]) (.cons rfl (.cons rfl (.cons rfl .nil)))) ?_
    refine RK.seq ?_
    refine RK.region ?_
    refine RL.op (.free rfl) rfl rfl (Does.alloc i41) ?_
    rintro _ w1 ⟨b6, rfl, hn6⟩
    refine RL.p rfl rfl ?_
    refine RL.done ?_
    refine RK.seq ?_
    refine RK.region ?_
    iterate 2 refine RL.p rfl rfl ?_
    refine RL.op (.free rfl) rfl rfl (Does.call rfl e54 (findZ_ok _ p s M pl qu vp vq _ al q (h.grow hn6.grow) g id)) ?_
    rintro _ w2 ⟨⟨i, rfl, hi⟩, hg2⟩
    obtain ⟨rfl, hil⟩ := hi j hpz
    rw [hpz]
    have hg02 := hn6.grow.trans hg2
    obtain ⟨a, ha⟩ : ∃ a, al[j]? = some a := ⟨al[j]'hil, List.getElem?_eq_getElem hil⟩
    have e : getZ s id = some (pubZ a) := by unfold getZ; rw [hpz, ← hals]; simp [ha]
    rw [e]
    have ham : pubZ a ∈ s.sl := by rw [← hals]; exact List.mem_map.2 ⟨a, List.mem_of_getElem? ha, rfl⟩
    obtain ⟨b1, o1, c1', he1, _, _, hc1⟩ := hsl.elem silC_len ha
    cases he1
    iterate 5 refine RL.p rfl rfl ?_
    refine RL.done ?_
    iterate 2 refine RK.seq ?_
    refine RK.region ?_
    iterate 2 refine RL.p rfl rfl ?_
    refine RL.done ?_
    refine RK.condF (hcF rfl (rfl)) ?_
    refine RK.skip ?_
    refine RK.seq ?_
    refine RK.region ?_
    iterate 3 refine RL.p rfl rfl ?_
    refine RL.q (.free rfl) rfl rfl (Yld.fieldAddr fo101_3 rfl) ?_
    refine RL.q (.free rfl) rfl rfl (Yld.load p44 rfl (at1 ((hblk.mod hg02 (fun h => h)).cell rfl))) ?_
    refine RL.p rfl rfl ?_
    refine RL.q (.free rfl) rfl rfl (Yld.indexAddrN u44 i41 rfl rfl (by omega)) ?_
    refine RL.q (.free rfl) rfl rfl (Yld.loadN (cs := silC a) a41 rfl (atN (fun q z hq => hg02.cell (hc1 q z hq) (fun h => h)))) ?_
    refine RL.op (.free rfl) rfl rfl (Does.call rfl e55 (toldZ_ok M now a _ ((hsms a (List.mem_of_getElem? ha)).mod (Mod.any' hg02)) (hms _ ham))) ?_
    rintro _ w3 ⟨v', rfl, hr3, hf3, hg3⟩
    have hlt3 := fun b e => hr3.lt (b := b) e
    obtain ⟨ad3, c3, rfl⟩ := hr3.slice
    refine RL.op' (.free rfl) rfl (Does.storeN i41 rfl rfl rfl rfl ((hn6.blk.mod hg2 (fun h => h)).mod hg3 (fun h => h)) (Nat.le_refl 8)) ?_
    rintro _ w4 ⟨hb4, hm4, _⟩
    have hz2 := hg2.size
    have hz6 := hn6.size
    have ha6 := hn6.at_
    refine RL.p rfl rfl ?_
    refine RL.done ?_
    refine RK.ret_of Tryz.func16 (resCT (cs := silC { a with ver := stateS now a.start a.stop, mv := .slice ad3 a.ms.length c3 }) rfl rfl a41 hb4 rfl) ?_ _
    exact ⟨_, rfl, ⟨.slice ad3 a.ms.length c3, rfl, hr3.mod hm4 (fun b e h => by have := hf3 b e; have h' : b = b6 := h; omega), fun b e => by have := hf3 b e; omega⟩, (hg02.trans hg3).then hm4 (fun y hy e => by have e' : y = b6 := e; omega)⟩
end Go.Proofs.YtbcbfjnlnmhpbaaGreat
set_option linter.unusedVariables false
set_option linter.unusedSimpArgs false
set_option maxHeartbeats 3200000
set_option maxRecDepth 100000
namespace Go.Proofs.YtbcbfjnlnmhpbaaGreat
open Go Go.X
def minS (a b : Int) : Int := if b < a then b else a
def turnS (s : SS) (i : Nat) (a : Slz) : SS := { s with sl := s.sl.set i a }
def expireS (s : SS) (now id : Int) : SS × Int :=
  match placeZ s id with
  | none => (s, 5)
  | some i => match s.sl[i]? with
    | none => (s, 5)
    | some a => if stateS now a.start a.stop = 3 then (s, 6) else (turnS s i { a with start := minS a.start now, stop := now }, 0)
theorem turned (w w' : World) (p : Nat) (s s' : SS) (O M : Nat → Prop) (pl qu : Nat) (vp vq vs vq' : Value) (al al' : List Sil) (q q' : List En) (hO : ∀ b, O b ↔ ownS p pl qu vp vq vs b) (h : ZA w p s M pl qu vp vq vs al q)
    (hr : s'.ret = s.ret) (hmo : s'.most = s.most) (hla : s'.last = s.last)
    (blk : Blk w' p 101 [pp pl, pp qu, .int .u64 s.ret, vs]) (que : QAt w' qu q' vq') (row : Row w' 41 8 vs al'.length (al'.flatMap silC)) (als : al'.map pubZ = s'.sl) (ids : al'.map (·.id) = al.map (·.id))
    (sms : ∀ a ∈ al', SlM M w a.mv a.ms ∨ (Row w' 108 3 a.mv a.ms.length (a.ms.flatMap mtC) ∧ ∀ b, a.mv.ownBlock = some b → w.heap.size ≤ b)) (sort : SortE q') (perm : q'.Perm (al'.map (entZ s.ret)))
    (hm : Mod (fun b => b = qu ∨ vq.ownBlock = some b ∨ vs.ownBlock = some b) w w') (hf : ∀ b, vq'.ownBlock = some b → vq.ownBlock = some b ∨ w.heap.size ≤ b) :
    ∃ O', ZStore O' (fun b => M b ∨ O' b) w' p s' ∧ Mod O w w' ∧ ∀ b, O' b → O b ∨ w.heap.size ≤ b := by
  have hown : ∀ x, ownS p pl qu vp vq' vs x → ownS p pl qu vp vq vs x ∨ w.heap.size ≤ x := fun x e => by
    rcases e with e | e | e | e | e | e
    · exact .inl (.inl e)
    · exact .inl (.inr (.inl e))
    · exact .inl (.inr (.inr (.inl e)))
    · exact .inl (.inr (.inr (.inr (.inl e))))
    · rcases hf x e with e | e
      · exact .inl (.inr (.inr (.inr (.inr (.inl e)))))
      · exact .inr e
    · exact .inl (.inr (.inr (.inr (.inr (.inr e)))))
  have hmP : Mod (ownS p pl qu vp vq vs) w w' := hm.mono fun x _ e => by
    rcases e with e | e | e
    · exact .inr (.inr (.inl e))
    · exact .inr (.inr (.inr (.inr (.inl e))))
    · exact .inr (.inr (.inr (.inr (.inr e))))
  have hpool : PoolAt w' pl s.most s.last (al.map (·.id)) vp := h.pool.mod hm (fun e => by
    rcases e with e | e | e
    · exact h.ne_plqu e
    · exact h.pool.blk.ty.ne (h.que.row.ty e) rfl rfl
    · exact h.pool.blk.ty.ne (h.row.ty e) rfl rfl) (fun x e1 e => by
    rcases e with e | e | e
    · exact (h.pool.row.ty e1).ne h.que.blk.ty rfl e
    · exact (h.pool.row.ty e1).ne (h.que.row.ty e) rfl rfl
    · exact (h.pool.row.ty e1).ne (h.row.ty e) rfl rfl)
  refine ⟨ownS p pl qu vp vq' vs, ZStore.next (w := w) (al := al') (q := q') h.ltM (hmP.mono fun x _ e => h.ownM x e) (by rw [hr]; exact blk) (by rw [hmo, hla, ids]; exact hpool) que row als sms sort (by rw [hr]; exact perm) (fun x e => (hown x e).elim (fun e => .inl (h.ownM x e)) .inr), hmP.mono fun x _ e => (hO x).2 e, fun x e => (hown x e).elim (fun e => .inl ((hO x).2 e)) .inr⟩
theorem set_ids {al : List Sil} {i : Nat} {a a' : Sil} (ha : al[i]? = some a) (hid : a'.id = a.id) : (al.set i a').map (·.id) = al.map (·.id) := by
  rw [List.map_set]
  apply List.ext_getElem?
  intro j
  rw [List.getElem?_set]
  split
  · rename_i e
    subst e
    split
    · rw [List.getElem?_map, ha]; simp [hid]
    · rename_i e2
      rw [eq_comm, List.getElem?_eq_none_iff]; omega
  · rfl
theorem expireZ_ok (w : World) (p : Nat) (s : SS) (O M : Nat → Prop) (h : ZStore O M w p s) (g : Gz s) (now id : Int) (hn : 0 ≤ now) :
    Fx Tryz.prog 20 [pp p, .int .u64 now, .int .i64 id] w (fun u w' => ∃ O', u = .int .i64 (expireS s now id).2 ∧ ZStore O' (fun x => M x ∨ O' x) w' p (expireS s now id).1 ∧ Mod O w w' ∧ ∀ x, O' x → O x ∨ w.heap.size ≤ x) := by
  have hself := h.self
  have hback : ∀ w', Grow w w' → ZStore O (fun b => M b ∨ O b) w' p s := fun w' hg => hself.grow hg
  obtain ⟨pl, qu, vp, vq, vs, al, q, hO, h⟩ := h
  have hle := g.le
  have hal := h.len
  have hids := h.ids
  have hals := h.als
  have hql := h.qlen
  have hcall := findZ_ok w p s M pl qu vp vq vs al q h g id
  obtain ⟨ads, cs, rfl⟩ := h.row.slice
  cases hpz : placeZ s id with
  | none =>
    have e : expireS s now id = (s, 5) := by unfold expireS; rw [hpz]
    rw [hpz] at hcall
    rw [e]
    refine enter Tryz.func20 rfl rfl rfl _ (Pick.sub (l := [0, 1, 2]) (.cons rfl (.cons rfl (.cons rfl .nil)))) ?_
    refine RK.seq ?_
    refine RK.region ?_
    refine RL.p rfl rfl ?_
    refine RL.done ?_
    refine RK.seq ?_
    refine RK.region ?_
    iterate 2 refine RL.p rfl rfl ?_
    refine RL.op (.free rfl) rfl rfl (Does.call rfl e54 (hcall)) ?_
    rintro _ w2 ⟨⟨i, rfl, hi⟩, hg2⟩
    iterate 5 refine RL.p rfl rfl ?_
    refine RL.done ?_
    iterate 2 refine RK.seq ?_
    refine RK.region ?_
    iterate 2 refine RL.p rfl rfl ?_
    refine RL.done ?_
    refine RK.condT (hcT rfl (rfl)) ?_
    refine RK.seq ?_
    refine RK.region ?_
    refine RL.p rfl rfl ?_
    refine RL.done ?_
    refine RK.ret_of Tryz.func20 (res1 rfl rfl) ?_ _
    exact ⟨_, rfl, O, rfl, hback _ hg2, Mod.any' hg2, fun x e => .inl e⟩
  | some j =>
    rw [hpz] at hcall
    refine enter Tryz.func20 rfl rfl rfl _ (Pick.sub (l := [0, 1, 2]) (.cons rfl (.cons rfl (.cons rfl .nil)))) ?_
    refine RK.seq ?_
    refine RK.region ?_
    refine RL.p rfl rfl ?_
    refine RL.done ?_
    refine RK.seq ?_
    refine RK.region ?_
    iterate 2 refine RL.p rfl rfl ?_
    refine RL.op (.free rfl) rfl rfl (Does.call rfl e54 (hcall)) ?_
    rintro _ w2 ⟨⟨i, rfl, hi⟩, hg2⟩
    obtain ⟨rfl, hil⟩ := hi j rfl
    obtain ⟨a, ha⟩ : ∃ a, al[j]? = some a := ⟨al[j]'hil, List.getElem?_eq_getElem hil⟩
    have hsj : s.sl[j]? = some (pubZ a) := by rw [← hals]; simp [ha]
    have h2 := h.grow hg2
    obtain ⟨b1, o1, c1', he1, _, _, hc1⟩ := (Sl.own (M := No) h2.row (fun _ _ h => h)).elem silC_len ha
    cases he1
    have hsm := h2.sms a (List.mem_of_getElem? ha)
    have hst := g.st _ (List.mem_of_getElem? hsj)
    have hr0 := g.r0
    have hr1 := g.r1
    iterate 5 refine RL.p rfl rfl ?_
    refine RL.done ?_
    iterate 2 refine RK.seq ?_
    refine RK.region ?_
    iterate 2 refine RL.p rfl rfl ?_
    refine RL.done ?_
    refine RK.condF (hcF rfl (rfl)) ?_
    refine RK.skip ?_
    refine RK.seq ?_
    refine RK.region ?_
    iterate 2 refine RL.p rfl rfl ?_
    refine RL.q (.free rfl) rfl rfl (Yld.fieldAddr fo101_3 rfl) ?_
    refine RL.q (.free rfl) rfl rfl (Yld.load p44 rfl (at1 (h2.blk.cell rfl))) ?_
    refine RL.p rfl rfl ?_
    refine RL.q (.free rfl) rfl rfl (Yld.indexAddrN u44 i41 rfl rfl (by omega)) ?_
    refine RL.q (.free rfl) rfl rfl (Yld.loadN (cs := silC a) a41 rfl (atN (hc1))) ?_
    refine RL.op (.free rfl) rfl rfl (Does.alloc i41) ?_
    rintro _ w3 ⟨b9, rfl, hn9⟩
    refine RL.op' (.free rfl) rfl (Does.storeN i41 rfl rfl rfl (silC_one hsm) hn9.blk (Nat.le_refl 8)) ?_
    rintro _ w4 ⟨hb4, hm4, _⟩
    have hg24 : Grow w2 w4 := hn9.grow.then hm4 (fun y hy e => by have e' : y = b9 := e; have := hn9.at_; omega)
    have hg04 := hg2.trans hg24
    have hB4 : Blk w4 b9 41 [.int .i64 a.id, .int .i64 a.ver, .int .u64 a.start, .int .u64 a.stop, a.mv, .bool a.bd.all, .float .f64 a.bd.lo, .float .f64 a.bd.hi] := hb4
    refine RL.done ?_
    iterate 2 refine RK.seq ?_
    refine RK.region ?_
    refine RL.p rfl rfl ?_
    refine RL.q (.free rfl) rfl rfl (Yld.fieldAddr fo41_2 rfl) ?_
    refine RL.q (.free rfl) rfl rfl (Yld.load p22 rfl (at1 (hB4.cell rfl))) ?_
    refine RL.q (.free rfl) rfl rfl (Yld.fieldAddr fo41_3 rfl) ?_
    refine RL.q (.free rfl) rfl rfl (Yld.load p22 rfl (at1 (hB4.cell rfl))) ?_
    refine RL.op (.free rfl) rfl rfl (Does.call rfl e51 (state_ok now a.start a.stop _)) ?_
    rintro _ _ ⟨rfl, rfl⟩
    refine RL.p rfl rfl ?_
    refine RL.done ?_
    first | refine RK.condD rfl (fun h31 => ?_) (fun h31 => ?_) | refine RK.condN rfl (fun h31 => ?_) (fun h31 => ?_) | refine RK.cond rfl (fun h31 => ?_) (fun h31 => ?_)
    · have e : expireS s now id = (s, 6) := by unfold expireS; rw [hpz]; simp only; rw [hsj]; simp only; exact if_pos h31
      rw [e]
      refine RK.seq ?_
      refine RK.region ?_
      refine RL.p rfl rfl ?_
      refine RL.done ?_
      refine RK.ret_of Tryz.func20 (res1 rfl rfl) ?_ _
      exact ⟨_, rfl, O, rfl, hback _ hg04, Mod.any' hg04, fun x e => .inl e⟩
    · have e : expireS s now id = (turnS s j { pubZ a with start := minS a.start now, stop := now }, 0) := by unfold expireS; rw [hpz]; simp only; rw [hsj]; simp only; exact if_neg h31
      rw [e]
      have hlt : now < a.stop := by unfold stateS at h31; split at h31 <;> omega
      have hst2 : a.stop ≤ 1099511627776 := hst.2
      have h4 := h.grow hg04
      refine RK.skip ?_
      refine RK.seq ?_
      refine RK.region ?_
      iterate 2 refine RL.p rfl rfl ?_
      refine RL.q (.free rfl) rfl rfl (Yld.fieldAddr fo41_2 rfl) ?_
      refine RL.q (.free rfl) rfl rfl (Yld.load p22 rfl (at1 (hB4.cell rfl))) ?_
      refine RL.p rfl rfl ?_
      refine RL.q (.free rfl) rfl rfl (Yld.min2k rfl rfl) ?_
      refine RL.p rfl rfl ?_
      refine RL.op (.free rfl) rfl rfl (Does.call rfl e49 (turnZ_ok _ p pl qu s.ret (minS a.start now) now vq _ al q j a h4.blk h4.que h4.sort h4.row ha (by omega) (by omega) (by omega) (by omega))) ?_
      rintro _ w5 ⟨rfl, vq', hb5, hq5, hr5, hm5, hf5⟩
      obtain ⟨O', hz, hmO, hO'⟩ := turned _ w5 p s (turnS s j { pubZ a with start := minS a.start now, stop := now }) O M pl qu vp vq _ vq' al (al.set j { a with start := minS a.start now, stop := now }) q _ hO h4 rfl rfl rfl hb5 hq5 (by rw [List.length_set]; exact hr5) (by rw [List.map_set, hals]; rfl) (set_ids ha rfl) (fun y hy => by
          rcases List.mem_or_eq_of_mem_set hy with hy | rfl
          · exact .inl (h4.sms y hy)
          · exact .inl (h4.sms a (List.mem_of_getElem? ha))) (turn_sort h4.sort h4.perm' (by rw [hids]; exact g.ris)) (turn_perm (a' := { a with start := minS a.start now, stop := now }) h4.perm' (by rw [hids]; exact g.ris) ha rfl) hm5 hf5
      have hz4 := hg04.size
      refine RL.done ?_
      refine RK.seq ?_
      refine RK.region ?_
      refine RL.p rfl rfl ?_
      refine RL.done ?_
      refine RK.ret_of Tryz.func20 (res1 rfl rfl) ?_ _
      exact ⟨_, rfl, O', rfl, hz, (Mod.any' hg04).trans hmO, fun x e => (hO' x e).elim .inl (fun e => .inr (by omega))⟩
end Go.Proofs.YtbcbfjnlnmhpbaaGreat
set_option linter.unusedVariables false
set_option linter.unusedSimpArgs false
set_option maxHeartbeats 3200000
set_option maxRecDepth 100000
namespace Go.Proofs.YtbcbfjnlnmhpbaaGreat
open Go Go.X
theorem findR_ok (w : World) (p pl qu : Nat) (ret : Int) (vs : Value) (al : List Sil) (hblk : Blk w p 101 [pp pl, pp qu, .int .u64 ret, vs]) (hrow : Row w 41 8 vs al.length (al.flatMap silC)) (hsh : ∀ a ∈ al, ∃ ad n c, a.mv = .slice ad n c) (hris : Ris (al.map (·.id))) (hle : al.length ≤ 1000000) (j : Nat) (a : Sil) (ha : al[j]? = some a) :
    Fx Tryz.prog 54 [pp p, .int .i64 a.id] w (fun u w' => u = .tuple #[.int .i64 j, .bool true] ∧ Grow w w') := by
  have hcall := bsZ_ok al a.id vs w (Sl.own hrow (fun _ _ h => h)) hsh hris hle
  obtain ⟨ad, c, rfl⟩ := hrow.slice
  refine enter Tryz.func54 rfl rfl rfl _ (Pick.sub (l := [0, 1]) (.cons rfl (.cons rfl .nil))) ?_
  refine RK.seq ?_
  refine RK.region ?_
  iterate 2 refine RL.p rfl rfl ?_
  refine RL.done ?_
  refine RK.seq ?_
  refine RK.region ?_
  iterate 2 refine RL.p rfl rfl ?_
  refine RL.q (.free rfl) rfl rfl (Yld.fieldAddr fo101_3 rfl) ?_
  refine RL.q (.free rfl) rfl rfl (Yld.load p44 rfl (at1 (hblk.cell rfl))) ?_
  refine RL.p rfl rfl ?_
  refine RL.op (.free rfl) rfl rfl (Does.call rfl e104 (hcall)) ?_
  rintro _ w2 ⟨⟨i, hi, hlo, hhi, rfl⟩, hg2⟩
  have hij : i = j := by
      have hjl := (List.getElem?_eq_some_iff.1 ha).1
      rcases Nat.lt_trichotomy j i with h1 | h1 | h1
      · have := hlo j a h1 ha; omega
      · exact h1.symm
      · have h2 := hhi i _ (Nat.le_refl _) (List.getElem?_eq_getElem (by omega))
        have h3 := List.pairwise_iff_getElem.1 hris i j (by simp; omega) (by simpa using hjl) h1
        simp only [List.getElem_map, (List.getElem?_eq_some_iff.1 ha).2] at h3
        omega
  subst hij
  iterate 4 refine RL.p rfl rfl ?_
  refine RL.done ?_
  refine RK.ret_of Tryz.func54 (res2 rfl rfl rfl) ?_ _
  exact ⟨_, rfl, by rw [List.getElem?_map, ha]; simp, hg2⟩
theorem erase_filter : ∀ (al : List Sil) (j : Nat) (a : Sil), Ris (al.map (·.id)) → al[j]? = some a → al.eraseIdx j = al.filter fun x => decide (x.id ≠ a.id)
  | [], j, a, _, h => by simp at h
  | x :: al, 0, a, hr, h => by
    obtain rfl : x = a := by simpa using h
    have h1 := (List.pairwise_cons.1 hr).1
    rw [List.eraseIdx_cons_zero, List.filter_cons_of_neg (by simp), List.filter_eq_self.2]
    intro y hy
    have h2 : x.id < y.id := h1 y.id (List.mem_map.2 ⟨y, hy, rfl⟩)
    simp only [decide_eq_true_eq]
    omega
  | x :: al, j + 1, a, hr, h => by
    have ha : al[j]? = some a := by simpa using h
    have h1 : x.id < a.id := (List.pairwise_cons.1 hr).1 a.id (List.mem_map.2 ⟨a, List.mem_of_getElem? ha, rfl⟩)
    rw [List.eraseIdx_cons_succ, List.filter_cons_of_pos (by simp only [decide_eq_true_eq]; omega), erase_filter al j a (List.pairwise_cons.1 hr).2 ha]
def dueZ (ret now : Int) (a : Slz) : Bool := decide (a.stop + ret ≤ now)
def sweptZ (s : SS) (now : Int) : SS := { s with sl := s.sl.filter fun a => !dueZ s.ret now a }
def keptA (al : List Sil) (ids : List Int) : List Sil := al.filter fun a => !ids.contains a.id
theorem keptA_nil (al : List Sil) : keptA al [] = al := List.filter_eq_self.2 fun a _ => rfl
theorem keptA_ris {al : List Sil} (h : Ris (al.map (·.id))) (ids : List Int) : Ris ((keptA al ids).map (·.id)) := by
  unfold keptA
  exact h.sublist (List.filter_sublist.map _)
theorem keptA_snoc (al : List Sil) (ids : List Int) (x : Int) : keptA al (ids ++ [x]) = (keptA al ids).filter fun a => decide (a.id ≠ x) := by
  unfold keptA
  rw [List.filter_filter]
  apply List.filter_congr
  intro a _
  by_cases h : a.id = x <;> simp [h, Bool.and_comm]
theorem give_filter {l : List Int} {x : Int} (h : Ris l) (hx : x ∈ l) : giveS l x = l.filter fun y => decide (y ≠ x) := by
  unfold giveS cutRow
  rw [if_pos (by simpa using hx), mkRow_id h]
theorem sweepO_ok (w : World) (p : Nat) (s : SS) (O M : Nat → Prop) (h : ZStore O M w p s) (g : Gz s) (now : Int) :
    Fx Tryz.prog 18 [pp p, .int .u64 now] w (fun u w' => ∃ O' ids, (∃ es : List En, SortE es ∧ es.Perm ((s.sl.filter (dueZ s.ret now)).map fun a => ⟨a.stop + s.ret, a.id⟩) ∧ ids = es.map (·.id)) ∧ Row w' 3 1 u ids.length (ints ids) ∧ Fresh w.heap.size u ∧ ids.Perm ((s.sl.filter (dueZ s.ret now)).map (·.id)) ∧ ZStore O' (fun x => M x ∨ O' x) w' p (sweptZ s now) ∧ Mod O w w' ∧ (∀ x, O' x → O x ∨ w.heap.size ≤ x) ∧ ∀ b, u.ownBlock = some b → ¬ O' b) := by
  obtain ⟨pl, qu, vp, vq, vs, al, q, hO, h⟩ := h
  have hle := g.le
  have hal := h.len
  have hids := h.ids
  have hals := h.als
  have hql := h.qlen
  have hris : Ris (al.map (·.id)) := by rw [hids]; exact g.ris
  have hsh := h.sh
  obtain ⟨ids, hidq⟩ : ∃ ids, ids = (dueE q now).map (·.id) := ⟨_, rfl⟩
  have hdueal : (dueE q now).Perm ((al.filter fun a => dueZ s.ret now (pubZ a)).map (entZ s.ret)) := by
    have h1 := h.perm'.filter (fun a : En => decide (a.due ≤ now))
    rw [List.filter_map] at h1
    exact h1
  have hrestal : (restE q now).Perm ((al.filter fun a => !dueZ s.ret now (pubZ a)).map (entZ s.ret)) := by
    have h1 := h.perm'.filter (fun a : En => !decide (a.due ≤ now))
    rw [List.filter_map] at h1
    exact h1
  have hidperm : ids.Perm ((al.filter fun a => dueZ s.ret now (pubZ a)).map (·.id)) := by
    have h1 := hdueal.map (fun e : En => e.id)
    rw [List.map_map] at h1
    rw [hidq]
    exact h1
  have hidn : ids.Nodup := by
    rw [hidperm.nodup_iff]
    have h1 : Ris ((al.filter fun a => dueZ s.ret now (pubZ a)).map (·.id)) := hris.sublist (List.filter_sublist.map _)
    exact h1.imp fun {x y} h e => by omega
  have hidmem : ∀ x, x ∈ ids → ∃ a ∈ al, a.id = x ∧ dueZ s.ret now (pubZ a) = true := fun x hx => by
    obtain ⟨a, ha, rfl⟩ := List.mem_map.1 (hidperm.mem_iff.1 hx)
    exact ⟨a, (List.mem_filter.1 ha).1, rfl, (List.mem_filter.1 ha).2⟩
  have hidlen : ids.length = (dueE q now).length := by rw [hidq, List.length_map]
  have hidle : ids.length ≤ al.length := by
    rw [hidperm.length_eq, List.length_map]
    exact List.length_filter_le _ _
  have hkept : keptA al ids = al.filter fun a => !dueZ s.ret now (pubZ a) := by
    unfold keptA
    apply List.filter_congr
    intro a ha
    congr 1
    rw [Bool.eq_iff_iff]
    constructor
    · intro hc
      obtain ⟨b, hb, e, hd⟩ := hidmem a.id (by simpa using hc)
      obtain ⟨i, hi⟩ := List.getElem?_of_mem ha
      obtain ⟨k, hk⟩ := List.getElem?_of_mem hb
      have e2 : i = k := by
        have hil := (List.getElem?_eq_some_iff.1 hi).1
        have hkl := (List.getElem?_eq_some_iff.1 hk).1
        rcases Nat.lt_trichotomy i k with h1 | h1 | h1
        · have h3 := List.pairwise_iff_getElem.1 hris i k (by simpa using hil) (by simpa using hkl) h1
          simp only [List.getElem_map, (List.getElem?_eq_some_iff.1 hi).2, (List.getElem?_eq_some_iff.1 hk).2] at h3
          omega
        · exact h1
        · have h3 := List.pairwise_iff_getElem.1 hris k i (by simpa using hkl) (by simpa using hil) h1
          simp only [List.getElem_map, (List.getElem?_eq_some_iff.1 hi).2, (List.getElem?_eq_some_iff.1 hk).2] at h3
          omega
      subst e2
      rw [hi] at hk
      cases hk
      exact hd
    · intro hd
      have : a.id ∈ ids := hidperm.mem_iff.2 (List.mem_map.2 ⟨a, List.mem_filter.2 ⟨ha, hd⟩, rfl⟩)
      simpa using this
  refine enter Tryz.func18 rfl rfl rfl _ (Pick.sub (l := [0, 1]) (.cons rfl (.cons rfl .nil))) ?_
  refine RK.seq ?_
  refine RK.region ?_
  refine RL.p rfl rfl ?_
  refine RL.done ?_
  refine RK.seq ?_
  refine RK.region ?_
  iterate 2 refine RL.p rfl rfl ?_
  refine RL.q (.free rfl) rfl rfl (Yld.fieldAddr fo101_1 rfl) ?_
  refine RL.q (.free rfl) rfl rfl (Yld.load p98 rfl (at1 (h.blk.cell rfl))) ?_
  refine RL.p rfl rfl ?_
  refine RL.op (.free rfl) rfl rfl (Does.call rfl e56 (reapDue_ok w qu q vq h.que h.sort now (by omega))) ?_
  rintro u1 w1 ⟨hr1, hf1, ⟨vq', hq1, hqo⟩, hm1⟩
  rw [← hidq, ← hidlen] at hr1
  obtain ⟨ad1, c1, rfl⟩ := hr1.slice
  have n1 : ∀ b, (b = qu ∨ vq.ownBlock = some b) → Ty w b 155 ∨ Ty w b 164 := fun b e => e.elim (fun e => .inl (e ▸ h.que.blk.ty)) (fun e => .inr (h.que.row.ty e))
  have hb1 := h.blk.mod hm1 (fun e => (n1 _ e).elim (fun t => h.blk.ty.ne t rfl rfl) (fun t => h.blk.ty.ne t rfl rfl))
  have hp1 := h.pool.mod hm1 (fun e => (n1 _ e).elim (fun t => h.pool.blk.ty.ne t rfl rfl) (fun t => h.pool.blk.ty.ne t rfl rfl)) (fun x e1 e => (n1 _ e).elim (fun t => (h.pool.row.ty e1).ne t rfl rfl) (fun t => (h.pool.row.ty e1).ne t rfl rfl))
  have hr1s := h.row.mod hm1 (fun x e1 e => (n1 _ e).elim (fun t => (h.row.ty e1).ne t rfl rfl) (fun t => (h.row.ty e1).ne t rfl rfl))
  have hmP1 : Mod (ownS p pl qu vp vq vs) w w1 := hm1.mono fun x _ e => e.elim (fun e => .inr (.inr (.inl e))) (fun e => .inr (.inr (.inr (.inr (.inl e)))))
  have hown0 : ∀ x, ownS p pl qu vp vq vs x → x < w.heap.size := fun x e => h.own_lt e
  have hz1 := hm1.size
  refine RL.p rfl rfl ?_
  refine RL.done ?_
  iterate 2 refine RK.seq ?_
  refine RK.region ?_
  refine RL.p rfl rfl ?_
  refine RL.q (.free rfl) rfl rfl (Yld.lenSl u35 rfl) ?_
  refine RL.p rfl rfl ?_
  refine RL.done ?_
  refine RK.block ?_
  refine RK.loop (fun k : Nat => [(0, pp p), (5, .slice ad1 ids.length c1), (16, .slice ad1 ids.length c1), (17, .int .i64 (ids.length : Int)), (18, .int .i64 (k : Int))]) (fun k w' => k ≤ ids.length ∧ (∃ vp' vs', Blk w' p 101 [pp pl, pp qu, .int .u64 s.ret, vs'] ∧ PoolAt w' pl s.most s.last ((keptA al (ids.take k)).map (·.id)) vp' ∧ Row w' 41 8 vs' (keptA al (ids.take k)).length ((keptA al (ids.take k)).flatMap silC) ∧ vs'.ownBlock = vs.ownBlock ∧ (∀ b, vp'.ownBlock = some b → vp.ownBlock = some b ∨ w1.heap.size ≤ b)) ∧ QAt w' qu (restE q now) vq' ∧ Row w' 3 1 (.slice ad1 ids.length c1) ids.length (ints ids) ∧ Mod (fun b => b = p ∨ b = pl ∨ vs.ownBlock = some b) w1 w') (fun k => ids.length - k) 0 ⟨rfl, rfl, rfl, rfl, rfl, trivial⟩ ⟨by omega, ⟨vp, vs, hb1, by rw [List.take_zero, keptA_nil]; exact hp1, by rw [List.take_zero, keptA_nil]; exact hr1s, rfl, fun b e => .inl e⟩, hq1, hr1, Mod.refl _ _⟩ (fun k w' hI ih => ?_)
  obtain ⟨hk, ⟨vp', vs', hbk, hpk, hrk, hvo, hpo⟩, hqk, hrk1, hmk⟩ := hI
  have hkl : (keptA al (ids.take k)).length ≤ al.length := List.length_filter_le _ _
  have hzk := hmk.size
  refine RK.seq ?_
  refine RK.region ?_
  refine RL.p rfl rfl ?_
  refine RL.done ?_
  refine RK.seq ?_
  first | refine RK.condD rfl (fun h19 => ?_) (fun h19 => ?_) | refine RK.condN rfl (fun h19 => ?_) (fun h19 => ?_) | refine RK.cond rfl (fun h19 => ?_) (fun h19 => ?_)
  · obtain ⟨x, hx⟩ : ∃ x, ids[k]? = some x := ⟨ids[k]'(by omega), List.getElem?_eq_getElem (by omega)⟩
    obtain ⟨b1, o1, c1', he1, _, _, hc1⟩ := (Sl.own (M := No) hrk1 (fun _ _ h => h)).elem1 (k := k) (u := .int .i64 x) (by simp [hx])
    cases he1
    obtain ⟨a0, ha0, hax, had⟩ := hidmem x (List.mem_of_getElem? hx)
    have hnot : x ∉ ids.take k := fun hm => by
        obtain ⟨t, ht⟩ := List.getElem?_of_mem hm
        rw [List.getElem?_take] at ht
        split at ht
        · have h1 := (List.getElem?_eq_some_iff.1 ht)
          have h2 := (List.getElem?_eq_some_iff.1 hx)
          have := List.pairwise_iff_getElem.1 hidn t k h1.1 h2.1 (by omega)
          rw [h1.2, h2.2] at this
          exact this rfl
        · cases ht
    have hin : a0 ∈ keptA al (ids.take k) := List.mem_filter.2 ⟨ha0, by rw [hax]; simpa using hnot⟩
    obtain ⟨j, hj⟩ := List.getElem?_of_mem hin
    have hjl := (List.getElem?_eq_some_iff.1 hj).1
    subst hax
    have hrisk := keptA_ris hris (ids.take k)
    have hshk : ∀ a ∈ keptA al (ids.take k), ∃ ad n c, a.mv = .slice ad n c := fun a ha => hsh a (List.mem_filter.1 ha).1
    have htk : ids.take (k + 1) = ids.take k ++ [a0.id] := by rw [List.take_add_one, hx]; rfl
    have hnext : keptA al (ids.take (k + 1)) = (keptA al (ids.take k)).eraseIdx j := by rw [htk, keptA_snoc, erase_filter _ j a0 hrisk hj]
    refine RK.skip ?_
    refine RK.seq ?_
    refine RK.block ?_
    refine RK.seq ?_
    refine RK.region ?_
    refine RL.q (.free rfl) rfl rfl (Yld.indexAddrN u35 i3 rfl rfl (by omega)) ?_
    refine RL.q (.free rfl) rfl rfl (Yld.load p3 rfl (at1 (hc1 k (.int .i64 a0.id) (by simp [hx])))) ?_
    refine RL.p rfl rfl ?_
    refine RL.done ?_
    refine RK.seq ?_
    refine RK.region ?_
    iterate 2 refine RL.p rfl rfl ?_
    refine RL.op (.free rfl) rfl rfl (Does.call rfl e54 (findR_ok _ p pl qu s.ret vs' _ hbk hrk hshk hrisk (by omega) j a0 hj)) ?_
    rintro _ w2 ⟨rfl, hg2⟩
    obtain ⟨ads, cs, rfl⟩ := hrk.slice
    have hb2 := hbk.mod hg2 (fun h => h)
    have hr2 := hrk.mod hg2 (fun _ _ h => h)
    have hp2 := hpk.mod hg2 (fun h => h) (fun _ _ h => h)
    have hq2 := hqk.grow hg2
    iterate 5 refine RL.p rfl rfl ?_
    refine RL.done ?_
    refine RK.seq ?_
    refine RK.region ?_
    iterate 3 refine RL.p rfl rfl ?_
    refine RL.q (.free rfl) rfl rfl (Yld.fieldAddr fo101_3 rfl) ?_
    refine RL.q (.free rfl) rfl rfl (Yld.load p44 rfl (at1 (hb2.cell rfl))) ?_
    iterate 3 refine RL.p rfl rfl ?_
    refine RL.re (d := 35) rfl rfl (succ_i64 (by omega)) ?_
    refine RL.op (.free rfl) rfl rfl (Does.call rfl e57 (deleteZ_ok _ j _ _ hr2 hshk hjl (by omega))) ?_
    rintro u3 w3 ⟨hr3, ho3, hm3⟩
    obtain ⟨ad3, c3, rfl⟩ := hr3.slice
    have hb3 := hb2.mod hm3 (fun e => (hr2.ty e).ne hb2.ty rfl rfl)
    have hp3 := hp2.mod hm3 (fun e => (hr2.ty e).ne hp2.blk.ty rfl rfl) (fun x e1 e => (hp2.row.ty e1).ne (hr2.ty e) rfl rfl)
    have hq3 := hq2.mod hm3 (fun e => (hr2.ty e).ne hq2.blk.ty rfl rfl) (fun x e1 e => (hq2.row.ty e1).ne (hr2.ty e) rfl rfl)
    have hrk2 := hrk1.mod hg2 (fun _ _ h => h)
    have hrk3 := hrk2.mod hm3 (fun x e1 e => (hrk2.ty e1).ne (hr2.ty e) rfl rfl)
    refine RL.p rfl rfl ?_
    refine RL.q (.free rfl) rfl rfl (Yld.fieldAddr fo101_3 rfl) ?_
    refine RL.op' (.free rfl) rfl (Does.store i44 rfl rfl rfl hb3 (.s (.s (.s .z)))) ?_
    rintro _ w4 ⟨hb4, hm4, hs4⟩
    have hr4 := hr3.mod hm4 (fun x e1 e => (hr3.ty e1).ne hb3.ty rfl e)
    have hp4 := hp3.mod hm4 (fun e => hp3.blk.ty.ne hb3.ty rfl e) (fun x e1 e => (hp3.row.ty e1).ne hb3.ty rfl e)
    have hq4 := hq3.mod hm4 (fun e => hq3.blk.ty.ne hb3.ty rfl e) (fun x e1 e => (hq3.row.ty e1).ne hb3.ty rfl e)
    have hrk4 := hrk3.mod hm4 (fun x e1 e => (hrk3.ty e1).ne hb3.ty rfl e)
    refine RL.done ?_
    refine RK.region ?_
    iterate 2 refine RL.p rfl rfl ?_
    refine RL.q (.free rfl) rfl rfl (Yld.fieldAddr fo101_0 rfl) ?_
    refine RL.q (.free rfl) rfl rfl (Yld.load p96 rfl (at1 (hb4.cell rfl))) ?_
    refine RL.p rfl rfl ?_
    refine RL.op (.free rfl) rfl rfl (Does.call rfl e58 (give_ok _ pl s.most s.last _ vp' a0.id hp4 hrisk (by rw [List.length_map]; omega))) ?_
    rintro _ w5 ⟨rfl, vp5, hp5, hm5, hf5⟩
    have hb5 := hb4.mod hm5 (fun e => hb4.ty.ne hp4.blk.ty rfl e)
    have hr5 := hr4.mod hm5 (fun x e1 e => (hr4.ty e1).ne hp4.blk.ty rfl e)
    have hq5 := hq4.mod hm5 (fun e => hq4.blk.ty.ne hp4.blk.ty rfl e) (fun x e1 e => (hq4.row.ty e1).ne hp4.blk.ty rfl e)
    have hrk5 := hrk4.mod hm5 (fun x e1 e => (hrk4.ty e1).ne hp4.blk.ty rfl e)
    have hgv : giveS ((keptA al (ids.take k)).map (·.id)) a0.id = ((keptA al (ids.take k)).eraseIdx j).map (·.id) := by
        rw [give_filter hrisk (List.mem_map.2 ⟨a0, hin, rfl⟩), erase_filter _ j a0 hrisk hj, List.filter_map]
        rfl
    rw [hgv] at hp5
    have hz2 := hg2.size
    have hz3 := hm3.size
    have hz4 := hm4.size
    refine RL.done ?_
    refine RK.inBlock ?_
    refine RK.region ?_
    refine RL.p rfl rfl ?_
    refine RL.re (d := 45) rfl rfl (succ_i64 (by omega)) ?_
    refine RL.p rfl rfl ?_
    refine RL.done ?_
    exact RK.back (ih (k + 1) _ ⟨by omega, ⟨vp5, .slice ad3 _ c3, hb5, by rw [hnext]; exact hp5, by rw [hnext]; exact hr5, ho3.trans hvo, fun b e => by
        rcases hf5 b e with e | e
        · exact hpo b e
        · exact .inr (by omega)⟩, hq5, hrk5, (((hmk.trans (Mod.any' hg2)).trans (hm3.mono fun b _ e => .inr (.inr (hvo ▸ e)))).trans (hm4.mono fun b _ e => .inl e)).trans (hm5.mono fun b _ e => .inr (.inl e))⟩ (by omega)) ⟨rfl, rfl, rfl, rfl, rfl, trivial⟩
  · have hke : ids.take k = ids := List.take_of_length_le (by omega)
    rw [hke, hkept] at hpk hrk
    have hown : ∀ x, ownS p pl qu vp' vq' vs' x → ownS p pl qu vp vq vs x ∨ w.heap.size ≤ x := fun x e => by
        rcases e with e | e | e | e | e | e
        · exact .inl (.inl e)
        · exact .inl (.inr (.inl e))
        · exact .inl (.inr (.inr (.inl e)))
        · rcases hpo x e with e | e
          · exact .inl (.inr (.inr (.inr (.inl e))))
          · exact .inr (by omega)
        · exact .inl (.inr (.inr (.inr (.inr (.inl (hqo ▸ e))))))
        · exact .inl (.inr (.inr (.inr (.inr (.inr (hvo ▸ e))))))
    have hmP : Mod (ownS p pl qu vp vq vs) w w' := hmP1.trans (hmk.mono fun x _ e => by
        rcases e with e | e | e
        · exact .inl e
        · exact .inr (.inl e)
        · exact .inr (.inr (.inr (.inr (.inr e)))))
    refine RK.exit rfl ?_
    refine RK.seq ?_
    refine RK.region ?_
    iterate 2 refine RL.p rfl rfl ?_
    refine RL.done ?_
    refine RK.ret_of Tryz.func18 (res1 rfl rfl) ?_ _
    exact ⟨_, rfl, ownS p pl qu vp' vq' vs', ids, ⟨dueE q now, h.sort.filter _, by
        rw [← hals, List.filter_map, List.map_map]
        exact hdueal, hidq⟩, hrk1, hf1, by
        rw [← hals, List.filter_map, List.map_map]
        exact hidperm, ZStore.next (w := w) (al := al.filter fun a => !dueZ s.ret now (pubZ a)) h.ltM (hmP.mono fun x _ e => h.ownM x e) hbk hpk hqk hrk (by
        show _ = s.sl.filter _
        rw [← hals, List.filter_map]; rfl) (fun a ha => .inl (h.sms a (List.mem_filter.1 ha).1)) (h.sort.filter _) hrestal (fun x e => (hown x e).elim (fun e => .inl (h.ownM x e)) .inr), hmP.mono fun x _ e => (hO x).2 e, fun x e => (hown x e).elim (fun e => .inl ((hO x).2 e)) .inr, fun b e e2 => by
        have h1 := hf1 b e
        have h2 := hr1.lt e
        rcases e2 with e2 | e2 | e2 | e2 | e2 | e2
        · exact (hrk1.ty e).ne hbk.ty rfl e2
        · exact (hrk1.ty e).ne hpk.blk.ty rfl e2
        · exact (hrk1.ty e).ne hqk.blk.ty rfl e2
        · rcases hpo b e2 with e2 | e2
          · have := hown0 b (.inr (.inr (.inr (.inl e2)))); omega
          · omega
        · exact (hrk1.ty e).ne (hqk.row.ty e2) rfl rfl
        · exact (hrk1.ty e).ne (hrk.ty e2) rfl rfl⟩
theorem sweepZ_ok (w : World) (p : Nat) (s : SS) (O M : Nat → Prop) (h : ZStore O M w p s) (g : Gz s) (now : Int) :
    Fx Tryz.prog 18 [pp p, .int .u64 now] w (fun u w' => ∃ O' ids, Row w' 3 1 u ids.length (ints ids) ∧ Fresh w.heap.size u ∧ ids.Perm ((s.sl.filter (dueZ s.ret now)).map (·.id)) ∧ ZStore O' (fun x => M x ∨ O' x) w' p (sweptZ s now) ∧ Mod O w w' ∧ (∀ x, O' x → O x ∨ w.heap.size ≤ x) ∧ ∀ b, u.ownBlock = some b → ¬ O' b) := by
  refine Calls.mono (sweepO_ok w p s O M h g now) ?_
  rintro e w' ⟨u, he, O', ids, _, h1⟩
  exact ⟨u, he, O', ids, h1⟩
end Go.Proofs.YtbcbfjnlnmhpbaaGreat
set_option linter.unusedVariables false
set_option linter.unusedSimpArgs false
set_option maxHeartbeats 3200000
set_option maxRecDepth 100000
namespace Go.Proofs.YtbcbfjnlnmhpbaaGreat
open Go Go.X
theorem Gz.make {s : SS} (g : Gz s) (now a b : Int) (hb : 0 ≤ b) (ms : List Mt) (bd : Bd) : Gz (makeS s now a b ms bd).1 := by
  unfold makeS
  split
  · exact g
  · split
    · exact g
    · rename_i hf
      have hsp := fits_span hf
      split
      · exact g
      · rename_i hm
        have h1 := g.l0
        refine ⟨g.r0, g.r1, g.m1, ?_, ?_, ?_, fun x hx => ?_, fun x hx => ?_⟩
        · simp only [List.length_append, List.length_singleton]; omega
        · show Ris ((s.sl ++ [_]).map _)
          rw [List.map_append]
          refine List.pairwise_append.2 ⟨g.ris, by simp, fun x hx y hy => ?_⟩
          obtain ⟨z, hz, rfl⟩ := List.mem_map.1 hx
          have h2 := g.low z hz
          have h3 : y = s.last + 1 := by simpa using hy
          omega
        · show 0 ≤ s.last + 1; omega
        · rcases List.mem_append.1 hx with hx | hx
          · have h2 := g.low x hx
            show x.id ≤ s.last + 1
            omega
          · obtain rfl := List.mem_singleton.1 hx
            exact Int.le_refl _
        · rcases List.mem_append.1 hx with hx | hx
          · exact g.st x hx
          · obtain rfl := List.mem_singleton.1 hx
            exact ⟨hb, hsp.2.2⟩
theorem Gz.turn {s : SS} (g : Gz s) {i : Nat} {a a' : Slz} (ha : s.sl[i]? = some a) (hid : a'.id = a.id) (h1 : 0 ≤ a'.stop ∧ a'.stop ≤ 1099511627776) : Gz (turnS s i a') := by
  have hmem := List.mem_of_getElem? ha
  have hin : ∀ x ∈ (turnS s i a').sl, x ∈ s.sl ∨ x = a' := fun x hx => List.mem_or_eq_of_mem_set hx
  refine ⟨g.r0, g.r1, g.m1, by show ((s.sl.set i a').length : Int) ≤ _; rw [List.length_set]; exact g.len, ?_, g.l0, fun x hx => ?_, fun x hx => ?_⟩
  · show Ris ((s.sl.set i a').map _)
    have e : (s.sl.set i a').map (·.id) = s.sl.map (·.id) := by
      rw [List.map_set]
      apply List.ext_getElem?
      intro j
      rw [List.getElem?_set]
      split
      · rename_i e
        subst e
        split
        · rw [List.getElem?_map, ha]; simp [hid]
        · rename_i e2
          rw [eq_comm, List.getElem?_eq_none_iff]; omega
      · rfl
    rw [e]; exact g.ris
  · rcases hin x hx with h | rfl
    · exact g.low x h
    · rw [hid]; exact g.low a hmem
  · rcases hin x hx with h | rfl
    · exact g.st x h
    · exact h1
theorem Gz.expire {s : SS} (g : Gz s) (now id : Int) (hn : 0 ≤ now) : Gz (expireS s now id).1 := by
  unfold expireS
  split
  · exact g
  · split
    · exact g
    · rename_i a ha
      split
      · exact g
      · rename_i h3
        refine g.turn ha rfl ?_
        have h2 := g.st a (List.mem_of_getElem? ha)
        have h4 : now < a.stop := by unfold stateS at h3; split at h3 <;> omega
        show 0 ≤ now ∧ now ≤ _
        omega
theorem Gz.swept {s : SS} (g : Gz s) (now : Int) : Gz (sweptZ s now) := by
  refine ⟨g.r0, g.r1, g.m1, ?_, ?_, g.l0, fun x hx => g.low x (List.mem_filter.1 hx).1, fun x hx => g.st x (List.mem_filter.1 hx).1⟩
  · have h1 := g.len
    have h2 := List.length_filter_le (fun a => !dueZ s.ret now a) s.sl
    show ((s.sl.filter _).length : Int) ≤ s.most
    omega
  · exact g.ris.sublist (List.filter_sublist.map _)
def noneT : ByteArray := ⟨#[110, 111, 110, 101]⟩
def mP : Mt := ⟨1, noneT, ⟨#[]⟩⟩
def bdAll : Bd := ⟨true, 0, 0⟩
theorem mP_is : isM mP = true := by kernel_rfl
theorem mP_large : largeM mP = false := by kernel_rfl
theorem mP_holds : holdsM mP [] = true := by
  unfold holdsM
  rw [mP_is, mP_large, if_pos (show mP.kind = 1 from rfl), show getL [] mP.name = mP.value from rfl]
  simp
theorem mP_right : rightS [mP] bdAll = true := by kernel_rfl
theorem mP_any : anyL [mP] = false := by kernel_rfl
theorem plain14_ok (w : World) : Fx Tryz.prog 12 [] w (fun u w' => Row w' 108 3 u 1 (mtC mP) ∧ Fresh w.heap.size u ∧ Grow w w') := by
  refine enter Tryz.func12 rfl rfl rfl _ (Pick.sub (l := []) .nil) ?_
  refine RK.seq ?_
  refine RK.region ?_
  refine RL.p rfl rfl ?_
  refine RL.done ?_
  refine RK.seq ?_
  refine RK.region ?_
  refine RL.q (.free rfl) rfl rfl (Yld.build (v := .agg (mtC mP).toArray) rfl (fun w => by kernel_rfl)) ?_
  refine RL.op (.free rfl) rfl rfl (Does.slice1 u28 i108 rfl rfl rfl rfl rfl) ?_
  rintro _ w2 ⟨b2, rfl, hn2⟩
  refine RL.p rfl rfl ?_
  refine RL.done ?_
  refine RK.ret_of Tryz.func12 (res1 rfl rfl) ?_ _
  exact ⟨_, rfl, Row.new hn2 3 1 rfl (by omega), fun b e => by cases e; exact Nat.le_of_eq hn2.at_.symm, hn2.grow⟩
def sA : SS := ⟨2, 3, 0, []⟩
def sB : SS := ⟨2, 3, 1, [⟨1, 3, 9, [mP], bdAll⟩]⟩
def sC : SS := ⟨2, 3, 1, [⟨1, 3, 5, [mP], bdAll⟩]⟩
theorem sA_ok : Gz sA := ⟨by decide, by decide, by decide, by decide, List.Pairwise.nil, by decide, fun a h => (by cases h), fun a h => (by cases h)⟩
theorem sA_make : makeS sA 3 3 9 [mP] bdAll = (sB, 1, 0) := by
  unfold makeS
  have h1 : fitsS 3 3 9 [mP] = 0 := by unfold fitsS; rw [mP_any]; rfl
  rw [mP_right, if_neg (by decide), h1]
  rfl
theorem sB_ok : Gz sB := by
  have h := sA_ok.make 3 3 9 (by decide) [mP] bdAll
  rw [sA_make] at h; exact h
theorem sB_expire : expireS sB 5 1 = (sC, 0) := rfl
theorem sC_ok : Gz sC := by
  have h := sB_ok.expire 5 1 (by decide)
  rw [sB_expire] at h; exact h
theorem sB_holds : holdsZ 3 [] 9221120237041090561 sB.sl = [1] := by
  unfold holdsZ
  show List.map (fun x : Slz => x.id) (List.filter (holdZ 3 [] 9221120237041090561) [(⟨1, 3, 9, [mP], bdAll⟩ : Slz)]) = [1]
  rw [List.filter_cons_of_pos]
  · rfl
  · unfold holdZ
    simp only [List.all_cons, List.all_nil, mP_holds]
    kernel_rfl
theorem sC_get : getZ sC 1 = some ⟨1, 3, 5, [mP], bdAll⟩ := rfl
theorem sruns_ok (w : World) : Fx Tryz.prog 14 [] w (fun u w' => u = .bool true ∧ Grow w w') := by
  refine enter Tryz.func14 rfl rfl rfl _ (Pick.sub (l := []) .nil) ?_
  refine RK.seq ?_
  refine RK.region ?_
  refine RL.p rfl rfl ?_
  refine RL.done ?_
  refine RK.seq ?_
  refine RK.region ?_
  refine RL.op (.free rfl) rfl rfl (Does.call rfl e10 (newZ_ok 3 2 _)) ?_
  rintro _ w1 ⟨p, O1, rfl, hz1, hg1, hO1⟩
  have hsA : (⟨clampS 2 1 1048576, clampS 3 1 12, 0, []⟩ : SS) = sA := rfl
  rw [hsA] at hz1
  refine RL.p rfl rfl ?_
  refine RL.done ?_
  iterate 2 refine RK.seq ?_
  refine RK.region ?_
  refine RL.p rfl rfl ?_
  refine RL.q (.free rfl) rfl rfl (Yld.eqPtr Tryz.underlying23 rfl rfl) ?_
  refine RL.done ?_
  refine RK.condF (hcF rfl (rfl)) ?_
  refine RK.skip ?_
  refine RK.seq ?_
  refine RK.region ?_
  refine RL.p rfl rfl ?_
  refine RL.op (.free rfl) rfl rfl (Does.call rfl e12 (plain14_ok _)) ?_
  rintro u2 w2 ⟨hr2, hf2, hg2⟩
  have hz2 := hz1.grow hg2
  refine RL.q (.free rfl) rfl rfl (Yld.build (v := .agg (bdC bdAll).toArray) rfl (fun w => by kernel_rfl)) ?_
  refine RL.op (.free rfl) rfl rfl (Does.call rfl e11 (makeZ_ok _ p sA O1 O1 hz2 sA_ok (by decide) 3 3 9 (by decide) [mP] u2 bdAll (Sl.own hr2 (fun k hk e => by have := hf2 k hk; have := hz1.lt k e; omega)) (by simp))) ?_
  rintro _ w3 ⟨O3, rfl, hz3, hm3, hO3⟩
  rw [sA_make] at hz3 ⊢
  iterate 5 refine RL.p rfl rfl ?_
  refine RL.done ?_
  refine RK.seq ?_
  refine RK.region ?_
  refine RL.p rfl rfl ?_
  refine RL.op (.free rfl) rfl rfl (Does.call rfl e50 (nan_ok _)) ?_
  rintro _ _ ⟨rfl, rfl⟩
  refine RL.op (.free rfl) rfl rfl (Does.call rfl e15 (holdsStore_ok _ p sB _ _ hz3 sB_ok 3 No [] (.slice none 0 0) 9221120237041090561 (Sl.nil _ _ _ _ _) (by simp))) ?_
  rintro u4 w4 ⟨hr4, hf4, hg4⟩
  rw [sB_holds] at hr4
  obtain ⟨ad4, c4, rfl⟩ := hr4.slice
  refine RL.p rfl rfl ?_
  refine RL.done ?_
  refine RK.seq ?_
  refine RK.region ?_
  refine RL.p rfl rfl ?_
  refine RL.op (.free rfl) rfl rfl (Does.call rfl e20 (expireZ_ok _ p sB _ _ (hz3.grow hg4) sB_ok 5 1 (by decide))) ?_
  rintro _ w5 ⟨O5, rfl, hz5, hm5, hO5⟩
  rw [sB_expire] at hz5 ⊢
  refine RL.p rfl rfl ?_
  refine RL.done ?_
  refine RK.seq ?_
  refine RK.region ?_
  refine RL.p rfl rfl ?_
  refine RL.op (.free rfl) rfl rfl (Does.call rfl e16 (getZ_ok _ p sC _ _ hz5 sC_ok 5 1 (by simp [sC]))) ?_
  rintro _ w6 ⟨hget, hg6⟩
  rw [sC_get] at hget
  obtain ⟨v6, rfl, hr6, hf6⟩ := hget
  obtain ⟨ad6, c6, rfl⟩ := hr6.slice
  iterate 3 refine RL.p rfl rfl ?_
  refine RL.op (.free rfl) rfl rfl (Does.alloc i41) ?_
  rintro _ w7 ⟨b6, rfl, hn6⟩
  refine RL.op' (.free rfl) rfl (Does.storeN i41 rfl rfl rfl rfl hn6.blk (Nat.le_refl 8)) ?_
  rintro _ w8 ⟨hb8, hm8, _⟩
  have hg68 : Grow w6 w8 := hn6.grow.then hm8 (fun y hy e => by have e' : y = b6 := e; have := hn6.at_; omega)
  have hz8 := hz5.grow (hg6.trans hg68)
  have hB8 : Blk w8 b6 41 (silC ⟨1, 3, 3, 5, .slice ad6 [mP].length c6, [mP], bdAll⟩) := hb8
  have hs1 := hg1.size
  have hs2 := hg2.size
  have hs3 := hm3.size
  have hs4 := hg4.size
  have hs5 := hm5.size
  have hs6 := hg6.size
  have hs8 := hg68.size
  have hF3 : ∀ b, O3 b → w.heap.size ≤ b := fun b e => (hO3 b e).elim (hO1 b) (fun e => by omega)
  have hF5 : ∀ b, O5 b → w.heap.size ≤ b := fun b e => (hO5 b e).elim (hF3 b) (fun e => by omega)
  have hg03 : Grow w w3 := (hg1.trans hg2).then hm3 (fun b hb e => by have := hO1 b e; omega)
  have hg05 : Grow w w5 := (hg03.trans hg4).then hm5 (fun b hb e => by have := hF3 b e; omega)
  have hlt3 := hz3.lt
  have hr5 := hr4.mod hm5 (fun b e1 e2 => by have := hf4 b e1; have := hlt3 b e2; omega)
  refine RL.p rfl rfl ?_
  refine RL.done ?_
  refine RK.seq ?_
  refine RK.region ?_
  iterate 3 refine RL.p rfl rfl ?_
  refine RL.knownT (d := 30) rfl rfl (rfl) ?_
  iterate 2 refine RL.q (.yes rfl rfl rfl) rfl rfl (Yld.pure rfl) ?_
  iterate 2 refine RL.p rfl rfl ?_
  refine RL.knownT (d := 34) rfl rfl (rfl) ?_
  refine RL.q (.yes rfl rfl rfl) rfl rfl (Yld.pure rfl) ?_
  refine RL.op (.yes rfl rfl rfl) rfl rfl (Does.slice1 u35 i3 rfl rfl rfl rfl rfl) ?_
  rintro _ w9 ⟨b36, rfl, hn36⟩
  have hr9 := hr5.mod ((hg6.trans hg68).trans hn36.grow) (fun _ _ h => h)
  refine RL.op (.yes rfl rfl rfl) rfl rfl (Does.call rfl e27 (sameInts_ok No [1] [1] _ _ _ (Sl.own hr9 (fun _ _ h => h)) (Sl.new hn36 1 1 rfl (by omega) (fun h => h)))) ?_
  rintro _ w10 ⟨rfl, hg10⟩
  have hg810 := hn36.grow.trans hg10
  have hB10 := hB8.mod hg810 (fun h => h)
  iterate 2 refine RL.p rfl rfl ?_
  refine RL.knownT (d := 39) rfl rfl (by simp) ?_
  iterate 2 refine RL.q (.yes rfl rfl rfl) rfl rfl (Yld.pure rfl) ?_
  iterate 2 refine RL.p rfl rfl ?_
  refine RL.knownT (d := 43) rfl rfl (rfl) ?_
  refine RL.q (.yes rfl rfl rfl) rfl rfl (Yld.pure rfl) ?_
  iterate 2 refine RL.p rfl rfl ?_
  refine RL.knownT (d := 46) rfl rfl (rfl) ?_
  refine RL.q (.yes rfl rfl rfl) rfl rfl (Yld.fieldAddr fo41_3 rfl) ?_
  refine RL.q (.yes rfl rfl rfl) rfl rfl (Yld.load p22 rfl (at1 (hB10.cell rfl))) ?_
  refine RL.q (.yes rfl rfl rfl) rfl rfl (Yld.pure rfl) ?_
  iterate 2 refine RL.p rfl rfl ?_
  refine RL.knownT (d := 51) rfl rfl (rfl) ?_
  refine RL.q (.yes rfl rfl rfl) rfl rfl (Yld.fieldAddr fo41_1 rfl) ?_
  refine RL.q (.yes rfl rfl rfl) rfl rfl (Yld.load p3 rfl (at1 (hB10.cell rfl))) ?_
  refine RL.q (.yes rfl rfl rfl) rfl rfl (Yld.pure rfl) ?_
  iterate 2 refine RL.p rfl rfl ?_
  refine RL.knownT (d := 56) rfl rfl (rfl) ?_
  refine RL.q (.yes rfl rfl rfl) rfl rfl (Yld.pure rfl) ?_
  have hs10 := hg810.size
  refine RL.op (.yes rfl rfl rfl) rfl rfl (Does.call rfl e18 (sweepZ_ok _ p sC _ _ (hz8.grow hg810) sC_ok 6)) ?_
  rintro u12 w12 ⟨O12, ids12, hr12, hf12, hp12, hz12, hm12, hO12, _⟩
  obtain ⟨ad12, c12, rfl⟩ := hr12.slice
  have hi12 : ids12 = [] := List.Perm.eq_nil (hp12.trans (by exact List.Perm.nil))
  subst hi12
  refine RL.q (.yes rfl rfl rfl) rfl rfl (Yld.lenSl u35 rfl) ?_
  refine RL.q (.yes rfl rfl rfl) rfl rfl (Yld.pure rfl) ?_
  iterate 2 refine RL.p rfl rfl ?_
  refine RL.knownT (d := 62) rfl rfl (rfl) ?_
  refine RL.q (.yes rfl rfl rfl) rfl rfl (Yld.pure rfl) ?_
  have hs12 := hm12.size
  have hF12 : ∀ b, O12 b → w.heap.size ≤ b := fun b e => (hO12 b e).elim (hF5 b) (fun e => by omega)
  refine RL.op (.yes rfl rfl rfl) rfl rfl (Does.call rfl e18 (sweepZ_ok _ p (sweptZ sC 6) _ _ hz12 (sC_ok.swept 6) 7)) ?_
  rintro u13 w13 ⟨O13, ids13, hr13, hf13, hp13, hz13, hm13, hO13, _⟩
  have hi13 : ids13 = [1] := List.perm_singleton.1 (hp13.trans (by exact List.Perm.refl [1]))
  subst hi13
  refine RL.op (.yes rfl rfl rfl) rfl rfl (Does.slice1 u35 i3 rfl rfl rfl rfl rfl) ?_
  rintro _ w14 ⟨b65, rfl, hn65⟩
  refine RL.op (.yes rfl rfl rfl) rfl rfl (Does.call rfl e27 (sameInts_ok No [1] [1] _ _ _ (Sl.own (hr13.mod hn65.grow (fun _ _ h => h)) (fun _ _ h => h)) (Sl.new hn65 1 1 rfl (by omega) (fun h => h)))) ?_
  rintro _ w15 ⟨rfl, hg15⟩
  iterate 2 refine RL.p rfl rfl ?_
  refine RL.knownT (d := 68) rfl rfl (by simp) ?_
  refine RL.q (.yes rfl rfl rfl) rfl rfl (Yld.pure rfl) ?_
  refine RL.op (.yes rfl rfl rfl) rfl rfl (Does.call rfl e13 (lenZ_ok _ p _ _ _ (hz13.grow (hn65.grow.trans hg15)))) ?_
  rintro _ _ ⟨rfl, rfl⟩
  refine RL.q (.yes rfl rfl rfl) rfl rfl (Yld.pure rfl) ?_
  iterate 2 refine RL.p rfl rfl ?_
  refine RL.done ?_
  refine RK.ret_of Tryz.func14 (res1 rfl rfl) ?_ _
  exact ⟨_, rfl, rfl, ((((hg05.trans (hg6.trans hg68)).trans hg810).then hm12 (fun b hb e => by have := hF5 b e; omega)).then hm13 (fun b hb e => by have := hF12 b e; omega)).trans (hn65.grow.trans hg15)⟩
end Go.Proofs.YtbcbfjnlnmhpbaaGreat
set_option linter.unusedVariables false
set_option linter.unusedSimpArgs false
set_option maxHeartbeats 3200000
set_option maxRecDepth 100000
namespace Go.Proofs.YtbcbfjnlnmhpbaaGreat
open Go Go.X
def toldP (now : Int) (a : Slz) : Slz × Int := (a, stateS now a.start a.stop)
def wantZ (now st : Int) (a : Slz) : Bool := decide (st = 0) || decide (stateS now a.start a.stop = st)
def listZ (now st : Int) (l : List Slz) : List (Slz × Int) := (l.filter (wantZ now st)).map (toldP now)
theorem listZ_len (now st : Int) (l : List Slz) : (listZ now st l).length ≤ l.length := by
  unfold listZ
  rw [List.length_map]
  exact List.length_filter_le _ _
theorem listZ_snoc (now st : Int) {al : List Sil} {k : Nat} {s : Sil} (hs : al[k]? = some s) : listZ now st ((al.take (k + 1)).map pubZ) = listZ now st ((al.take k).map pubZ) ++ (if wantZ now st (pubZ s) = true then [toldP now (pubZ s)] else []) := by
  unfold listZ
  rw [List.take_add_one, hs, List.map_append, List.filter_append, List.map_append]
  congr 1
  show List.map _ (List.filter _ [pubZ s]) = _
  by_cases h : wantZ now st (pubZ s) = true
  · rw [if_pos h, List.filter_cons_of_pos h]; rfl
  · rw [if_neg h, List.filter_cons_of_neg h]; rfl
def pubT (a : Sil) : Slz × Int := (pubZ a, a.ver)
theorem listRow_ok (w : World) (p : Nat) (s : SS) (O M : Nat → Prop) (h : ZStore O M w p s) (g : Gz s) (now st : Int) (hms : ∀ a ∈ s.sl, a.ms.length ≤ 1000000) :
    Fx Tryz.prog 17 [pp p, .int .u64 now, .int .i64 st] w (fun u w' => (∃ tl : List Sil, tl.map pubT = listZ now st s.sl ∧ Row w' 41 8 u tl.length (tl.flatMap silC) ∧ ∀ a ∈ tl, Row w' 108 3 a.mv a.ms.length (a.ms.flatMap mtC)) ∧ Fresh w.heap.size u ∧ Grow w w') := by
  obtain ⟨pl, qu, vp, vq, vs, al, q, hO, h⟩ := h
  have hle := g.le
  have hal := h.len
  have hals := h.als
  have hsl := Sl.own (M := No) h.row (fun _ _ h => h)
  have hsms := h.sms
  have hblk := h.blk
  obtain ⟨ads, cs, rfl⟩ := h.row.slice
  clear h
  refine enter Tryz.func17 rfl rfl rfl _ (Pick.sub (l := [0, 1, 2]) (.cons rfl (.cons rfl (.cons rfl .nil)))) ?_
  refine RK.seq ?_
  refine RK.region ?_
  refine RL.p rfl rfl ?_
  refine RL.done ?_
  refine RK.seq ?_
  refine RK.region ?_
  refine RL.p rfl rfl ?_
  refine RL.done ?_
  iterate 2 refine RK.seq ?_
  refine RK.region ?_
  iterate 2 refine RL.p rfl rfl ?_
  refine RL.q (.free rfl) rfl rfl (Yld.fieldAddr fo101_3 rfl) ?_
  refine RL.q (.free rfl) rfl rfl (Yld.load p44 rfl (at1 (hblk.cell rfl))) ?_
  refine RL.q (.free rfl) rfl rfl (Yld.lenSl u44 rfl) ?_
  refine RL.p rfl rfl ?_
  refine RL.done ?_
  refine RK.block ?_
  refine RK.loop (fun s : Nat × Value => [(1, .int .u64 now), (2, .int .i64 st), (7, s.2), (13, .slice ads al.length cs), (14, .int .i64 (al.length : Int)), (15, .int .i64 (s.1 : Int))]) (fun s w' => (∃ tl : List Sil, tl.map pubT = listZ now st ((al.take s.1).map pubZ) ∧ Row w' 41 8 s.2 tl.length (tl.flatMap silC) ∧ ∀ a ∈ tl, Row w' 108 3 a.mv a.ms.length (a.ms.flatMap mtC)) ∧ Fresh w.heap.size s.2 ∧ Grow w w' ∧ s.1 ≤ al.length) (fun s => al.length - s.1) (0, .slice none 0 0) ⟨rfl, rfl, rfl, rfl, rfl, rfl, trivial⟩ ⟨⟨[], by simp [listZ], Row.nil _ _ _, fun a h => (by cases h)⟩, fun b e => by simp [Value.ownBlock] at e, Mod.refl _ _, by simp⟩ (fun s w' hI ih => ?_)
  obtain ⟨k, u⟩ := s
  obtain ⟨⟨tl, htl, hr, hsh⟩, hf, hg, hk⟩ := hI
  simp only at hr hf hk htl
  refine RK.seq ?_
  refine RK.region ?_
  refine RL.p rfl rfl ?_
  refine RL.done ?_
  refine RK.seq ?_
  first | refine RK.condD rfl (fun h16 => ?_) (fun h16 => ?_) | refine RK.condN rfl (fun h16 => ?_) (fun h16 => ?_) | refine RK.cond rfl (fun h16 => ?_) (fun h16 => ?_)
  · obtain ⟨s, hs⟩ : ∃ s, al[k]? = some s := ⟨al[k]'(by omega), List.getElem?_eq_getElem (by omega)⟩
    obtain ⟨b1, o1, c1', he1, _, _, hc1⟩ := hsl.elem silC_len hs
    cases he1
    have hsm := (hsms s (List.mem_of_getElem? hs)).mod (Mod.any' hg)
    have hsn := listZ_snoc now st hs
    have hml := hms (pubZ s) (by rw [← hals]; exact List.mem_map.2 ⟨s, List.mem_of_getElem? hs, rfl⟩)
    have hsl1 := listZ_len now st ((al.take k).map pubZ)
    have hsl2 : ((al.take k).map pubZ).length ≤ k := by simp; omega
    have hsl3 : tl.length ≤ k := by rw [← htl, List.length_map] at hsl1; omega
    refine RK.skip ?_
    refine RK.seq ?_
    refine RK.block ?_
    refine RK.seq ?_
    refine RK.region ?_
    refine RL.q (.free rfl) rfl rfl (Yld.indexAddrN u44 i41 rfl rfl (by omega)) ?_
    refine RL.q (.free rfl) rfl rfl (Yld.loadN (cs := silC s) a41 rfl (atN (fun q z hq => hg.cell (hc1 q z hq) (fun h => h)))) ?_
    refine RL.op (.free rfl) rfl rfl (Does.alloc i41) ?_
    rintro _ w1 ⟨b9, rfl, hn9⟩
    refine RL.op' (.free rfl) rfl (Does.storeN i41 rfl rfl rfl (silC_one hsm) hn9.blk (Nat.le_refl 8)) ?_
    rintro _ w2 ⟨hb2, hm2, _⟩
    have hg2' : Grow w' w2 := hn9.grow.then hm2 (fun y hy e => by have e' : y = b9 := e; have := hn9.at_; omega)
    have hB2 : Blk w2 b9 41 (silC s) := hb2
    refine RL.done ?_
    refine RK.seq ?_
    refine RK.region ?_
    refine RL.p rfl rfl ?_
    refine RL.q (.free rfl) rfl rfl (Yld.loadN (cs := silC s) a41 rfl (atN (blk0' hB2))) ?_
    refine RL.op (.free rfl) rfl rfl (Does.call rfl e55 (toldZ_ok M now s _ (hsm.mod (Mod.any' hg2')) hml)) ?_
    rintro _ w3 ⟨v3, rfl, hr3, hf3, hg3⟩
    obtain ⟨ad3, c3, rfl⟩ := hr3.slice
    refine RL.op' (.free rfl) rfl (Does.storeN i41 rfl rfl rfl rfl (hB2.mod hg3 (fun h => h)) (Nat.le_refl 8)) ?_
    rintro _ w4 ⟨hb4, hm4, _⟩
    have hg34 : Grow w' w4 := (hg2'.trans hg3).then hm4 (fun y hy e => by have e' : y = b9 := e; have := hn9.at_; omega)
    obtain ⟨t, ht⟩ : ∃ t : Sil, t = { s with ver := stateS now s.start s.stop, mv := .slice ad3 s.ms.length c3 } := ⟨_, rfl⟩
    have hB4 : Blk w4 b9 41 (silC t) := by subst ht; exact hb4
    have hg4 := hg.trans hg34
    have hr4 := hr.mod hg34 (fun _ _ h => h)
    have hrt4 : Row w4 108 3 t.mv t.ms.length (t.ms.flatMap mtC) := by subst ht; exact hr3.mod hm4 (fun x e1 e2 => by have e' : x = b9 := e2; exact (hr3.ty e1).ne (hB2.mod hg3 (fun h => h)).ty rfl e')
    have hsh4 : ∀ a ∈ tl, Row w4 108 3 a.mv a.ms.length (a.ms.flatMap mtC) := fun a ha => (hsh a ha).mod hg34 (fun _ _ h => h)
    have hpt : pubT t = toldP now (pubZ s) := by subst ht; rfl
    have hz4 := hg4.size
    refine RL.done ?_
    refine RK.seq ?_
    refine RK.region ?_
    iterate 3 refine RL.p rfl rfl ?_
    first | refine RL.splitD (d := 24) rfl rfl (fun h23 => ?_) (fun h23 => ?_) | refine RL.splitN (d := 24) rfl rfl (fun h23 => ?_) (fun h23 => ?_) | refine RL.split (d := 24) rfl rfl (fun h23 => ?_) (fun h23 => ?_)
    · have hwant : wantZ now st (pubZ s) = true := by unfold wantZ; rw [decide_eq_true h23]; rfl
      have hone : ((Value.agg (silC t).toArray).cells.toList.all fun x => x.oneCell') = true := by subst ht; rfl
      iterate 4 refine RL.no (.no rfl rfl rfl rfl) rfl rfl ?_
      refine RL.p rfl rfl ?_
      refine RL.done ?_
      refine RK.condT rfl ?_
      refine RK.region ?_
      refine RL.p rfl rfl ?_
      refine RL.q (.free rfl) rfl rfl (Yld.loadN (cs := silC t) a41 rfl (atN (blk0' hB4))) ?_
      refine RL.op (.free rfl) rfl rfl (Does.slice1 u44 i41 rfl rfl rfl rfl rfl) ?_
      rintro _ w5 ⟨b32, rfl, hn32⟩
      refine RL.op (.free rfl) rfl rfl (Does.append u44 i41 rfl rfl rfl rfl rfl (hr4.mod hn32.grow (fun _ _ h => h)) (Sl.new hn32 8 1 rfl (by omega) (fun h => h)) (hone) (by omega)) ?_
      rintro z8 w8 ⟨hr8, hm8, hu8⟩
      have hs5 := hn32.grow.size
      refine RL.p rfl rfl ?_
      refine RL.done ?_
      refine RK.inBlock ?_
      refine RK.region ?_
      refine RL.p rfl rfl ?_
      refine RL.re (d := 34) rfl rfl (succ_i64 (by omega)) ?_
      refine RL.p rfl rfl ?_
      refine RL.done ?_
      exact RK.back (ih (k + 1, z8) _ ⟨⟨tl ++ [t], by
          simp only
          rw [hsn, if_pos hwant, List.map_append, htl, List.map_singleton, hpt], by
          rw [List.length_append, List.flatMap_append, List.flatMap_singleton]
          simpa [Value.cells] using hr8, fun a ha => by
          rcases List.mem_append.1 ha with ha | ha
          · have h1 := (hsh4 a ha).mod hn32.grow (fun _ _ h => h)
            exact h1.mod hm8 (fun x e1 e2 => (h1.ty e1).ne ((hr4.mod hn32.grow (fun _ _ h => h)).ty e2) rfl rfl)
          · have e := List.mem_singleton.1 ha
            have h1 := hrt4.mod hn32.grow (fun _ _ h => h)
            rw [e]
            exact h1.mod hm8 (fun x e1 e2 => (h1.ty e1).ne ((hr4.mod hn32.grow (fun _ _ h => h)).ty e2) rfl rfl)⟩, fun b e => by
          rcases hu8 with h1 | h1
          · exact hf b (h1 ▸ e)
          · rw [h1] at e; cases e; omega, (hg4.trans hn32.grow).then hm8 (fun b hb e => by have := hf b e; omega), by simp only; omega⟩ (by simp only; omega)) ⟨rfl, rfl, rfl, rfl, rfl, rfl, trivial⟩
    · refine RL.q (.yes rfl rfl rfl) rfl rfl (Yld.fieldAddr fo41_1 rfl) ?_
      refine RL.q (.yes rfl rfl rfl) rfl rfl (Yld.load p3 rfl (at1 (hB4.cell (by subst ht; rfl)))) ?_
      iterate 2 refine RL.q (.yes rfl rfl rfl) rfl rfl (Yld.pure rfl) ?_
      refine RL.p rfl rfl ?_
      refine RL.done ?_
      first | refine RK.condD rfl (fun h29 => ?_) (fun h29 => ?_) | refine RK.condN rfl (fun h29 => ?_) (fun h29 => ?_) | refine RK.cond rfl (fun h29 => ?_) (fun h29 => ?_)
      · have hwant : wantZ now st (pubZ s) = true := by unfold wantZ pubZ; simp only; rw [decide_eq_true h29]; simp
        have hone : ((Value.agg (silC t).toArray).cells.toList.all fun x => x.oneCell') = true := by subst ht; rfl
        refine RK.region ?_
        refine RL.p rfl rfl ?_
        refine RL.q (.free rfl) rfl rfl (Yld.loadN (cs := silC t) a41 rfl (atN (blk0' hB4))) ?_
        refine RL.op (.free rfl) rfl rfl (Does.slice1 u44 i41 rfl rfl rfl rfl rfl) ?_
        rintro _ w5 ⟨b32, rfl, hn32⟩
        refine RL.op (.free rfl) rfl rfl (Does.append u44 i41 rfl rfl rfl rfl rfl (hr4.mod hn32.grow (fun _ _ h => h)) (Sl.new hn32 8 1 rfl (by omega) (fun h => h)) (hone) (by omega)) ?_
        rintro z8 w8 ⟨hr8, hm8, hu8⟩
        have hs5 := hn32.grow.size
        refine RL.p rfl rfl ?_
        refine RL.done ?_
        refine RK.inBlock ?_
        refine RK.region ?_
        refine RL.p rfl rfl ?_
        refine RL.re (d := 34) rfl rfl (succ_i64 (by omega)) ?_
        refine RL.p rfl rfl ?_
        refine RL.done ?_
        exact RK.back (ih (k + 1, z8) _ ⟨⟨tl ++ [t], by
            simp only
            rw [hsn, if_pos hwant, List.map_append, htl, List.map_singleton, hpt], by
            rw [List.length_append, List.flatMap_append, List.flatMap_singleton]
            simpa [Value.cells] using hr8, fun a ha => by
            rcases List.mem_append.1 ha with ha | ha
            · have h1 := (hsh4 a ha).mod hn32.grow (fun _ _ h => h)
              exact h1.mod hm8 (fun x e1 e2 => (h1.ty e1).ne ((hr4.mod hn32.grow (fun _ _ h => h)).ty e2) rfl rfl)
            · have e := List.mem_singleton.1 ha
              have h1 := hrt4.mod hn32.grow (fun _ _ h => h)
              rw [e]
              exact h1.mod hm8 (fun x e1 e2 => (h1.ty e1).ne ((hr4.mod hn32.grow (fun _ _ h => h)).ty e2) rfl rfl)⟩, fun b e => by
            rcases hu8 with h1 | h1
            · exact hf b (h1 ▸ e)
            · rw [h1] at e; cases e; omega, (hg4.trans hn32.grow).then hm8 (fun b hb e => by have := hf b e; omega), by simp only; omega⟩ (by simp only; omega)) ⟨rfl, rfl, rfl, rfl, rfl, rfl, trivial⟩
      · have hnot : wantZ now st (pubZ s) = false := by unfold wantZ pubZ; simp only; rw [decide_eq_false h23, decide_eq_false h29]; rfl
        refine RK.skip ?_
        refine RK.inBlock ?_
        refine RK.region ?_
        refine RL.p rfl rfl ?_
        refine RL.re (d := 34) rfl rfl (succ_i64 (by omega)) ?_
        refine RL.p rfl rfl ?_
        refine RL.done ?_
        exact RK.back (ih (k + 1, u) _ ⟨⟨tl, by simp only; rw [hsn, if_neg (by simp [hnot]), List.append_nil]; exact htl, hr4, hsh4⟩, hf, hg4, by simp only; omega⟩ (by simp only; omega)) ⟨rfl, rfl, rfl, rfl, rfl, rfl, trivial⟩
  · have ek : al.take k = al := List.take_of_length_le (by omega)
    rw [ek, hals] at htl
    refine RK.exit rfl ?_
    refine RK.seq ?_
    refine RK.region ?_
    iterate 2 refine RL.p rfl rfl ?_
    refine RL.done ?_
    refine RK.ret_of Tryz.func17 (res1 rfl rfl) ?_ _
    exact ⟨_, rfl, ⟨tl, htl, hr, hsh⟩, hf, hg⟩
theorem listStore_ok (w : World) (p : Nat) (s : SS) (O M : Nat → Prop) (h : ZStore O M w p s) (g : Gz s) (now st : Int) (hms : ∀ a ∈ s.sl, a.ms.length ≤ 1000000) :
    Fx Tryz.prog 17 [pp p, .int .u64 now, .int .i64 st] w (fun u w' => (∃ tl : List Sil, tl.map pubT = listZ now st s.sl ∧ Row w' 41 8 u tl.length (tl.flatMap silC) ∧ ∀ a ∈ tl, ∃ ad n c, a.mv = .slice ad n c) ∧ Fresh w.heap.size u ∧ Grow w w') := by
  refine Calls.mono (listRow_ok w p s O M h g now st hms) ?_
  rintro e w' ⟨u, he, ⟨tl, h1, h2, h3⟩, h4⟩
  exact ⟨u, he, ⟨tl, h1, h2, fun a ha => by obtain ⟨ad, c, e⟩ := (h3 a ha).slice; exact ⟨ad, _, c, e⟩⟩, h4⟩
end Go.Proofs.YtbcbfjnlnmhpbaaGreat
set_option linter.unusedVariables false
set_option linter.unusedSimpArgs false
set_option maxHeartbeats 3200000
set_option maxRecDepth 100000
namespace Go.Proofs.YtbcbfjnlnmhpbaaGreat
open Go Go.X
structure WI (r : Int) (k : Nat) (s : SS) : Prop where
  g : Gz s
  ret : s.ret = r
  most : s.most = 12
  last : s.last = (s.sl.length : Int)
  len : s.sl.length ≤ k
  ms : ∀ a ∈ s.sl, a.ms = [mP]
theorem fitsP' (now a b : Int) : fitsS now a b [mP] = if spanS now a b = true then 0 else 8 := by
  unfold fitsS
  rw [mP_any, if_neg (by decide)]
def pushS (s : SS) (a b : Int) : SS := { s with last := s.last + 1, sl := s.sl ++ [⟨s.last + 1, a, b, [mP], bdAll⟩] }
theorem makeP_yes {s : SS} {now a b : Int} (hk : (s.sl.length : Int) < s.most) (he : spanS now a b = true) : makeS s now a b [mP] bdAll = (pushS s a b, s.last + 1, 0) := by
  have h1 : fitsS now a b [mP] = 0 := by rw [fitsP', if_pos he]
  unfold makeS
  rw [mP_right, if_neg (by decide), h1, if_neg (by decide), if_neg (by omega)]
  rfl
theorem makeP_no {s : SS} {now a b : Int} (he : spanS now a b = false) : makeS s now a b [mP] bdAll = (s, 0, 8) := by
  have h1 : fitsS now a b [mP] = 8 := by rw [fitsP', if_neg (by rw [he]; decide)]
  unfold makeS
  rw [mP_right, if_neg (by decide), h1]
  rfl
theorem makeP_full {s : SS} {now a b : Int} (hk : ¬ (s.sl.length : Int) < s.most) (he : spanS now a b = true) : makeS s now a b [mP] bdAll = (s, 0, 10) := by
  have h1 : fitsS now a b [mP] = 0 := by rw [fitsP', if_pos he]
  unfold makeS
  rw [mP_right, if_neg (by decide), h1, if_neg (by decide), if_pos (by omega)]
theorem WI.yes {r : Int} {k : Nat} {s : SS} (h : WI r k s) (hk : k < 12) {e : Int} (he0 : 0 ≤ e) (he : spanS 0 0 e = true) : WI r (k + 1) (pushS s 0 e) := by
  have hl := h.len
  have hm := h.most
  have hla := h.last
  have hg := h.g.make 0 0 e he0 [mP] bdAll
  rw [makeP_yes (by omega) he] at hg
  refine ⟨hg, h.ret, h.most, ?_, ?_, fun a ha => ?_⟩
  · simp only [pushS, List.length_append, List.length_singleton]; omega
  · simp only [pushS, List.length_append, List.length_singleton]; omega
  · rcases List.mem_append.1 ha with ha | ha
    · exact h.ms a ha
    · rw [List.mem_singleton] at ha; rw [ha]
theorem WI.up {r : Int} {k : Nat} {s : SS} (h : WI r k s) : WI r (k + 1) s := ⟨h.g, h.ret, h.most, h.last, by have := h.len; omega, h.ms⟩
theorem span00 (e : Int) : spanS 0 0 e = (decide (0 < e) && decide (e ≤ 1099511627776)) := by
  unfold spanS
  by_cases h : 0 < e <;> simp [h]
def stayW (now : Int) (s : SS) : List Int := (s.sl.filter fun a => !dueZ s.ret now a).map (·.id)
theorem stayW_push (now : Int) (s : SS) (a b : Int) : stayW now (pushS s a b) = stayW now s ++ (if now < b + s.ret then [s.last + 1] else []) := by
  unfold stayW pushS dueZ
  rw [List.filter_append, List.map_append]
  congr 1
  by_cases h : now < b + s.ret
  · rw [if_pos h, List.filter_cons_of_pos (by simpa using h)]; rfl
  · rw [if_neg h, List.filter_cons_of_neg (by simpa using h)]; rfl
theorem stayW_len (now : Int) (s : SS) : (stayW now s).length ≤ s.sl.length := by unfold stayW; rw [List.length_map]; exact List.length_filter_le _ _
theorem filter_two {α : Type} (p : α → Bool) : ∀ l : List α, (l.filter p).length + (l.filter fun a => !p a).length = l.length
  | [] => rfl
  | x :: l => by
    have ih := filter_two p l
    by_cases h : p x = true
    · rw [List.filter_cons_of_pos h, List.filter_cons_of_neg (by simp [h])]; simp only [List.length_cons]; omega
    · rw [List.filter_cons_of_neg h, List.filter_cons_of_pos (by simpa using h)]; simp only [List.length_cons]; omega
theorem ris_inj {β : Type} {l : List β} {f : β → Int} (h : Ris (l.map f)) {a b : β} (ha : a ∈ l) (hb : b ∈ l) (e : f a = f b) : a = b := by
  obtain ⟨i, hi⟩ := List.getElem?_of_mem ha
  obtain ⟨k, hk⟩ := List.getElem?_of_mem hb
  have hil := (List.getElem?_eq_some_iff.1 hi).1
  have hkl := (List.getElem?_eq_some_iff.1 hk).1
  rcases Nat.lt_trichotomy i k with h1 | h1 | h1
  · have h3 := List.pairwise_iff_getElem.1 h i k (by simpa using hil) (by simpa using hkl) h1
    simp only [List.getElem_map, (List.getElem?_eq_some_iff.1 hi).2, (List.getElem?_eq_some_iff.1 hk).2] at h3
    omega
  · subst h1; rw [hi] at hk; cases hk; rfl
  · have h3 := List.pairwise_iff_getElem.1 h k i (by simpa using hkl) (by simpa using hil) h1
    simp only [List.getElem_map, (List.getElem?_eq_some_iff.1 hi).2, (List.getElem?_eq_some_iff.1 hk).2] at h3
    omega
theorem gone_len {now : Int} {s : SS} {ids : List Int} (h : ids.Perm ((s.sl.filter (dueZ s.ret now)).map (·.id))) : ids.length + (stayW now s).length = s.sl.length := by
  rw [h.length_eq]
  unfold stayW
  rw [List.length_map, List.length_map]
  exact filter_two _ _
theorem gone_not {now : Int} {s : SS} (g : Gz s) {ids : List Int} (h : ids.Perm ((s.sl.filter (dueZ s.ret now)).map (·.id))) : ∀ x ∈ stayW now s, x ∉ ids := by
  intro x hx hi
  obtain ⟨a, ha, rfl⟩ := List.mem_map.1 hx
  obtain ⟨b, hb, e⟩ := List.mem_map.1 (h.mem_iff.1 hi)
  obtain ⟨ha1, ha2⟩ := List.mem_filter.1 ha
  obtain ⟨hb1, hb2⟩ := List.mem_filter.1 hb
  obtain rfl := ris_inj (f := fun a : Slz => a.id) g.ris ha1 hb1 e.symm
  rw [hb2] at ha2
  cases ha2
theorem swept_len (now : Int) (s : SS) : (sweptZ s now).sl.length = (stayW now s).length := by
  unfold stayW sweptZ
  rw [List.length_map]
theorem swept_none {now : Int} {s : SS} {ids : List Int} (h : ids.Perm (((sweptZ s now).sl.filter (dueZ (sweptZ s now).ret now)).map (·.id))) : ids = [] := by
  have e : (sweptZ s now).sl.filter (dueZ (sweptZ s now).ret now) = [] := by
    unfold sweptZ
    simp only
    rw [List.filter_filter, List.filter_eq_nil_iff]
    intro a _
    cases dueZ s.ret now a <;> decide
  rw [e] at h
  exact h.eq_nil
theorem swept_list (now : Int) (s : SS) : (listZ now 0 (sweptZ s now).sl).map (fun t : Slz × Int => t.1.id) = stayW now s := by
  unfold listZ stayW sweptZ
  simp only
  rw [List.map_map, List.filter_eq_self.2 (fun a _ => by unfold wantZ; rfl)]
  rfl
theorem sP_ok (r : Int) (hr : 1 ≤ r ∧ r ≤ 1048576) : WI r 0 ⟨r, 12, 0, []⟩ := ⟨⟨hr.1, hr.2, Int.le_refl 12, (show (0 : Int) ≤ 12 by omega), List.Pairwise.nil, Int.le_refl 0, fun a h => (by cases h), fun a h => (by cases h)⟩, rfl, rfl, rfl, Nat.le_refl _, fun a h => (by cases h)⟩
end Go.Proofs.YtbcbfjnlnmhpbaaGreat
