/- The document's own rank: a list of values, a store of alerts. -/
import Derived.Test.YtffbcfcoddacmaaGreatHd
set_option linter.unusedVariables false
set_option linter.unusedSimpArgs false
set_option maxHeartbeats 1000000
set_option maxRecDepth 100000
namespace Go.Proofs.YtffbcfcoddacmaaGreat
open Go Go.X
theorem laidN {w : World} {t : TypeId} {u : Value} {L R : List Nat} {j : Nat} {x : Nat} (hj : j ≤ L.length) (hI : R = L.take j ++ x :: L.drop j) (h : Row w t 1 u (0 + j + 1 + (L.length - j)) (([] ++ nats (L.take j)) ++ (Value.int .i64 (x : Int)).cells.toList ++ nats (L.drop j))) : Row w t 1 u R.length (nats R) := by
  subst hI
  have e1 : ([] ++ nats (L.take j)) ++ (Value.int .i64 (x : Int)).cells.toList ++ nats (L.drop j) = nats (L.take j ++ x :: L.drop j) := by simp [Value.cells]
  have e2 : 0 + j + 1 + (L.length - j) = (L.take j ++ x :: L.drop j).length := by simp; omega
  rw [e1, e2] at h
  exact h
theorem allOne_nats (xs : List Nat) : ((nats xs).all fun x => x.oneCell') = true := by rw [List.all_eq_true]; intro u hu; obtain ⟨x, _, rfl⟩ := List.mem_map.1 hu; rfl
theorem rrank_ok (M : Nat → Prop) (vs : List Nat) (hlt : ∀ v ∈ vs, v < 18446744073709551616) (v : Value) (w : World) (hv : Sl M w v 1 vs.length (flts vs)) (hb : vs.length ≤ 1000000) :
    Fx Tryz.prog 95 [v] w (fun u w' => Row w' 3 1 u vs.length (nats (rankOf vs)) ∧ Fresh w.heap.size u ∧ Grow w w') := by
  obtain ⟨ad, c, rfl⟩ := hv.shape
  have hget : ∀ x, x < vs.length → vs[x]? = some (vs.getD x 0) ∧ vs.getD x 0 < 18446744073709551616 := fun x hx => by
    have h1 : vs[x]? = some (vs[x]) := List.getElem?_eq_getElem hx
    have h2 : vs.getD x 0 = vs[x] := by simp [List.getD, h1]
    rw [h2]
    exact ⟨h1, hlt _ (List.getElem_mem hx)⟩
  have hcell : ∀ x, x < vs.length → ∀ w2, Grow w w2 → ∃ b o, ad = some ⟨b, o, none⟩ ∧ w2.cell? ⟨b, o + x * 1, none⟩ = some (.float .f64 (vs.getD x 0)) := fun x hx w2 hg => by
    obtain ⟨b1, o1, c1', he1, _, _, hc1⟩ := hv.elem1 (k := x) (u := .float .f64 (vs.getD x 0)) (by rw [List.getElem?_map, (hget x hx).1]; rfl)
    cases he1
    exact ⟨b1, o1, rfl, hg.cell (hc1 x _ (by rw [List.getElem?_map, (hget x hx).1]; rfl)) (fun h => h)⟩
  refine enter Tryz.func95 rfl rfl rfl _ (Pick.sub (l := [0]) (.cons rfl .nil)) ?_
  refine RK.seq ?_
  refine RK.region ?_
  refine RL.p rfl rfl ?_
  refine RL.done ?_
  refine RK.seq ?_
  refine RK.region ?_
  refine RL.p rfl rfl ?_
  refine RL.done ?_
  iterate 2 refine RK.seq ?_
  refine RK.region ?_
  refine RL.p rfl rfl ?_
  refine RL.done ?_
  refine RK.block ?_
  refine RK.loop (fun s : Nat × Value => [(0, .slice ad vs.length c), (3, s.2), (4, .int .i64 (s.1 : Int))]) (fun s w' => Row w' 3 1 s.2 s.1 (nats (isort (ahead vs) (List.range s.1))) ∧ Fresh w.heap.size s.2 ∧ Grow w w' ∧ s.1 ≤ vs.length) (fun s => vs.length - s.1) (0, .slice none 0 0) ⟨rfl, rfl, rfl, trivial⟩ ⟨by simpa [isort] using Row.nil _ _ _, fun b hb => by simp [Value.ownBlock] at hb, Mod.refl _ _, by omega⟩ (fun s w' hI ih => ?_)
  obtain ⟨i, u⟩ := s
  obtain ⟨hr, hfr, hg, hi⟩ := hI
  simp only at hr hfr hi
  have hLl : (isort (ahead vs) (List.range i)).length = i := by rw [isort_len]; simp
  iterate 2 refine RK.seq ?_
  refine RK.region ?_
  iterate 2 refine RL.p rfl rfl ?_
  refine RL.q (.free rfl) rfl rfl (Yld.lenSl u148 rfl) ?_
  refine RL.p rfl rfl ?_
  refine RL.done ?_
  first | refine RK.condD rfl (fun h9 => ?_) (fun h9 => ?_) | refine RK.condN rfl (fun h9 => ?_) (fun h9 => ?_) | refine RK.cond rfl (fun h9 => ?_) (fun h9 => ?_)
  · have hLlt : ∀ y ∈ isort (ahead vs) (List.range i), y < vs.length := fun y hy => by have := List.mem_range.1 ((isort_perm _ _).mem_iff.1 hy); omega
    have hsn : isort (ahead vs) (List.range (i + 1)) = insE (ahead vs) (isort (ahead vs) (List.range i)) i := by rw [List.range_succ, isort_snoc]
    generalize hLe : isort (ahead vs) (List.range i) = L at *
    obtain ⟨adu, cu, rfl, hcu⟩ := hr.cap
    have hsu : Sl No w' (.slice adu i cu) 1 i (nats L) := Sl.own hr (fun _ _ h => h)
    refine RK.skip ?_
    refine RK.seq ?_
    refine RK.block ?_
    refine RK.seq ?_
    refine RK.region ?_
    refine RL.p rfl rfl ?_
    refine RL.q (.free rfl) rfl rfl (Yld.lenSl u22 rfl) ?_
    refine RL.p rfl rfl ?_
    refine RL.done ?_
    refine RK.seq ?_
    refine RK.block ?_
    refine RK.loop (fun j : Nat => [(0, .slice ad vs.length c), (3, .slice adu i cu), (4, .int .i64 (i : Int)), (5, .int .i64 (j : Int))]) (fun j w2 => Grow w' w2 ∧ j ≤ i ∧ ∀ y ∈ L.drop j, ahead vs i y = true) (fun j => j) i ⟨rfl, rfl, rfl, rfl, trivial⟩ ⟨Mod.refl _ _, Nat.le_refl _, by rw [← hLl]; simp⟩ (fun j w2 hI2 ih2 => ?_)
    obtain ⟨hg2, hj, hD⟩ := hI2
    have hhi : ∀ w3, Grow w' w3 → Sl No w3 (.slice adu j cu) 1 j (nats (L.take j)) := fun w3 h3 => by have := (hsu.mod h3).take hj; rwa [← List.map_take] at this
    have hlo : ∀ w3, Grow w' w3 → Sl No w3 (.slice (fromAt adu cu j 1) (i - j) (cu - j)) 1 (i - j) (nats (L.drop j)) := fun w3 h3 => by have := (hsu.mod h3).from hj hcu; rwa [← List.map_drop] at this
    iterate 2 refine RK.seq ?_
    refine RK.drawM No [(0, false), (1, false), (2, false), (3, false), (4, false), (5, false), (6, false), (7, false), (8, false), (9, false), (10, false), (11, false), (12, false), (13, false), (14, false), (15, true), (16, false)] [] mixed (by kernel_rfl) ?_
    iterate 3 refine DL.p rfl rfl rfl ?_
    first | refine DL.splitD (d := 16) rfl rfl (fun h15 => ?_) (fun h15 => ?_) | refine DL.splitN (d := 16) rfl rfl (fun h15 => ?_) (fun h15 => ?_) | refine DL.split (d := 16) rfl rfl (fun h15 => ?_) (fun h15 => ?_)
    · obtain ⟨y, hy⟩ : ∃ y, L[j - 1]? = some y := ⟨L[j - 1]'(by omega), List.getElem?_eq_getElem (by omega)⟩
      obtain ⟨b2, o2, c2', he2, _, _, hc2⟩ := hsu.elem1 (k := j - 1) (u := .int .i64 (y : Int)) (by simp [hy])
      cases he2
      have hyn := hLlt y (List.mem_of_getElem? hy)
      obtain ⟨b1, o1, rfl, hcx⟩ := hcell i (by omega) w2 (hg.trans hg2)
      obtain ⟨b1', o1', he3, hcy⟩ := hcell y hyn w2 (hg.trans hg2)
      cases he3
      iterate 2 refine DL.qf rfl (.yes rfl rfl rfl) rfl rfl (Yld.pure rfl) ?_
      refine DL.qf rfl (.yes rfl rfl rfl) rfl rfl (Yld.indexAddrN u148 i23 rfl rfl (by omega)) ?_
      refine DL.q rfl (.yes rfl rfl rfl) rfl rfl rfl (Yld.load p23 rfl (atM (hcx) (fun h => h))) (Mod.drew _ _) ?_
      iterate 4 refine DL.qf rfl (.yes rfl rfl rfl) rfl rfl (Yld.pure rfl) ?_
      refine DL.re (d := 24) rfl rfl (sub_i64 (z := ((j - 1 : Nat) : Int)) (by omega) (by omega) (by omega)) ?_
      refine DL.qf rfl (.yes rfl rfl rfl) rfl rfl (Yld.indexAddrN u22 i3 rfl rfl (by omega)) ?_
      refine DL.q rfl (.yes rfl rfl rfl) rfl rfl rfl (Yld.load p3 rfl (atM (hg2.cell (hc2 (j - 1) (.int .i64 (y : Int)) (by simp [hy])) (fun h => h)) (fun h => h))) (Mod.drew _ _) ?_
      refine DL.qf rfl (.yes rfl rfl rfl) rfl rfl (Yld.indexAddrN u148 i23 rfl rfl (by omega)) ?_
      refine DL.q rfl (.yes rfl rfl rfl) rfl rfl rfl (Yld.load p23 rfl (atM (hcy) (fun h => h))) (Mod.drew _ _) ?_
      refine DL.op rfl (.yes rfl rfl rfl) rfl rfl (Does.call rfl e139 (aheadR_ok _ _ (hget i (by omega)).2 (hget y hyn).2 _)) ?_
      rintro _ _ ⟨rfl, rfl⟩
      refine ⟨Mod.drew _ _, ?_⟩
      refine DL.p rfl rfl rfl ?_
      refine DL.done ?_
      first | refine RK.condD rfl (fun h30 => ?_) (fun h30 => ?_) | refine RK.condN rfl (fun h30 => ?_) (fun h30 => ?_) | refine RK.cond rfl (fun h30 => ?_) (fun h30 => ?_)
      · refine RK.skip ?_
        refine RK.block ?_
        refine RK.region ?_
        iterate 2 refine RL.p rfl rfl ?_
        refine RL.re (d := 32) rfl rfl (sub_i64 (z := ((j - 1 : Nat) : Int)) (by omega) (by omega) (by omega)) ?_
        refine RL.p rfl rfl ?_
        refine RL.done ?_
        refine RK.inBlock ?_
        exact RK.back (ih2 (j - 1) _ ⟨hg2.trans (Mod.drew _ _), by omega, fun z hz => by
            rw [show L.drop (j - 1) = y :: L.drop j by rw [List.drop_eq_getElem_cons (by omega : j - 1 < L.length), show j - 1 + 1 = j by omega, (List.getElem?_eq_some_iff.1 hy).2]] at hz
            rcases List.mem_cons.1 hz with rfl | hz
            · exact decide_eq_true h30
            · exact hD z hz
          ⟩ (by omega)) ⟨rfl, rfl, rfl, rfl, trivial⟩
      · have hpos : pos (ahead vs) i L = j := pos_splitG (by omega) hD (fun z _ hz => by rw [hy] at hz; cases hz; exact decide_eq_false h30)
        have hI : isort (ahead vs) (List.range (i + 1)) = L.take j ++ i :: L.drop j := by rw [hsn, insE, hpos]
        obtain ⟨w9, hw9⟩ : ∃ w9, w9 = w2.drew := ⟨_, rfl⟩
        rw [← hw9]
        have hgr : Grow w' w9 := hw9 ▸ (hg2.trans (Mod.drew _ _))
        have hgd : Grow w' w9.drew := hgr.trans (Mod.drew _ _)
        refine RK.exit rfl ?_
        refine RK.drawF No [(0, false), (1, false), (2, false), (4, false), (7, false), (8, false), (9, false)] 3 5 [(5, true), (6, true), (10, true), (11, false)] [(3, true), (6, true), (10, true), (11, false)] [] mixed (by kernel_rfl) ?_
        iterate 2 refine DL.p rfl rfl rfl ?_
        refine DL.qf rfl (.free rfl) rfl rfl (Yld.sliceHi u22 i3 (m := j) rfl rfl (by omega)) ?_
        iterate 3 refine DL.p rfl rfl rfl ?_
        refine DL.qf rfl (.free rfl) rfl rfl (Yld.sliceFrom u22 i3 (m := j) rfl rfl hj) ?_
        refine DL.fork ?_ ?_
        · refine DL.op rfl (.free rfl) rfl rfl (Does.append u22 i3 rfl rfl rfl rfl rfl (Row.nil _ _ _) (hhi _ hgd) (allOne_nats _) (by omega)) ?_
          rintro u1 v1 ⟨hr1, hm1, hu1⟩
          have hg1 : Grow w9.drew v1 := hm1.mono (fun b _ e => by simp [Value.ownBlock] at e)
          refine ⟨(Mod.drew _ _).trans hg1, ?_⟩
          refine DL.op rfl (.free rfl) rfl rfl (Does.slice1 u22 i3 rfl rfl rfl rfl rfl) ?_
          rintro _ v2 ⟨b2, rfl, hn2⟩
          refine ⟨((Mod.drew _ _).trans hg1).trans hn2.grow, ?_⟩
          refine DL.op rfl (.free rfl) rfl rfl (Does.append u22 i3 rfl rfl rfl rfl rfl (hr1.mod hn2.grow (fun _ _ h => h)) (Sl.new hn2 1 1 rfl (by omega) (fun h => h)) (rfl) (by omega)) ?_
          rintro u3 v3 ⟨hr3, hm3, hu3⟩
          have hf1 : Fresh w9.drew.heap.size u1 := fun b e => by
              rcases hu1 with h | h <;> rw [h] at e
              · simp [Value.ownBlock] at e
              · cases e; omega
          have hf3 : Fresh w9.drew.heap.size u3 := fun b e => by
              have h1 := hg1.size; have h2 := hn2.size
              rcases hu3 with h | h <;> rw [h] at e
              · exact hf1 b e
              · cases e; omega
          have hg13 : Grow w9.drew v3 := (hg1.trans hn2.grow).then hm3 (fun b hb e => by have := hf1 b e; omega)
          refine ⟨(Mod.drew _ _).trans hg13, ?_⟩
          refine DL.op rfl (.free rfl) rfl rfl (Does.append u22 i3 rfl rfl rfl rfl rfl (hr3) (hlo _ (hgd.trans hg13)) (allOne_nats _) (by omega)) ?_
          rintro u4 v4 ⟨hr4, hm4, hu4⟩
          have hg14 : Grow w9.drew v4 := hg13.then hm4 (fun b hb e => by have := hf3 b e; omega)
          have hf4 : Fresh w.heap.size u4 := fun b e => by
              have h1 := hg13.size; have h2 := (hg.trans hgd).size
              rcases hu4 with h | h <;> rw [h] at e
              · have := hf3 b e; omega
              · cases e; omega
          refine ⟨(Mod.drew _ _).trans hg14, ?_⟩
          have hR4 : Row v4 3 1 u4 (i + 1) (nats (isort (ahead vs) (List.range (i + 1)))) := by have h5 := laidN (x := i) (L := L) (by omega) hI (by rw [hLl]; exact hr4); rwa [isort_len, List.length_range] at h5
          refine DL.p rfl rfl rfl ?_
          refine DL.done ?_
          refine RK.inBlock ?_
          refine RK.region ?_
          iterate 2 refine RL.p rfl rfl ?_
          refine RL.re (d := 11) rfl rfl (succ_i64 (by have := hv.big; omega)) ?_
          refine RL.p rfl rfl ?_
          refine RL.done ?_
          exact RK.back (ih (i + 1, u4) _ ⟨hR4, hf4, (hg.trans hgd).trans hg14, by simp only; omega⟩ (by simp only; omega)) ⟨rfl, rfl, rfl, trivial⟩
        · refine DL.op rfl (.free rfl) rfl rfl (Does.slice1 u22 i3 rfl rfl rfl rfl rfl) ?_
          rintro _ v2 ⟨b2, rfl, hn2⟩
          refine ⟨(Mod.drew _ _).trans hn2.grow, ?_⟩
          refine DL.op rfl (.free rfl) rfl rfl (Does.append u22 i3 rfl rfl rfl rfl rfl (Row.nil _ _ _) (hhi _ (hgd.trans hn2.grow)) (allOne_nats _) (by omega)) ?_
          rintro u1 v1 ⟨hr1, hm1, hu1⟩
          have hg1' : Grow v2 v1 := hm1.mono (fun b _ e => by simp [Value.ownBlock] at e)
          have hg1 : Grow w9.drew v1 := hn2.grow.trans hg1'
          refine ⟨(Mod.drew _ _).trans hg1, ?_⟩
          refine DL.op rfl (.free rfl) rfl rfl (Does.append u22 i3 rfl rfl rfl rfl rfl (hr1) ((Sl.new hn2 1 1 rfl (by omega) (fun h => h)).mod hg1') (rfl) (by omega)) ?_
          rintro u3 v3 ⟨hr3, hm3, hu3⟩
          have hf1 : Fresh w9.drew.heap.size u1 := fun b e => by
              have h2 := hn2.size
              rcases hu1 with h | h <;> rw [h] at e
              · simp [Value.ownBlock] at e
              · cases e; omega
          have hf3 : Fresh w9.drew.heap.size u3 := fun b e => by
              have h1 := hg1.size
              rcases hu3 with h | h <;> rw [h] at e
              · exact hf1 b e
              · cases e; omega
          have hg13 : Grow w9.drew v3 := hg1.then hm3 (fun b hb e => by have := hf1 b e; omega)
          refine ⟨(Mod.drew _ _).trans hg13, ?_⟩
          refine DL.op rfl (.free rfl) rfl rfl (Does.append u22 i3 rfl rfl rfl rfl rfl (hr3) (hlo _ (hgd.trans hg13)) (allOne_nats _) (by omega)) ?_
          rintro u4 v4 ⟨hr4, hm4, hu4⟩
          have hg14 : Grow w9.drew v4 := hg13.then hm4 (fun b hb e => by have := hf3 b e; omega)
          have hf4 : Fresh w.heap.size u4 := fun b e => by
              have h1 := hg13.size; have h2 := (hg.trans hgd).size
              rcases hu4 with h | h <;> rw [h] at e
              · have := hf3 b e; omega
              · cases e; omega
          refine ⟨(Mod.drew _ _).trans hg14, ?_⟩
          have hR4 : Row v4 3 1 u4 (i + 1) (nats (isort (ahead vs) (List.range (i + 1)))) := by have h5 := laidN (x := i) (L := L) (by omega) hI (by rw [hLl]; exact hr4); rwa [isort_len, List.length_range] at h5
          refine DL.p rfl rfl rfl ?_
          refine DL.done ?_
          refine RK.inBlock ?_
          refine RK.region ?_
          iterate 2 refine RL.p rfl rfl ?_
          refine RL.re (d := 11) rfl rfl (succ_i64 (by have := hv.big; omega)) ?_
          refine RL.p rfl rfl ?_
          refine RL.done ?_
          exact RK.back (ih (i + 1, u4) _ ⟨hR4, hf4, (hg.trans hgd).trans hg14, by simp only; omega⟩ (by simp only; omega)) ⟨rfl, rfl, rfl, trivial⟩
    · have hj0 : j = 0 := by omega
      have hpos : pos (ahead vs) i L = j := pos_splitG (by omega) hD (fun z h0 _ => by omega)
      have hI : isort (ahead vs) (List.range (i + 1)) = L.take j ++ i :: L.drop j := by rw [hsn, insE, hpos]
      obtain ⟨w9, hw9⟩ : ∃ w9, w9 = w2.drew := ⟨_, rfl⟩
      rw [← hw9]
      have hgr : Grow w' w9 := hw9 ▸ (hg2.trans (Mod.drew _ _))
      have hgd : Grow w' w9.drew := hgr.trans (Mod.drew _ _)
      iterate 12 refine DL.no rfl (.no rfl rfl rfl rfl) rfl rfl ?_
      refine DL.lno rfl (.no rfl rfl rfl rfl) rfl rfl ?_
      refine DL.p rfl rfl rfl ?_
      refine DL.done ?_
      refine RK.condF rfl ?_
      refine RK.exit rfl ?_
      refine RK.drawF No [(0, false), (1, false), (2, false), (4, false), (7, false), (8, false), (9, false)] 3 5 [(5, true), (6, true), (10, true), (11, false)] [(3, true), (6, true), (10, true), (11, false)] [] mixed (by kernel_rfl) ?_
      iterate 2 refine DL.p rfl rfl rfl ?_
      refine DL.qf rfl (.free rfl) rfl rfl (Yld.sliceHi u22 i3 (m := j) rfl rfl (by omega)) ?_
      iterate 3 refine DL.p rfl rfl rfl ?_
      refine DL.qf rfl (.free rfl) rfl rfl (Yld.sliceFrom u22 i3 (m := j) rfl rfl hj) ?_
      refine DL.fork ?_ ?_
      · refine DL.op rfl (.free rfl) rfl rfl (Does.append u22 i3 rfl rfl rfl rfl rfl (Row.nil _ _ _) (hhi _ hgd) (allOne_nats _) (by omega)) ?_
        rintro u1 v1 ⟨hr1, hm1, hu1⟩
        have hg1 : Grow w9.drew v1 := hm1.mono (fun b _ e => by simp [Value.ownBlock] at e)
        refine ⟨(Mod.drew _ _).trans hg1, ?_⟩
        refine DL.op rfl (.free rfl) rfl rfl (Does.slice1 u22 i3 rfl rfl rfl rfl rfl) ?_
        rintro _ v2 ⟨b2, rfl, hn2⟩
        refine ⟨((Mod.drew _ _).trans hg1).trans hn2.grow, ?_⟩
        refine DL.op rfl (.free rfl) rfl rfl (Does.append u22 i3 rfl rfl rfl rfl rfl (hr1.mod hn2.grow (fun _ _ h => h)) (Sl.new hn2 1 1 rfl (by omega) (fun h => h)) (rfl) (by omega)) ?_
        rintro u3 v3 ⟨hr3, hm3, hu3⟩
        have hf1 : Fresh w9.drew.heap.size u1 := fun b e => by
            rcases hu1 with h | h <;> rw [h] at e
            · simp [Value.ownBlock] at e
            · cases e; omega
        have hf3 : Fresh w9.drew.heap.size u3 := fun b e => by
            have h1 := hg1.size; have h2 := hn2.size
            rcases hu3 with h | h <;> rw [h] at e
            · exact hf1 b e
            · cases e; omega
        have hg13 : Grow w9.drew v3 := (hg1.trans hn2.grow).then hm3 (fun b hb e => by have := hf1 b e; omega)
        refine ⟨(Mod.drew _ _).trans hg13, ?_⟩
        refine DL.op rfl (.free rfl) rfl rfl (Does.append u22 i3 rfl rfl rfl rfl rfl (hr3) (hlo _ (hgd.trans hg13)) (allOne_nats _) (by omega)) ?_
        rintro u4 v4 ⟨hr4, hm4, hu4⟩
        have hg14 : Grow w9.drew v4 := hg13.then hm4 (fun b hb e => by have := hf3 b e; omega)
        have hf4 : Fresh w.heap.size u4 := fun b e => by
            have h1 := hg13.size; have h2 := (hg.trans hgd).size
            rcases hu4 with h | h <;> rw [h] at e
            · have := hf3 b e; omega
            · cases e; omega
        refine ⟨(Mod.drew _ _).trans hg14, ?_⟩
        have hR4 : Row v4 3 1 u4 (i + 1) (nats (isort (ahead vs) (List.range (i + 1)))) := by have h5 := laidN (x := i) (L := L) (by omega) hI (by rw [hLl]; exact hr4); rwa [isort_len, List.length_range] at h5
        refine DL.p rfl rfl rfl ?_
        refine DL.done ?_
        refine RK.inBlock ?_
        refine RK.region ?_
        iterate 2 refine RL.p rfl rfl ?_
        refine RL.re (d := 11) rfl rfl (succ_i64 (by have := hv.big; omega)) ?_
        refine RL.p rfl rfl ?_
        refine RL.done ?_
        exact RK.back (ih (i + 1, u4) _ ⟨hR4, hf4, (hg.trans hgd).trans hg14, by simp only; omega⟩ (by simp only; omega)) ⟨rfl, rfl, rfl, trivial⟩
      · refine DL.op rfl (.free rfl) rfl rfl (Does.slice1 u22 i3 rfl rfl rfl rfl rfl) ?_
        rintro _ v2 ⟨b2, rfl, hn2⟩
        refine ⟨(Mod.drew _ _).trans hn2.grow, ?_⟩
        refine DL.op rfl (.free rfl) rfl rfl (Does.append u22 i3 rfl rfl rfl rfl rfl (Row.nil _ _ _) (hhi _ (hgd.trans hn2.grow)) (allOne_nats _) (by omega)) ?_
        rintro u1 v1 ⟨hr1, hm1, hu1⟩
        have hg1' : Grow v2 v1 := hm1.mono (fun b _ e => by simp [Value.ownBlock] at e)
        have hg1 : Grow w9.drew v1 := hn2.grow.trans hg1'
        refine ⟨(Mod.drew _ _).trans hg1, ?_⟩
        refine DL.op rfl (.free rfl) rfl rfl (Does.append u22 i3 rfl rfl rfl rfl rfl (hr1) ((Sl.new hn2 1 1 rfl (by omega) (fun h => h)).mod hg1') (rfl) (by omega)) ?_
        rintro u3 v3 ⟨hr3, hm3, hu3⟩
        have hf1 : Fresh w9.drew.heap.size u1 := fun b e => by
            have h2 := hn2.size
            rcases hu1 with h | h <;> rw [h] at e
            · simp [Value.ownBlock] at e
            · cases e; omega
        have hf3 : Fresh w9.drew.heap.size u3 := fun b e => by
            have h1 := hg1.size
            rcases hu3 with h | h <;> rw [h] at e
            · exact hf1 b e
            · cases e; omega
        have hg13 : Grow w9.drew v3 := hg1.then hm3 (fun b hb e => by have := hf1 b e; omega)
        refine ⟨(Mod.drew _ _).trans hg13, ?_⟩
        refine DL.op rfl (.free rfl) rfl rfl (Does.append u22 i3 rfl rfl rfl rfl rfl (hr3) (hlo _ (hgd.trans hg13)) (allOne_nats _) (by omega)) ?_
        rintro u4 v4 ⟨hr4, hm4, hu4⟩
        have hg14 : Grow w9.drew v4 := hg13.then hm4 (fun b hb e => by have := hf3 b e; omega)
        have hf4 : Fresh w.heap.size u4 := fun b e => by
            have h1 := hg13.size; have h2 := (hg.trans hgd).size
            rcases hu4 with h | h <;> rw [h] at e
            · have := hf3 b e; omega
            · cases e; omega
        refine ⟨(Mod.drew _ _).trans hg14, ?_⟩
        have hR4 : Row v4 3 1 u4 (i + 1) (nats (isort (ahead vs) (List.range (i + 1)))) := by have h5 := laidN (x := i) (L := L) (by omega) hI (by rw [hLl]; exact hr4); rwa [isort_len, List.length_range] at h5
        refine DL.p rfl rfl rfl ?_
        refine DL.done ?_
        refine RK.inBlock ?_
        refine RK.region ?_
        iterate 2 refine RL.p rfl rfl ?_
        refine RL.re (d := 11) rfl rfl (succ_i64 (by have := hv.big; omega)) ?_
        refine RL.p rfl rfl ?_
        refine RL.done ?_
        exact RK.back (ih (i + 1, u4) _ ⟨hR4, hf4, (hg.trans hgd).trans hg14, by simp only; omega⟩ (by simp only; omega)) ⟨rfl, rfl, rfl, trivial⟩
  · have ei : i = vs.length := by omega
    subst ei
    refine RK.exit rfl ?_
    refine RK.seq ?_
    refine RK.region ?_
    iterate 2 refine RL.p rfl rfl ?_
    refine RL.done ?_
    refine RK.ret_of Tryz.func95 (res1 rfl rfl) ?_ _
    exact ⟨_, rfl, hr, hfr, hg⟩
end Go.Proofs.YtffbcfcoddacmaaGreat

