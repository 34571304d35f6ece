/- The document's own alerts: ranked, their labels counted. -/
import Derived.Test.YtffbcfcoddacmaaGreatHe
set_option linter.unusedVariables false
set_option linter.unusedSimpArgs false
set_option maxHeartbeats 1000000
set_option maxRecDepth 100000
namespace Go.Proofs.YtffbcfcoddacmaaGreat
open Go Go.X
def rankL (L : List AlS) : List Int := (rankOf (L.map (·.2.2))).map fun i => ((L[i]?).map (·.1)).getD 0
theorem rankIds_L (s : St) : rankIds s = rankL s.al := rfl
theorem ralRank_ok (P N : Nat → Prop) (w : World) (r : Nat) (most last : Int) (vl : Value) (al : List Al) (h : RA P N w r most last vl al) (hb : al.length ≤ 1000) (hlt : ∀ a ∈ al, a.val < 18446744073709551616) :
    Fx Tryz.prog 38 [pp r] w (fun u w' => Row w' 3 1 u al.length (ints (rankL (al.map pub))) ∧ Fresh w.heap.size u ∧ Grow w w') := by
  have hsl := Sl.own (M := No) h.row (fun _ _ h => h)
  obtain ⟨ad, c, rfl⟩ := h.row.slice
  have hvl : (al.map (·.val)).length = al.length := by simp
  have hrl : (rankL (al.map pub)).length = al.length := by simp [rankL, rankOf_len]
  have hvals : ((al.map pub).map (·.2.2)) = al.map (·.val) := by simp [pub]
  refine enter Tryz.func38 rfl rfl rfl _ (Pick.sub (l := [0]) (.cons rfl .nil)) ?_
  refine RK.seq ?_
  refine RK.region ?_
  refine RL.p rfl rfl ?_
  refine RL.done ?_
  refine RK.seq ?_
  refine RK.region ?_
  refine RL.p rfl rfl ?_
  refine RL.done ?_
  iterate 2 refine RK.seq ?_
  refine RK.region ?_
  refine RL.p rfl rfl ?_
  refine RL.done ?_
  refine RK.block ?_
  refine RK.loop (fun s : Nat × Value => [(0, pp r), (3, s.2), (4, .int .i64 (s.1 : Int))]) (fun s w' => Row w' 23 1 s.2 s.1 (flts ((al.map (·.val)).take s.1)) ∧ Fresh w.heap.size s.2 ∧ Grow w w' ∧ s.1 ≤ al.length) (fun s => al.length - s.1) (0, .slice none 0 0) ⟨rfl, rfl, rfl, trivial⟩ ⟨by simpa using Row.nil _ _ _, fun b hb => by simp [Value.ownBlock] at hb, Mod.refl _ _, by omega⟩ (fun s1 w' hI ih => ?_)
  obtain ⟨k, u⟩ := s1
  obtain ⟨hr, hfr, hg, hk⟩ := hI
  simp only at hr hfr hk
  have hB := h.blk.mod hg (fun h => h)
  iterate 2 refine RK.seq ?_
  refine RK.region ?_
  iterate 3 refine RL.p rfl rfl ?_
  refine RL.q (.free rfl) rfl rfl (Yld.fieldAddr fo60_1 rfl) ?_
  refine RL.q (.free rfl) rfl rfl (Yld.load p58 rfl (at1 (hB.cell rfl))) ?_
  refine RL.q (.free rfl) rfl rfl (Yld.lenSl u58 rfl) ?_
  refine RL.p rfl rfl ?_
  refine RL.done ?_
  first | refine RK.condD rfl (fun h14 => ?_) (fun h14 => ?_) | refine RK.condN rfl (fun h14 => ?_) (fun h14 => ?_) | refine RK.cond rfl (fun h14 => ?_) (fun h14 => ?_)
  · obtain ⟨a, hx⟩ : ∃ x, al[k]? = some x := ⟨al[k]'(by omega), List.getElem?_eq_getElem (by omega)⟩
    obtain ⟨b1, o1, c1', he1, _, _, hc1⟩ := hsl.elem alC_len hx
    cases he1
    have htk : (al.map (·.val)).take (k + 1) = (al.map (·.val)).take k ++ [a.val] := by rw [List.take_succ_eq_append_getElem (by simp; omega)]; congr 2; simp [(List.getElem?_eq_some_iff.1 hx).2]
    refine RK.skip ?_
    refine RK.seq ?_
    refine RK.block ?_
    refine RK.region ?_
    iterate 3 refine RL.p rfl rfl ?_
    refine RL.q (.free rfl) rfl rfl (Yld.fieldAddr fo60_1 rfl) ?_
    refine RL.q (.free rfl) rfl rfl (Yld.load p58 rfl (at1 (hB.cell rfl))) ?_
    refine RL.p rfl rfl ?_
    refine RL.q (.free rfl) rfl rfl (Yld.indexAddrN u58 i32 rfl rfl (by omega)) ?_
    refine RL.q (.free rfl) rfl rfl (Yld.fieldAddr fo32_2 rfl) ?_
    refine RL.q (.free rfl) rfl rfl (Yld.load p23 rfl (at1 (hg.cell (hc1 2 _ rfl) (fun h => h)))) ?_
    refine RL.op (.free rfl) rfl rfl (Does.slice1 u148 i23 rfl rfl rfl rfl rfl) ?_
    rintro _ w4 ⟨b4, rfl, hn4⟩
    refine RL.op (.free rfl) rfl rfl (Does.append u148 i23 rfl rfl rfl rfl rfl (hr.mod hn4.grow (fun _ _ h => h)) (Sl.new hn4 1 1 rfl (by omega) (fun h => h)) (rfl) (by omega)) ?_
    rintro u5 w5 ⟨hr5, hm5, hu5⟩
    refine RL.p rfl rfl ?_
    refine RL.done ?_
    refine RK.inBlock ?_
    refine RK.region ?_
    iterate 2 refine RL.p rfl rfl ?_
    refine RL.re (d := 16) rfl rfl (succ_i64 (by omega)) ?_
    refine RL.p rfl rfl ?_
    refine RL.done ?_
    exact RK.back (ih (k + 1, u5) _ ⟨by rw [htk]; show Row _ _ _ _ _ (List.map _ (_ ++ _)); rw [List.map_append]; exact hr5, fun b e => by
        have h1 := hg.size; have h3 := hn4.size
        rcases hu5 with hh | hh
        · rw [hh] at e; exact hfr b e
        · rw [hh] at e; cases e; omega
      , (hg.trans hn4.grow).then hm5 (fun x hx e => by have := hfr x e; omega), by simp; omega⟩ (by simp; omega)) ⟨rfl, rfl, rfl, trivial⟩
  · have ek : k = al.length := by omega
    have et : (al.map (·.val)).take k = al.map (·.val) := List.take_of_length_le (by simp; omega)
    rw [et] at hr
    subst ek
    have hslv : Sl No w' u 1 (al.map (·.val)).length (flts (al.map (·.val))) := by rw [hvl]; exact Sl.own hr (fun _ _ h => h)
    refine RK.exit rfl ?_
    refine RK.seq ?_
    refine RK.region ?_
    refine RL.p rfl rfl ?_
    refine RL.op (.free rfl) rfl rfl (Does.call rfl e95 (rrank_ok No (al.map (·.val)) (fun v hv => by obtain ⟨a, ha, rfl⟩ := List.mem_map.1 hv; exact hlt a ha) _ _ hslv (by rw [hvl]; omega))) ?_
    rintro uo wo ⟨hro, hfo, hgo⟩
    rw [hvl] at hro
    obtain ⟨ado, co, rfl⟩ := hro.slice
    have hslo : Sl No wo (.slice ado al.length co) 1 al.length (nats (rankOf (al.map (·.val)))) := Sl.own hro (fun _ _ h => h)
    have hgwo := hg.trans hgo
    refine RL.p rfl rfl ?_
    refine RL.done ?_
    refine RK.seq ?_
    refine RK.region ?_
    refine RL.p rfl rfl ?_
    refine RL.done ?_
    iterate 2 refine RK.seq ?_
    refine RK.region ?_
    refine RL.p rfl rfl ?_
    refine RL.done ?_
    refine RK.block ?_
    refine RK.loop (fun s : Nat × Value => [(0, pp r), (5, .slice ado al.length co), (6, s.2), (7, .int .i64 (s.1 : Int))]) (fun s w' => Row w' 3 1 s.2 s.1 (ints ((rankL (al.map pub)).take s.1)) ∧ Fresh wo.heap.size s.2 ∧ Grow wo w' ∧ s.1 ≤ al.length) (fun s => al.length - s.1) (0, .slice none 0 0) ⟨rfl, rfl, rfl, rfl, trivial⟩ ⟨by simpa using Row.nil _ _ _, fun b hb => by simp [Value.ownBlock] at hb, Mod.refl _ _, by omega⟩ (fun s1 w2 hI2 ih2 => ?_)
    obtain ⟨k2, u2⟩ := s1
    obtain ⟨hr2, hfr2, hg2, hk2⟩ := hI2
    simp only at hr2 hfr2 hk2
    have hB2 := h.blk.mod (hgwo.trans hg2) (fun h => h)
    iterate 2 refine RK.seq ?_
    refine RK.region ?_
    iterate 2 refine RL.p rfl rfl ?_
    refine RL.q (.free rfl) rfl rfl (Yld.lenSl u22 rfl) ?_
    refine RL.p rfl rfl ?_
    refine RL.done ?_
    first | refine RK.condD rfl (fun h33 => ?_) (fun h33 => ?_) | refine RK.condN rfl (fun h33 => ?_) (fun h33 => ?_) | refine RK.cond rfl (fun h33 => ?_) (fun h33 => ?_)
    · have hk3 : k2 < (rankOf (al.map (·.val))).length := by rw [rankOf_len, hvl]; simp only at h33; omega
      obtain ⟨x, hx⟩ : ∃ x, (rankOf (al.map (·.val)))[k2]? = some x := ⟨_, List.getElem?_eq_getElem hk3⟩
      have hxl : x < al.length := by have := rankOf_lt (List.mem_of_getElem? hx); simpa using this
      obtain ⟨bo, oo, co', heo, _, _, hco⟩ := hslo.elem1 (k := k2) (u := .int .i64 (x : Int)) (by simp [hx])
      cases heo
      obtain ⟨a, ha⟩ : ∃ a, al[x]? = some a := ⟨al[x], List.getElem?_eq_getElem hxl⟩
      obtain ⟨b1, o1, c1', he1, _, _, hc1⟩ := hsl.elem alC_len ha
      cases he1
      have hR : (rankL (al.map pub))[k2]? = some a.id := by unfold rankL; rw [hvals, List.getElem?_map, hx]; simp [ha, pub]
      have htk : (rankL (al.map pub)).take (k2 + 1) = (rankL (al.map pub)).take k2 ++ [a.id] := by rw [List.take_succ_eq_append_getElem (by rw [hrl]; simpa using h33)]; congr 2; exact (List.getElem?_eq_some_iff.1 hR).2
      have hco' := hco k2 (.int .i64 (x : Int)) (by simp [hx])
      have hbol : bo < wo.heap.size := by have := World.block_lt_of_cell? wo _ hco'; simpa using this
      have hc10 := hgwo.cell (hc1 0 _ rfl) (fun h => h)
      have hb1l : b1 < wo.heap.size := by have := World.block_lt_of_cell? wo _ hc10; simpa using this
      have hrl' : r < wo.heap.size := by have := h.blk.lt; have := hgwo.size; omega
      have hnf : ∀ b, b < wo.heap.size → ¬ u2.ownBlock = some b := fun b h e => by have := hfr2 b e; omega
      refine RK.skip ?_
      refine RK.seq ?_
      refine RK.block ?_
      refine RK.drawM (fun b => u2.ownBlock = some b) [(0, false), (1, false), (2, false), (3, false), (4, false), (5, false), (6, false), (7, false), (8, false), (9, false), (10, false), (11, false), (12, true), (13, true), (14, false)] [] mixed (by kernel_rfl) ?_
      iterate 3 refine DL.p rfl rfl rfl ?_
      refine DL.qf rfl (.free rfl) rfl rfl (Yld.fieldAddr fo60_1 rfl) ?_
      refine DL.q rfl (.free rfl) rfl rfl rfl (Yld.load p58 rfl (atM (hB2.cell rfl) (hnf _ hrl'))) (Mod.drew _ _) ?_
      iterate 2 refine DL.p rfl rfl rfl ?_
      refine DL.qf rfl (.free rfl) rfl rfl (Yld.indexAddrN u22 i3 rfl rfl (by omega)) ?_
      refine DL.q rfl (.free rfl) rfl rfl rfl (Yld.load p3 rfl (atM (hg2.cell hco' (fun h => h)) (hnf _ hbol))) (Mod.drew _ _) ?_
      refine DL.qf rfl (.free rfl) rfl rfl (Yld.indexAddrN u58 i32 rfl rfl (by omega)) ?_
      refine DL.qf rfl (.free rfl) rfl rfl (Yld.fieldAddr fo32_0 rfl) ?_
      refine DL.q rfl (.free rfl) rfl rfl rfl (Yld.load p3 rfl (atM (hg2.cell hc10 (fun h => h)) (hnf _ hb1l))) (Mod.drew _ _) ?_
      refine DL.op rfl (.free rfl) rfl rfl (Does.slice1 u22 i3 rfl rfl rfl rfl rfl) ?_
      rintro _ w4 ⟨b4, rfl, hn4⟩
      refine ⟨(Mod.drew _ _).trans (Mod.any' hn4.grow), ?_⟩
      refine DL.op rfl (.free rfl) rfl rfl (Does.append u22 i3 rfl rfl rfl rfl rfl ((hr2.mod (Mod.drew _ _) (fun _ _ h => h)).mod hn4.grow (fun _ _ h => h)) (Sl.new hn4 1 1 rfl (by omega) (fun h => h)) (rfl) (by omega)) ?_
      rintro u5 w5 ⟨hr5, hm5, hu5⟩
      have hgd : Grow wo w4 := (hg2.trans (Mod.drew _ _)).trans hn4.grow
      have hf5 : Fresh wo.heap.size u5 := fun b e => by
          have h1 := hg2.size; have h3 := hn4.size; have h4 : w2.drew.heap.size = w2.heap.size := rfl
          rcases hu5 with hh | hh
          · rw [hh] at e; exact hfr2 b e
          · rw [hh] at e; cases e; omega
      have hg5 : Grow wo w5 := hgd.then hm5 (fun x hx e => by have := hfr2 x e; omega)
      refine ⟨((Mod.drew _ _).trans (Mod.any' hn4.grow)).trans hm5, ?_⟩
      refine DL.p rfl rfl rfl ?_
      refine DL.done ?_
      refine RK.inBlock ?_
      refine RK.region ?_
      iterate 2 refine RL.p rfl rfl ?_
      refine RL.re (d := 35) rfl rfl (succ_i64 (by omega)) ?_
      refine RL.p rfl rfl ?_
      refine RL.done ?_
      exact RK.back (ih2 (k2 + 1, u5) _ ⟨by rw [htk]; show Row _ _ _ _ _ (List.map _ (_ ++ _)); rw [List.map_append]; exact hr5, hf5, hg5, by simp at h33 ⊢; omega⟩ (by simp at h33 ⊢; omega)) ⟨rfl, rfl, rfl, rfl, trivial⟩
    · have ek : k2 = al.length := by simp only at h33; omega
      have et : (rankL (al.map pub)).take k2 = rankL (al.map pub) := List.take_of_length_le (by rw [hrl]; omega)
      rw [et] at hr2
      subst ek
      refine RK.exit rfl ?_
      refine RK.seq ?_
      refine RK.region ?_
      iterate 2 refine RL.p rfl rfl ?_
      refine RL.done ?_
      refine RK.ret_of Tryz.func38 (res1 rfl rfl) ?_ _
      exact ⟨_, rfl, hr2, fun b e => by have := hfr2 b e; have := hgwo.size; omega, hgwo.trans hg2⟩
end Go.Proofs.YtffbcfcoddacmaaGreat

