/- Alerts ranked. -/
import Derived.Test.YtffbcfcoddacmaaGreatM
set_option linter.unusedVariables false
set_option linter.unusedSimpArgs false
set_option maxHeartbeats 400000
set_option maxRecDepth 100000
namespace Go.Proofs.YtffbcfcoddacmaaGreat
open Go Go.X

def valsS (s : St) : List Nat := s.al.map (·.2.2)
/-- The numbers of the alerts, in the rank. -/
def rankIds (s : St) : List Int := (rankOf (valsS s)).map fun i => ((s.al[i]?).map (·.1)).getD 0
theorem rankIds_len (s : St) : (rankIds s).length = s.al.length := by simp [rankIds, rankOf_len, valsS]
theorem rankOf_lt {vs : List Nat} {x : Nat} (h : x ∈ rankOf vs) : x < vs.length := List.mem_range.1 ((isort_perm _ _).mem_iff.1 h)
theorem set_rank {R : List Int} {O : List Nat} {k : Nat} {x : Int} (hl : R.length = O.length) (hx : R[k]? = some x) : (ints (R.take k) ++ nats (O.drop k)).set k (.int .i64 x) = ints (R.take (k + 1)) ++ nats (O.drop (k + 1)) := by
  have hk : k < R.length := (List.getElem?_eq_some_iff.1 hx).1
  have e2 : nats (O.drop k) = .int .i64 (O[k]'(by omega) : Int) :: nats (O.drop (k + 1)) := by rw [List.drop_eq_getElem_cons (by omega : k < O.length)]; rfl
  rw [List.take_succ_eq_append_getElem hk, e2, (List.getElem?_eq_some_iff.1 hx).2]
  have e : (ints (R.take k)).length = k := by simp; omega
  rw [List.set_append_right _ _ (by omega), e]
  simp
theorem alertRank_ok (w : World) (p : Nat) (s : St) (M : Nat → Prop) (h : StoreAt w p s M) (hlt : ∀ a ∈ s.al, a.2.2 < 18446744073709551616) (hn : s.al.length < 20) :
    Fx Tryz.prog 37 [pp p] w (fun u w' => Row w' 3 1 u s.al.length (ints (rankIds s)) ∧ Fresh w.heap.size u ∧ Grow w w') := by
  obtain ⟨q, ix, mh, mr, vo, vl, al, hO, h⟩ := h
  obtain ⟨ad, c, rfl⟩ := h.row.slice
  have hal : al.length = s.al.length := by rw [← h.als]; simp
  have hvals : al.map (·.val) = valsS s := by unfold valsS; rw [← h.als]; simp [pub]
  have hvl : (valsS s).length = al.length := by simp [valsS, hal]
  have hrow : Sl No w (.slice ad al.length c) 3 al.length (al.flatMap alC) := Sl.own h.row (fun _ _ h => h)
  refine enter Tryz.func37 rfl rfl rfl _ (Pick.sub (l := [0]) (.cons rfl .nil)) ?_
  refine RK.seq ?_
  refine RK.region ?_
  refine RL.p rfl rfl ?_
  refine RL.done ?_
  refine RK.seq ?_
  refine RK.region ?_
  refine RL.p rfl rfl ?_
  refine RL.done ?_
  iterate 2 refine RK.seq ?_
  refine RK.region ?_
  iterate 2 refine RL.p rfl rfl ?_
  refine RL.q (.free rfl) rfl rfl (Yld.fieldAddr fo124_2 rfl) ?_
  refine RL.q (.free rfl) rfl rfl (Yld.load p58 rfl (at1 (h.blk.cell rfl))) ?_
  refine RL.q (.free rfl) rfl rfl (Yld.lenSl u58 rfl) ?_
  refine RL.p rfl rfl ?_
  refine RL.done ?_
  refine RK.block ?_
  refine RK.loop (fun s : Nat × Value => [(0, pp p), (12, .slice ad al.length c), (13, .int .i64 al.length), (14, .int .i64 s.1), (3, s.2)]) (fun s w' => Row w' 23 1 s.2 s.1 (flts ((al.map (·.val)).take s.1)) ∧ Fresh w.heap.size s.2 ∧ Grow w w' ∧ s.1 ≤ al.length) (fun s => al.length - s.1) (0, .slice none 0 0) ⟨rfl, rfl, rfl, rfl, rfl, trivial⟩ ⟨by simpa using Row.nil _ _ _, fun b hb => by simp [Value.ownBlock] at hb, Mod.refl _ _, by omega⟩ (fun s1 w' hI ih => ?_)
  obtain ⟨k, u⟩ := s1
  obtain ⟨hr, hfr, hg, hk⟩ := hI
  simp only at hr hfr hk
  refine RK.seq ?_
  refine RK.region ?_
  refine RL.p rfl rfl ?_
  refine RL.done ?_
  refine RK.seq ?_
  first | refine RK.condD rfl (fun h15 => ?_) (fun h15 => ?_) | refine RK.condN rfl (fun h15 => ?_) (fun h15 => ?_) | refine RK.cond rfl (fun h15 => ?_) (fun h15 => ?_)
  · obtain ⟨a, hx⟩ : ∃ x, al[k]? = some x := ⟨al[k]'(by omega), List.getElem?_eq_getElem (by omega)⟩
    obtain ⟨b1, o1, c1', he1, _, _, hc1⟩ := hrow.elem alC_len hx
    cases he1
    obtain ⟨ada, ca, hva⟩ := (h.sls a (List.mem_of_getElem? hx)).shape
    have htk : (al.map (·.val)).take (k + 1) = (al.map (·.val)).take k ++ [a.val] := by rw [List.take_succ_eq_append_getElem (by simp; omega)]; congr 2; simp [(List.getElem?_eq_some_iff.1 hx).2]
    refine RK.skip ?_
    refine RK.seq ?_
    refine RK.block ?_
    refine RK.seq ?_
    refine RK.region ?_
    refine RL.q (.free rfl) rfl rfl (Yld.indexAddrN u58 i32 rfl rfl (by omega)) ?_
    refine RL.q (.free rfl) rfl rfl (Yld.loadN (cs := [.int .i64 a.id, .slice ada a.ls.length ca, .float .f64 a.val]) a32 rfl (atN (fun j u hj => hg.cell (hc1 j u (by rw [alC, hva]; exact hj)) (fun h => h)))) ?_
    refine RL.op (.free rfl) rfl rfl (Does.alloc i32) ?_
    rintro _ w2 ⟨b2, rfl, hn2⟩
    refine RL.op' (.free rfl) rfl (Does.storeN i32 rfl rfl rfl rfl hn2.blk (Nat.le_refl 3)) ?_
    rintro _ w3 ⟨hb3, hm3, _⟩
    have hB3 : Blk w3 b2 32 [.int .i64 a.id, .slice ada a.ls.length ca, .float .f64 a.val] := hb3
    have hg3 : Grow w' w3 := hn2.grow.then hm3 (fun y hy e => by have e' : y = b2 := e; have := hn2.at_; omega)
    refine RL.done ?_
    refine RK.region ?_
    refine RL.p rfl rfl ?_
    refine RL.q (.free rfl) rfl rfl (Yld.fieldAddr fo32_2 rfl) ?_
    refine RL.q (.free rfl) rfl rfl (Yld.load p23 rfl (at1 (hB3.cell rfl))) ?_
    refine RL.op (.free rfl) rfl rfl (Does.slice1 u148 i23 rfl rfl rfl rfl rfl) ?_
    rintro _ w4 ⟨b4, rfl, hn4⟩
    refine RL.op (.free rfl) rfl rfl (Does.append u148 i23 rfl rfl rfl rfl rfl ((hr.mod hg3 (fun _ _ h => h)).mod hn4.grow (fun _ _ h => h)) (Sl.new hn4 1 1 rfl (by omega) (fun h => h)) (rfl) (by omega)) ?_
    rintro u5 w5 ⟨hr5, hm5, hu5⟩
    refine RL.p rfl rfl ?_
    refine RL.done ?_
    refine RK.inBlock ?_
    refine RK.region ?_
    refine RL.p rfl rfl ?_
    refine RL.re (d := 23) rfl rfl (succ_i64 (by omega)) ?_
    refine RL.p rfl rfl ?_
    refine RL.done ?_
    exact RK.back (ih (k + 1, u5) _ ⟨by rw [htk]; show Row _ _ _ _ _ (List.map _ (_ ++ _)); rw [List.map_append]; exact hr5, fun b e => by
        have h1 := hg.size; have h2 := hg3.size; have h3 := hn4.size
        rcases hu5 with hh | hh
        · rw [hh] at e; exact hfr b e
        · rw [hh] at e; cases e; omega
      , ((hg.trans hg3).trans hn4.grow).then hm5 (fun x hx e => by have := hfr x e; omega), by simp; omega⟩ (by simp; omega)) ⟨rfl, rfl, rfl, rfl, rfl, trivial⟩
  · have ek : (al.map (·.val)).take k = valsS s := by rw [← hvals]; exact List.take_of_length_le (by simp; omega)
    have hkl : k = (valsS s).length := by omega
    rw [ek] at hr
    subst hkl
    refine RK.exit rfl ?_
    refine RK.seq ?_
    refine RK.region ?_
    refine RL.p rfl rfl ?_
    refine RL.op (.free rfl) rfl rfl (Does.call rfl e94 (rank_ok No (valsS s) (by intro v hv; simp only [valsS, List.mem_map] at hv; obtain ⟨a, ha, rfl⟩ := hv; exact hlt a ha) (by omega) u _ (Sl.own hr (fun _ _ h => h)))) ?_
    rintro _ w2 ⟨g, rfl, hbg, hgw, hg2⟩
    have hW : Grow w w2 := hg.trans hg2
    have hgw' : w.heap.size ≤ g := by have := hg.size; omega
    have hrowg : Sl (· = g) w (.slice ad al.length c) 3 al.length (al.flatMap alC) := Sl.own h.row (fun k e hk => by have := h.row.lt e; have e' : k = g := hk; omega)
    have hpg : ¬ (p = g) := by have := h.blk.lt; omega
    refine RL.p rfl rfl ?_
    refine RL.done ?_
    iterate 2 refine RK.seq ?_
    refine RK.region ?_
    refine RL.p rfl rfl ?_
    refine RL.q (.free rfl) rfl rfl (Yld.lenSl u22 rfl) ?_
    refine RL.p rfl rfl ?_
    refine RL.done ?_
    refine RK.block ?_
    refine RK.loop (fun k : Nat => [(0, pp p), (6, .slice (some ⟨g, 0, none⟩) (valsS s).length (valsS s).length), (26, .slice (some ⟨g, 0, none⟩) (valsS s).length (valsS s).length), (27, .int .i64 (valsS s).length), (28, .int .i64 k)]) (fun k w' => Blk w' g 3 (ints ((rankIds s).take k) ++ nats ((rankOf (valsS s)).drop k)) ∧ Mod (· = g) w2 w' ∧ k ≤ (valsS s).length) (fun k => (valsS s).length - k) 0 ⟨rfl, rfl, rfl, rfl, rfl, trivial⟩ ⟨by simpa using hbg, Mod.refl _ _, by omega⟩ (fun k w3 hI2 ih2 => ?_)
    obtain ⟨hb3, hm3, hk3⟩ := hI2
    have hm03 : Mod (· = g) w w3 := (Mod.any' hW).trans hm3
    refine RK.seq ?_
    refine RK.region ?_
    refine RL.p rfl rfl ?_
    refine RL.done ?_
    refine RK.seq ?_
    first | refine RK.condD rfl (fun h29 => ?_) (fun h29 => ?_) | refine RK.condN rfl (fun h29 => ?_) (fun h29 => ?_) | refine RK.cond rfl (fun h29 => ?_) (fun h29 => ?_)
    · have hrl := rankOf_len (valsS s)
      obtain ⟨x, hx⟩ : ∃ x, (rankOf (valsS s))[k]? = some x := ⟨(rankOf (valsS s))[k]'(by omega), List.getElem?_eq_getElem (by omega)⟩
      have hxl : x < (valsS s).length := rankOf_lt (List.mem_of_getElem? hx)
      obtain ⟨a, ha⟩ : ∃ a, al[x]? = some a := ⟨al[x]'(by omega), List.getElem?_eq_getElem (by omega)⟩
      obtain ⟨b1, o1, c1', he1, hb1g, _, hc1⟩ := hrowg.elem alC_len ha
      cases he1
      have hid : (rankIds s)[k]? = some a.id := by unfold rankIds; rw [List.getElem?_map, hx, ← h.als]; simp [ha, pub]
      have hcell : (ints ((rankIds s).take k) ++ nats ((rankOf (valsS s)).drop k))[k]? = some (.int .i64 (x : Int)) := by
          have e : (ints ((rankIds s).take k)).length = k := by have := rankIds_len s; simp; omega
          rw [List.getElem?_append_right (by omega), e]
          simp [hx]
      refine RK.skip ?_
      refine RK.seq ?_
      refine RK.block ?_
      refine RK.seq ?_
      refine RK.region ?_
      refine RL.p rfl rfl ?_
      refine RL.q (.free rfl) rfl rfl (Yld.indexAddrN u22 i3 rfl rfl (by omega)) ?_
      refine RL.q (.free rfl) rfl rfl (Yld.load p3 rfl (at1 (hb3.at1 hcell))) ?_
      iterate 2 refine RL.p rfl rfl ?_
      refine RL.done ?_
      refine RK.region ?_
      iterate 4 refine RL.p rfl rfl ?_
      refine RL.q (.free rfl) rfl rfl (Yld.fieldAddr fo124_2 rfl) ?_
      refine RL.q (.free rfl) rfl rfl (Yld.load p58 rfl (at1 ((h.blk.mod hm03 hpg).cell rfl))) ?_
      refine RL.p rfl rfl ?_
      refine RL.q (.free rfl) rfl rfl (Yld.indexAddrN u58 i32 rfl rfl (by omega)) ?_
      refine RL.q (.free rfl) rfl rfl (Yld.fieldAddr fo32_0 rfl) ?_
      refine RL.q (.free rfl) rfl rfl (Yld.load p3 rfl (at1 (hm03.cell (hc1 0 _ rfl) hb1g))) ?_
      refine RL.q (.free rfl) rfl rfl (Yld.indexAddrN u22 i3 rfl rfl (by omega)) ?_
      refine RL.op' (.free rfl) rfl (Does.store i3 rfl rfl rfl hb3 (SetAt.of (by simp [rankIds_len, rankOf_len]; have := rankIds_len s; omega))) ?_
      rintro _ w4 ⟨hb4, hm4, _⟩
      refine RL.done ?_
      refine RK.inBlock ?_
      refine RK.region ?_
      refine RL.p rfl rfl ?_
      refine RL.re (d := 44) rfl rfl (succ_i64 (by omega)) ?_
      refine RL.p rfl rfl ?_
      refine RL.done ?_
      exact RK.back (ih2 (k + 1) _ ⟨by rw [← set_rank (by rw [rankIds_len, rankOf_len]; omega) hid]; simpa using hb4, hm3.trans hm4, by omega⟩ (by omega)) ⟨rfl, rfl, rfl, rfl, rfl, trivial⟩
    · have e1 : (rankIds s).take k = rankIds s := List.take_of_length_le (by rw [rankIds_len]; omega)
      have e2 : (rankOf (valsS s)).drop k = [] := List.drop_eq_nil_of_le (by rw [rankOf_len]; omega)
      rw [e1, e2] at hb3
      have e3 : s.al.length = (valsS s).length := by omega
      rw [e3]
      refine RK.exit rfl ?_
      refine RK.seq ?_
      refine RK.region ?_
      iterate 2 refine RL.p rfl rfl ?_
      refine RL.done ?_
      refine RK.ret_of Tryz.func37 (res1 rfl rfl) ?_ _
      exact ⟨_, rfl, Row.blk (by simpa using hb3) 1 _ (by simp [rankIds_len]; omega) (by omega), fun b hb => by simp [Value.ownBlock] at hb; omega, hW.then hm3 (fun x hx e => by have e' : x = g := e; omega)⟩
end Go.Proofs.YtffbcfcoddacmaaGreat

