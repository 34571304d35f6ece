/- Rows of numbers: slices.Concat, Sort, Compact at []int; rows.Make, Or, Put. -/
import Derived.Test.YtffbcfcoddacmaaGreatC
import Derived.Test.YtffbcfcoddacmaaGreatShelf
import Derived.Sort.OwnSortedInts
set_option linter.unusedVariables false
set_option linter.unusedSimpArgs false
set_option maxHeartbeats 400000
set_option maxRecDepth 100000
namespace Go.Proofs.YtffbcfcoddacmaaGreat
open Go Go.X

abbrev ints (xs : List Int) : List Value := xs.map (Value.int .i64)
theorem compact_le (xs : List Int) : (Lib.compact xs).length ≤ xs.length := by
  unfold Lib.compact Lib.compactUpTo
  rw [List.length_map]
  exact Nat.le_trans (List.length_filter_le _ _) (by simp)
def sortI (xs : List Int) : List Int := xs.mergeSort fun x y => decide (x ≤ y)
theorem sortI_len (xs : List Int) : (sortI xs).length = xs.length := by simp [sortI]
theorem sort_ok (xs : List Int) (v : Value) (w : World) (hv : Row w 3 1 v xs.length (ints xs)) (hb : xs.length < 4611686018427387904) :
    Fx Tryz.prog 141 [v] w (fun u w' => u = .tuple #[] ∧ Row w' 3 1 v xs.length (ints (sortI xs)) ∧ Mod (fun b => v.ownBlock = some b) w w') := by
  rcases hv.2 with ⟨rfl, h0⟩ | ⟨g, cap, cur, rfl, _, hg, hn, hcap, hcs, htk⟩
  · have : xs = [] := List.eq_nil_of_length_eq_zero h0
    subst this
    refine Calls.mono (Tryz.slices_Sort_int_none none 0 w) ?_
    rintro e w' ⟨rfl, rfl⟩
    exact ⟨_, rfl, rfl, by simpa [sortI] using Row.nil w' _ _, Mod.refl _ _⟩
  · rw [Nat.mul_one] at htk
    refine Calls.mono (Tryz.slices_Sort_int g 0 cap xs w (holds_of_blockI hg htk) (Array.getElem?_eq_some_iff.1 hg).1 hb) ?_
    rintro e w' ⟨rfl, n, os, rfl⟩
    exact ⟨_, rfl, rfl, ownsRow_sortedI (by simp) (Nat.zero_le _) hg hn hcap hcs, Mod.grownBy (grownBy_sortedI _) (fun k h => by cases h; rfl)⟩
theorem compact_ok (xs : List Int) (v : Value) (w : World) (hv : Row w 3 1 v xs.length (ints xs)) :
    Fx Tryz.prog 152 [v] w (fun u w' => Row w' 3 1 u (Lib.compact xs).length (ints (Lib.compact xs)) ∧ u.ownBlock = v.ownBlock ∧ Mod (fun b => v.ownBlock = some b) w w') := by
  rcases hv.2 with ⟨rfl, h0⟩ | ⟨g, cap, cur, rfl, _, hg, hn, hcap, hcs, htk⟩
  · have : xs = [] := List.eq_nil_of_length_eq_zero h0
    subst this
    refine Calls.mono (Tryz.slices_Compact_int_empty none 0 w) ?_
    rintro e w' ⟨rfl, rfl⟩
    exact ⟨_, rfl, Row.nil w' _ _, rfl, Mod.refl _ _⟩
  · rw [Nat.mul_one] at htk
    refine Calls.mono (Tryz.slices_Compact_int g 0 cap xs w (holds_of_blockI hg htk) (by simp only [maxLen] at hcap; omega) hn) ?_
    rintro e w' ⟨rfl, q, rfl⟩
    have hle : (Lib.compact xs).length ≤ xs.length := compact_le xs
    have hh := heap_sortedI (n := q) (os := #[]) (Lib.compact xs ++ List.replicate (xs.length - (Lib.compact xs).length) 0).toArray hg
    have hgb := grownBy_sortedI (w := w) (g := g) (n := q) (os := #[]) (Lib.compact xs ++ List.replicate (xs.length - (Lib.compact xs).length) 0).toArray
    simp only [Sort.grow_empty] at hh hgb
    refine ⟨_, rfl, ⟨by simp, .inr ⟨g, cap, _, rfl, Nat.zero_le _, hh, by omega, hcap, by simp [Sort.putCells, hcs], ?_⟩⟩, rfl, Mod.grownBy hgb (fun k h => by cases h; rfl)⟩
    have := take_putCellsI cur (Lib.compact xs ++ List.replicate (xs.length - (Lib.compact xs).length) 0) (by simp; omega)
    have h2 := congrArg (List.take (Lib.compact xs).length) this
    rw [List.take_take, Nat.min_eq_left (by simp)] at h2
    rw [Nat.mul_one, h2]
    simp

/-- slices.Grow of nil. -/
theorem growNil_ok (m : Nat) (w : World) (hb : m * 8 ≤ 140737488355328) :
    Fx Tryz.prog 159 [.slice none 0 0, .int .i64 m] w (fun u w' => Row w' 3 1 u 0 [] ∧ Fresh w.heap.size u ∧ Grow w w') := by
  refine enter Tryz.func159 rfl rfl rfl _ (Pick.sub (l := [0, 1]) (.cons rfl (.cons rfl .nil))) ?_
  refine RK.seq ?_
  refine RK.region ?_
  refine RL.p rfl rfl ?_
  refine RL.done ?_
  iterate 2 refine RK.seq ?_
  refine RK.region ?_
  iterate 2 refine RL.p rfl rfl ?_
  refine RL.done ?_
  refine RK.condF (hcF rfl (decide_eq_false (by omega))) ?_
  refine RK.skip ?_
  iterate 2 refine RK.seq ?_
  refine RK.region ?_
  iterate 2 refine RL.p rfl rfl ?_
  refine RL.q (.free rfl) rfl rfl (Yld.capSl u22 rfl) ?_
  refine RL.p rfl rfl ?_
  refine RL.q (.free rfl) rfl rfl (Yld.lenSl u22 rfl) ?_
  refine RL.p rfl rfl ?_
  refine RL.re (d := 13) rfl rfl (sub_i64 (z := 0) (by omega) (by omega) (by omega)) ?_
  refine RL.p rfl rfl ?_
  refine RL.re (d := 14) rfl rfl (sub_i64 (z := (m : Int)) (by omega) (by omega) (by omega)) ?_
  refine RL.p rfl rfl ?_
  refine RL.done ?_
  refine RK.seq ?_
  refine RK.region ?_
  iterate 2 refine RL.p rfl rfl ?_
  refine RL.done ?_
  first | refine RK.condD rfl (fun h16 => ?_) (fun h16 => ?_) | refine RK.condN rfl (fun h16 => ?_) (fun h16 => ?_) | refine RK.cond rfl (fun h16 => ?_) (fun h16 => ?_)
  · refine RK.region ?_
    iterate 2 refine RL.p rfl rfl ?_
    refine RL.q (.free rfl) rfl rfl (Yld.capSl u22 rfl) ?_
    refine RL.q (.free rfl) rfl rfl (Yld.sliceHi u22 i3 (m := 0) rfl rfl (by omega)) ?_
    refine RL.p rfl rfl ?_
    refine RL.op (.free rfl) rfl rfl (Does.appendZ u22 Tryz.underlying3 i3 rfl rfl (m := m) (c := 0) rfl rfl (by omega) hb) ?_
    rintro _ w1 ⟨b1, cap1, cur1, rfl, hb1, hh1, hc1, hm1, hs1, hg1⟩
    refine RL.p rfl rfl ?_
    refine RL.q (.free rfl) rfl rfl (Yld.lenSl u22 rfl) ?_
    refine RL.q (.free rfl) rfl rfl (Yld.sliceHi u22 i3 (m := 0) rfl rfl (by omega)) ?_
    refine RL.p rfl rfl ?_
    refine RL.done ?_
    refine RK.seq ?_
    refine RK.region ?_
    iterate 2 refine RL.p rfl rfl ?_
    refine RL.done ?_
    refine RK.ret_of Tryz.func159 (res1 rfl rfl) ?_ _
    exact ⟨_, rfl, ⟨by simp, .inr ⟨b1, cap1, cur1, rfl, Nat.zero_le _, hh1, by omega, hm1, hs1, by simp⟩⟩, fun b hb => by simp [Value.ownBlock] at hb; omega, hg1⟩
  · refine RK.skip ?_
    refine RK.seq ?_
    refine RK.region ?_
    iterate 2 refine RL.p rfl rfl ?_
    refine RL.done ?_
    refine RK.ret_of Tryz.func159 (res1 rfl rfl) ?_ _
    exact ⟨_, rfl, Row.nil _ _ _, fun b hb => by simp [Value.ownBlock] at hb, Mod.refl _ _⟩
def total (pr : List (Value × List Int)) : Nat := (pr.map fun p => p.2.length).sum
theorem total_take {pr : List (Value × List Int)} {k : Nat} {p : Value × List Int} (h : pr[k]? = some p) : total (pr.take (k + 1)) = total (pr.take k) + p.2.length := by
  have hk : k < pr.length := (List.getElem?_eq_some_iff.1 h).1
  rw [List.take_succ_eq_append_getElem hk]
  have : pr[k] = p := (List.getElem?_eq_some_iff.1 h).2
  simp [total, this]
theorem total_le (pr : List (Value × List Int)) (k : Nat) : total (pr.take k) ≤ total pr := by
  have : total pr = total (pr.take k) + total (pr.drop k) := by
    unfold total
    rw [← List.sum_append, ← List.map_append, List.take_append_drop]
  omega
theorem concat_ok (M : Nat → Prop) (pr : List (Value × List Int)) (v : Value) (w : World) (hv : Sl M w v 1 pr.length (pr.map (·.1))) (hs : ∀ p ∈ pr, Sl M w p.1 1 p.2.length (ints p.2)) (hb : total pr * 8 ≤ 140737488355328) :
    Fx Tryz.prog 120 [v] w (fun u w' => Row w' 3 1 u (pr.flatMap (·.2)).length (ints (pr.flatMap (·.2))) ∧ Fresh w.heap.size u ∧ Grow w w') := by
  obtain ⟨ad, c, b, o, rfl, hf⟩ := hv.open
  refine enter Tryz.func120 rfl rfl rfl _ (Pick.sub (l := [0]) (.cons rfl .nil)) ?_
  refine RK.seq ?_
  refine RK.region ?_
  refine RL.p rfl rfl ?_
  refine RL.done ?_
  refine RK.seq ?_
  refine RK.region ?_
  refine RL.p rfl rfl ?_
  refine RL.done ?_
  iterate 2 refine RK.seq ?_
  refine RK.region ?_
  refine RL.p rfl rfl ?_
  refine RL.q (.free rfl) rfl rfl (Yld.lenSl u194 rfl) ?_
  refine RL.p rfl rfl ?_
  refine RL.done ?_
  refine RK.block ?_
  refine RK.loop (fun k : Nat => [(0, .slice ad pr.length c), (9, .slice ad pr.length c), (10, .int .i64 pr.length), (11, .int .i64 k), (3, .int .i64 (total (pr.take k)))]) (fun k w' => w = w' ∧ k ≤ pr.length) (fun k => pr.length - k) 0 ⟨rfl, rfl, rfl, rfl, rfl, trivial⟩ ⟨rfl, by omega⟩ (fun k w' hI ih => ?_)
  obtain ⟨rfl, hk⟩ := hI
  refine RK.seq ?_
  refine RK.region ?_
  refine RL.p rfl rfl ?_
  refine RL.done ?_
  refine RK.seq ?_
  first | refine RK.condD rfl (fun h12 => ?_) (fun h12 => ?_) | refine RK.condN rfl (fun h12 => ?_) (fun h12 => ?_) | refine RK.cond rfl (fun h12 => ?_) (fun h12 => ?_)
  · obtain ⟨p, hp⟩ : ∃ p, pr[k]? = some p := ⟨pr[k]'(by omega), List.getElem?_eq_getElem (by omega)⟩
    obtain ⟨rfl, hbM, hc⟩ := hf (by omega)
    have hsp := hs p (List.mem_of_getElem? hp)
    obtain ⟨adp, cp, hpv⟩ := hsp.shape
    have ht := total_take hp
    have htl := total_le pr (k + 1)
    refine RK.skip ?_
    refine RK.seq ?_
    refine RK.block ?_
    refine RK.seq ?_
    refine RK.region ?_
    refine RL.q (.free rfl) rfl rfl (Yld.indexAddrN u194 i22 rfl rfl (by omega)) ?_
    refine RL.q (.free rfl) rfl rfl (Yld.load p22 rfl (at1 (by have := hc k p.1 (by simp [hp]); rw [hpv] at this; simpa using this))) ?_
    refine RL.p rfl rfl ?_
    refine RL.done ?_
    refine RK.seq ?_
    refine RK.region ?_
    iterate 2 refine RL.p rfl rfl ?_
    refine RL.q (.free rfl) rfl rfl (Yld.lenSl u22 rfl) ?_
    refine RL.p rfl rfl ?_
    refine RL.re (d := 18) rfl rfl (add_i64 (z := ((total (pr.take (k + 1)) : Nat) : Int)) (by rw [ht]; simp) (by omega) (by omega)) ?_
    refine RL.p rfl rfl ?_
    refine RL.done ?_
    refine RK.seq ?_
    refine RK.region ?_
    iterate 2 refine RL.p rfl rfl ?_
    refine RL.done ?_
    refine RK.condF (hcF rfl (decide_eq_false (by omega))) ?_
    refine RK.skip ?_
    refine RK.inBlock ?_
    refine RK.region ?_
    refine RL.p rfl rfl ?_
    refine RL.re (d := 22) rfl rfl (succ_i64 (by have := hv.big; omega)) ?_
    refine RL.p rfl rfl ?_
    refine RL.done ?_
    exact RK.back (ih (k + 1) _ ⟨rfl, by omega⟩ (by omega)) ⟨rfl, rfl, rfl, rfl, rfl, trivial⟩
  · have ek : pr.take k = pr := List.take_of_length_le (by omega)
    rw [ek]
    refine RK.exit rfl ?_
    refine RK.seq ?_
    refine RK.region ?_
    refine RL.p rfl rfl ?_
    refine RL.op (.free rfl) rfl rfl (Does.call rfl e159 (growNil_ok (total pr) _ hb)) ?_
    rintro u0 w1 ⟨hr1, hf1, hg1⟩
    refine RL.p rfl rfl ?_
    refine RL.done ?_
    iterate 2 refine RK.seq ?_
    refine RK.region ?_
    refine RL.p rfl rfl ?_
    refine RL.q (.free rfl) rfl rfl (Yld.lenSl u194 rfl) ?_
    refine RL.p rfl rfl ?_
    refine RL.done ?_
    refine RK.block ?_
    refine RK.loop (fun (s : Nat × Value) => [(25, .slice ad pr.length c), (26, .int .i64 pr.length), (27, .int .i64 s.1), (6, s.2)]) (fun s w' => Row w' 3 1 s.2 ((pr.take s.1).flatMap (·.2)).length (ints ((pr.take s.1).flatMap (·.2))) ∧ Fresh w.heap.size s.2 ∧ Grow w w' ∧ s.1 ≤ pr.length) (fun s => pr.length - s.1) (0, u0) ⟨rfl, rfl, rfl, rfl, trivial⟩ ⟨by simpa using hr1, hf1, hg1, by omega⟩ (fun s w' hI ih => ?_)
    obtain ⟨k2, u⟩ := s
    obtain ⟨hr, hfr, hg, hk2⟩ := hI
    simp only at hr hfr hk2
    refine RK.seq ?_
    refine RK.region ?_
    refine RL.p rfl rfl ?_
    refine RL.done ?_
    refine RK.seq ?_
    first | refine RK.condD rfl (fun h28 => ?_) (fun h28 => ?_) | refine RK.condN rfl (fun h28 => ?_) (fun h28 => ?_) | refine RK.cond rfl (fun h28 => ?_) (fun h28 => ?_)
    · obtain ⟨p, hp⟩ : ∃ p, pr[k2]? = some p := ⟨pr[k2]'(by omega), List.getElem?_eq_getElem (by omega)⟩
      obtain ⟨rfl, hbM, hc⟩ := hf (by omega)
      have hsp := hs p (List.mem_of_getElem? hp)
      have ht := total_take hp
      have htl := total_le pr (k2 + 1)
      have e1 : ((pr.take k2).flatMap (·.2)).length = total (pr.take k2) := by simp [total, List.length_flatMap]
      have e2 : (pr.take (k2 + 1)).flatMap (·.2) = (pr.take k2).flatMap (·.2) ++ p.2 := by rw [List.take_succ_eq_append_getElem (by omega)]; simp [(List.getElem?_eq_some_iff.1 hp).2]
      refine RK.skip ?_
      refine RK.seq ?_
      refine RK.block ?_
      refine RK.seq ?_
      refine RK.region ?_
      refine RL.q (.free rfl) rfl rfl (Yld.indexAddrN u194 i22 rfl rfl (by omega)) ?_
      refine RL.q (.free rfl) rfl rfl (Yld.load p22 rfl (at1 (hg.cell (by have := hc k2 p.1 (by simp [hp]); simpa using this) (fun h => h)))) ?_
      refine RL.p rfl rfl ?_
      refine RL.done ?_
      refine RK.region ?_
      iterate 2 refine RL.p rfl rfl ?_
      refine RL.op (.free rfl) rfl rfl (Does.append u22 i3 rfl rfl rfl rfl rfl (hr) ((hsp.mod (Mod.any' hg)).noM) (allOne_ints _) (by rw [e1]; omega)) ?_
      rintro u2 w2 ⟨hr2, hm2, hu2⟩
      refine RL.p rfl rfl ?_
      refine RL.done ?_
      refine RK.inBlock ?_
      refine RK.region ?_
      refine RL.p rfl rfl ?_
      refine RL.re (d := 34) rfl rfl (succ_i64 (by have := hv.big; omega)) ?_
      refine RL.p rfl rfl ?_
      refine RL.done ?_
      exact RK.back (ih (k2 + 1, u2) _ ⟨by rw [e2]; simpa using hr2, fun b hb => by rcases hu2 with h | h <;> rw [h] at hb; exact hfr b hb; (cases hb; exact hg.size), hg.then hm2 (fun x hx e => by have := hfr x e; omega), by simp; omega⟩ (by simp; omega)) ⟨rfl, rfl, rfl, rfl, trivial⟩
    · have ek2 : pr.take k2 = pr := List.take_of_length_le (by omega)
      rw [ek2] at hr
      refine RK.exit rfl ?_
      refine RK.seq ?_
      refine RK.region ?_
      iterate 2 refine RL.p rfl rfl ?_
      refine RL.done ?_
      refine RK.ret_of Tryz.func120 (res1 rfl rfl) ?_ _
      exact ⟨_, rfl, hr, hfr, hg⟩
end Go.Proofs.YtffbcfcoddacmaaGreat

