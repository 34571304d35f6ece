/- What the claim stands on, part 8. Of own lemmas only those that it reaches. -/
import Derived.Test.YtffbcfcoddacmaaGreatKw7
set_option linter.unusedVariables false
set_option linter.unusedSimpArgs false
set_option maxHeartbeats 1000000
set_option maxRecDepth 100000
namespace Go.Proofs.YtffbcfcoddacmaaGreat
open Go Go.X Go.Rex
def idxT (o : List Bool) (k : Nat) : List Int := ((List.range k).filter fun i => decide (o[i]? = some true)).map fun (i : Nat) => (i : Int)
theorem idxT_snoc (o : List Bool) (k : Nat) : idxT o (k + 1) = if o[k]? = some true then idxT o k ++ [(k : Int)] else idxT o k := by
  unfold idxT
  rw [List.range_succ, List.filter_append, List.map_append]
  by_cases h : o[k]? = some true <;> simp [h]
theorem idxT_lt {o : List Bool} {k : Nat} {z : Int} (h : z ∈ idxT o k) : 0 ≤ z ∧ z < k := by
  unfold idxT at h
  obtain ⟨i, hi, rfl⟩ := List.mem_map.1 h
  have := List.mem_range.1 (List.mem_filter.1 hi).1
  omega
theorem idxT_last (o : List Bool) (n : Nat) : (0 < (idxT o (n + 1)).length ∧ (idxT o (n + 1))[(idxT o (n + 1)).length - 1]? = some (n : Int)) ↔ o[n]? = some true := by
  rw [idxT_snoc]
  by_cases h : o[n]? = some true
  · rw [if_pos h]; simp [h]
  · rw [if_neg h]
    simp only [h, iff_false, not_and]
    intro _ he
    have := idxT_lt (List.mem_of_getElem? he)
    omega
theorem idxT_len (o : List Bool) (k : Nat) : (idxT o k).length ≤ k := by
  unfold idxT
  rw [List.length_map]
  exact Nat.le_trans (List.length_filter_le _ _) (by simp)
theorem endsT_ok (x : Rx) (ht : Tr false x) (s : ByteArray) (hs : s.size ≤ 100000) (M : Nat → Prop) (k : Cel) (w : World) (hv : RxV M w x [k]) : Fx Tryz.prog 217 [.agg (celC k).toArray, .string s, .int .i64 0] w (fun u w' => (∃ o, o.length = s.size + 1 ∧ (o[s.size]? = some true ↔ Lg (HS s) x true 0 s.size) ∧ Row w' 3 1 u (idxT o (s.size + 1)).length (ints (idxT o (s.size + 1)))) ∧ Grow w w') := by
  refine enter Tryz.func217 rfl rfl rfl _ (Pick.sub (l := [0, 1, 2]) (.cons rfl (.cons rfl (.cons rfl .nil)))) ?_
  refine RK.seq ?_
  refine RK.region ?_
  refine RL.op (.free rfl) rfl rfl (Does.box rfl) ?_
  rintro _ w1 ⟨b3, rfl, hn3⟩
  refine RL.p rfl rfl ?_
  refine RL.done ?_
  iterate 2 refine RK.seq ?_
  refine RK.region ?_
  refine RL.q (.free rfl) rfl rfl (Yld.loadN (cs := celC k) a210 rfl (atN (blk0' hn3.blk))) ?_
  refine RL.op (.free rfl) rfl rfl (Does.call rfl e239 (isRex_ok _ x (Nat.le_refl _) ht M k _ (RxV.grow hn3.grow x hv))) ?_
  rintro _ w2 ⟨rfl, hg2⟩
  have hB2 := hn3.blk.mod hg2 (fun h => h)
  iterate 2 refine RL.p rfl rfl ?_
  refine RL.knownF (d := 14) rfl rfl (rfl) ?_
  iterate 2 refine RL.q (.yes rfl rfl rfl) rfl rfl (Yld.pure rfl) ?_
  iterate 2 refine RL.p rfl rfl ?_
  refine RL.knownF (d := 18) rfl rfl (rfl) ?_
  iterate 2 refine RL.q (.yes rfl rfl rfl) rfl rfl (Yld.pure rfl) ?_
  refine RL.q (.yes rfl rfl rfl) rfl rfl (Yld.lenStr u9 rfl) ?_
  refine RL.q (.yes rfl rfl rfl) rfl rfl (Yld.pure rfl) ?_
  refine RL.p rfl rfl ?_
  refine RL.done ?_
  refine RK.condF (hcF rfl (decide_eq_false (by omega))) ?_
  refine RK.skip ?_
  refine RK.seq ?_
  refine RK.region ?_
  refine RL.p rfl rfl ?_
  refine RL.q (.free rfl) rfl rfl (Yld.lenStr u9 rfl) ?_
  refine RL.p rfl rfl ?_
  refine RL.re (d := 26) rfl rfl (succ_i64 (by omega)) ?_
  refine RL.op (.free rfl) rfl rfl (Does.mkSlice u270 i4 rfl rfl rfl (by omega) (by omega)) ?_
  rintro _ w3 ⟨b7, rfl, hn7⟩
  refine RL.p rfl rfl ?_
  refine RL.done ?_
  refine RK.seq ?_
  refine RK.region ?_
  iterate 2 refine RL.p rfl rfl ?_
  refine RL.q (.free rfl) rfl rfl (Yld.indexAddr u270 i4 rfl rfl (by omega) (by omega)) ?_
  refine RL.op' (.free rfl) rfl (Does.store i4 rfl rfl rfl hn7.blk (setAt_of (by simp))) ?_
  rintro _ w4 ⟨hb4, hm4, _⟩
  have hb7 := hn7.at_
  have hg4 : Grow w2 w4 := hn7.grow.then hm4 (fun y hy e => by have e' : y = b7 := e; omega)
  obtain ⟨f0, hf0⟩ : ∃ f0, (List.replicate (s.size + 1) false).set 0 true = f0 := ⟨_, rfl⟩
  have hB4 : Blk w4 b7 4 (bls f0) := by rw [← hf0]; have h9 := hb4; rw [show bls ((List.replicate (s.size + 1) false).set 0 true) = (List.replicate (s.size + 1) (Value.bool false)).set 0 (.bool true) by simp [bls, List.map_set]]; simpa using h9
  have hfl : f0.length = s.size + 1 := by rw [← hf0]; simp
  have hv4 : SlB No w4 (.slice (some ⟨b7, 0, none⟩) (s.size + 1) (s.size + 1)) f0 := ⟨by simp, by rw [hfl]; omega, some ⟨b7, 0, none⟩, s.size + 1, by rw [hfl], fun _ => ⟨b7, 0, rfl, fun h => h, fun j u hj => by rw [Nat.zero_add]; exact hB4.cell' hj⟩⟩
  have hg04 := (hn3.grow.trans hg2).trans hg4
  refine RL.done ?_
  refine RK.seq ?_
  refine RK.region ?_
  refine RL.q (.free rfl) rfl rfl (Yld.loadN (cs := celC k) a210 rfl (atN (blk0' (hB2.mod hg4 (fun h => h))))) ?_
  iterate 2 refine RL.p rfl rfl ?_
  refine RL.op (.free rfl) rfl rfl (Does.call rfl e243 (after_ok s hs _ x (Nat.le_refl _) ht M k _ f0 _ (RxV.grow hg04 x hv) hv4 hfl)) ?_
  rintro u8 w5 ⟨⟨o, hE, hu8⟩, hg5⟩
  have hends : o[s.size]? = some true ↔ Lg (HS s) x true 0 s.size := by
      rw [hE.2]
      constructor
      · rintro ⟨_, i, h1, h2⟩
        have : i = 0 := by
          rw [← hf0] at h1
          cases i with
          | zero => rfl
          | succ i => rw [List.getElem?_set_ne (by omega)] at h1; simp [List.getElem?_replicate] at h1
        subst this; exact h2
      · intro h; exact ⟨Nat.le_refl _, 0, by rw [← hf0]; simp, h⟩
  obtain ⟨ad8, c8, rfl⟩ := hu8.shape
  have hol := hE.1
  refine RL.p rfl rfl ?_
  refine RL.done ?_
  refine RK.seq ?_
  refine RK.region ?_
  refine RL.p rfl rfl ?_
  refine RL.done ?_
  iterate 2 refine RK.seq ?_
  refine RK.region ?_
  refine RL.p rfl rfl ?_
  refine RL.done ?_
  refine RK.block ?_
  refine RK.loop (fun t : Nat × Value => [(1, .string s), (8, .slice ad8 o.length c8), (9, t.2), (10, .int .i64 (t.1 : Int))]) (fun t w' => t.1 ≤ s.size + 1 ∧ Row w' 3 1 t.2 (idxT o t.1).length (ints (idxT o t.1)) ∧ Fresh w5.heap.size t.2 ∧ Grow w5 w') (fun t => s.size + 1 - t.1) (0, .slice none 0 0) ⟨rfl, rfl, rfl, rfl, trivial⟩ ⟨by simp, by simpa [idxT] using Row.nil _ _ _, fun b hb => by simp [Value.ownBlock] at hb, Mod.refl _ _⟩ (fun t w6 hI ih => ?_)
  obtain ⟨q, u⟩ := t
  obtain ⟨hq, hr, hf, hg6⟩ := hI
  simp only at hq hr hf
  have hil := idxT_len o q
  iterate 2 refine RK.seq ?_
  refine RK.region ?_
  iterate 2 refine RL.p rfl rfl ?_
  refine RL.q (.free rfl) rfl rfl (Yld.lenStr u9 rfl) ?_
  refine RL.p rfl rfl ?_
  refine RL.done ?_
  first | refine RK.condD rfl (fun h38 => ?_) (fun h38 => ?_) | refine RK.condN rfl (fun h38 => ?_) (fun h38 => ?_) | refine RK.cond rfl (fun h38 => ?_) (fun h38 => ?_)
  · have hqs : q < s.size + 1 := by simp only at h38; omega
    obtain ⟨bb, hbb⟩ : ∃ bb, o[q]? = some bb := ⟨o[q]'(by omega), List.getElem?_eq_getElem (by omega)⟩
    obtain ⟨b9, o9, c9, he9, _, _, hc9⟩ := hu8.elem1 (bls_get hbb)
    cases he9
    have hsn := idxT_snoc o q
    refine RK.skip ?_
    refine RK.seq ?_
    refine RK.block ?_
    refine RK.seq ?_
    refine RK.region ?_
    iterate 2 refine RL.p rfl rfl ?_
    refine RL.q (.free rfl) rfl rfl (Yld.indexAddrN u270 i4 rfl rfl (by omega)) ?_
    refine RL.q (.free rfl) rfl rfl (Yld.load p4 rfl (at1 (hg6.cell (hc9 q _ (bls_get hbb)) (fun h => h)))) ?_
    refine RL.done ?_
    first | refine RK.condD rfl (fun h44 => ?_) (fun h44 => ?_) | refine RK.condN rfl (fun h44 => ?_) (fun h44 => ?_) | refine RK.cond rfl (fun h44 => ?_) (fun h44 => ?_)
    · rw [if_pos (by rw [hbb, h44])] at hsn
      refine RK.region ?_
      iterate 2 refine RL.p rfl rfl ?_
      refine RL.op (.free rfl) rfl rfl (Does.slice1 u22 i3 rfl rfl rfl rfl rfl) ?_
      rintro _ w7 ⟨b10, rfl, hn10⟩
      refine RL.op (.free rfl) rfl rfl (Does.append u22 i3 rfl rfl rfl rfl rfl (hr.mod hn10.grow (fun _ _ h => h)) (Sl.new hn10 1 1 rfl (by omega) (fun h => h)) (rfl) (by omega)) ?_
      rintro u11 w8 ⟨hr8, hm8, hu11⟩
      have hs6 := hg6.size
      have hs7 := hn10.grow.size
      refine RL.p rfl rfl ?_
      refine RL.done ?_
      refine RK.inBlock ?_
      refine RK.region ?_
      iterate 2 refine RL.p rfl rfl ?_
      refine RL.re (d := 40) rfl rfl (succ_i64 (by omega)) ?_
      refine RL.p rfl rfl ?_
      refine RL.done ?_
      exact RK.back (ih (q + 1, u11) _ ⟨by simp only; omega, by simp only; rw [hsn, show ints (idxT o q ++ [(q : Int)]) = ints (idxT o q) ++ [.int .i64 (q : Int)] by simp [ints], List.length_append]; exact hr8, fun b e => by
          rcases hu11 with h1 | h1
          · exact hf b (h1 ▸ e)
          · simp only at e; rw [h1] at e; cases e; omega, (hg6.trans hn10.grow).then hm8 (fun b hb e => by have := hf b e; omega)⟩ (by simp only; omega)) ⟨rfl, rfl, rfl, rfl, trivial⟩
    · rw [if_neg (by rw [hbb, h44]; simp)] at hsn
      refine RK.skip ?_
      refine RK.inBlock ?_
      refine RK.region ?_
      iterate 2 refine RL.p rfl rfl ?_
      refine RL.re (d := 40) rfl rfl (succ_i64 (by omega)) ?_
      refine RL.p rfl rfl ?_
      refine RL.done ?_
      exact RK.back (ih (q + 1, u) _ ⟨by simp only; omega, by simp only; rw [hsn]; exact hr, hf, hg6⟩ (by simp only; omega)) ⟨rfl, rfl, rfl, rfl, trivial⟩
  · have hqe : q = s.size + 1 := by simp only at h38; omega
    subst hqe
    refine RK.exit rfl ?_
    refine RK.seq ?_
    refine RK.region ?_
    iterate 2 refine RL.p rfl rfl ?_
    refine RL.done ?_
    refine RK.ret_of Tryz.func217 (res1 rfl rfl) ?_ _
    exact ⟨_, rfl, ⟨o, hol, hends, hr⟩, (hg04.trans hg5).trans hg6⟩
theorem takesR_ok (x : Rx) (ht : Tr false x) (s : ByteArray) (hs : s.size ≤ 100000) (M : Nat → Prop) (k : Cel) (w : World) (hv : RxV M w x [k]) : Fx Tryz.prog 176 [.agg (celC k).toArray, .string s] w (fun u w' => u = .bool (takes x s) ∧ Grow w w') := by
  refine enter Tryz.func176 rfl rfl rfl _ (Pick.sub (l := [0, 1]) (.cons rfl (.cons rfl .nil))) ?_
  refine RK.seq ?_
  refine RK.region ?_
  refine RL.op (.free rfl) rfl rfl (Does.box rfl) ?_
  rintro _ w1 ⟨b3, rfl, hn3⟩
  refine RL.p rfl rfl ?_
  refine RL.done ?_
  refine RK.seq ?_
  refine RK.region ?_
  refine RL.q (.free rfl) rfl rfl (Yld.loadN (cs := celC k) a210 rfl (atN (blk0' hn3.blk))) ?_
  refine RL.p rfl rfl ?_
  refine RL.op (.free rfl) rfl rfl (Does.call rfl e217 (endsT_ok x ht s hs M k _ (RxV.grow hn3.grow x hv))) ?_
  rintro u2 w2 ⟨⟨o, hol, hends, hr⟩, hg2⟩
  have hlast := idxT_last o s.size
  have hil := idxT_len o (s.size + 1)
  obtain ⟨ad, c, rfl⟩ := hr.slice
  have hg02 := hn3.grow.trans hg2
  refine RL.p rfl rfl ?_
  refine RL.done ?_
  refine RK.seq ?_
  refine RK.region ?_
  refine RL.p rfl rfl ?_
  refine RL.q (.free rfl) rfl rfl (Yld.lenSl u22 rfl) ?_
  iterate 2 refine RL.p rfl rfl ?_
  first | refine RL.splitD (d := 12) rfl rfl (fun h12 => ?_) (fun h12 => ?_) | refine RL.splitN (d := 12) rfl rfl (fun h12 => ?_) (fun h12 => ?_) | refine RL.split (d := 12) rfl rfl (fun h12 => ?_) (fun h12 => ?_)
  · have hpos : 0 < (idxT o (s.size + 1)).length := by omega
    obtain ⟨z, hz⟩ : ∃ z, (idxT o (s.size + 1))[(idxT o (s.size + 1)).length - 1]? = some z := ⟨_, List.getElem?_eq_getElem (by omega)⟩
    have hsl : Sl No w2 (.slice ad (idxT o (s.size + 1)).length c) 1 (idxT o (s.size + 1)).length (ints (idxT o (s.size + 1))) := Sl.own hr (fun _ _ h => h)
    obtain ⟨b9, o9, c9, he9, _, _, hc9⟩ := hsl.elem1 (k := (idxT o (s.size + 1)).length - 1) (u := .int .i64 z) (by simp [hz])
    cases he9
    iterate 2 refine RL.q (.yes rfl rfl rfl) rfl rfl (Yld.pure rfl) ?_
    refine RL.q (.yes rfl rfl rfl) rfl rfl (Yld.lenSl u22 rfl) ?_
    refine RL.q (.yes rfl rfl rfl) rfl rfl (Yld.pure rfl) ?_
    refine RL.re (d := 16) rfl rfl (sub_i64 (z := (((idxT o (s.size + 1)).length - 1 : Nat) : Int)) (by omega) (by omega) (by omega)) ?_
    refine RL.q (.yes rfl rfl rfl) rfl rfl (Yld.indexAddrN u22 i3 rfl rfl (by omega)) ?_
    refine RL.q (.yes rfl rfl rfl) rfl rfl (Yld.load p3 rfl (at1 (hc9 _ (.int .i64 z) (by simp [hz])))) ?_
    refine RL.q (.yes rfl rfl rfl) rfl rfl (Yld.pure rfl) ?_
    refine RL.q (.yes rfl rfl rfl) rfl rfl (Yld.lenStr u9 rfl) ?_
    refine RL.q (.yes rfl rfl rfl) rfl rfl (Yld.pure rfl) ?_
    iterate 2 refine RL.p rfl rfl ?_
    refine RL.done ?_
    refine RK.ret_of Tryz.func176 (res1 rfl rfl) ?_ _
    exact ⟨_, rfl, congrArg _ (by
        rw [Bool.eq_iff_iff, decide_eq_true_eq, takes_iff, ← hends, ← hlast, hz]
        simp [hpos]), hg02⟩
  · have hpos : ¬ 0 < (idxT o (s.size + 1)).length := by omega
    iterate 9 refine RL.no (.no rfl rfl rfl rfl) rfl rfl ?_
    iterate 2 refine RL.p rfl rfl ?_
    refine RL.done ?_
    refine RK.ret_of Tryz.func176 (res1 rfl rfl) ?_ _
    exact ⟨_, rfl, congrArg _ (by
        have h9 : ¬ takes x s = true := by rw [takes_iff, ← hends, ← hlast]; exact fun h => hpos h.1
        cases hx : takes x s with
        | false => rfl
        | true => exact absurd hx h9), hg02⟩
theorem pattern_ok (m : Mt) (w : World) : Fx Tryz.prog 182 [.agg #[.int .i64 m.kind, .string m.name, .string m.value]] w (fun u w' => u = .bool (likeS m) ∧ Grow w w') := by
  refine enter Tryz.func182 rfl rfl rfl _ (Pick.sub (l := [0]) (.cons rfl .nil)) ?_
  refine RK.seq ?_
  refine RK.region ?_
  refine RL.op (.free rfl) rfl rfl (Does.box rfl) ?_
  rintro _ w1 ⟨b1, rfl, hn1⟩
  refine RL.p rfl rfl ?_
  refine RL.done ?_
  refine RK.seq ?_
  refine RK.region ?_
  refine RL.q (.free rfl) rfl rfl (Yld.fieldAddr fo50_0 rfl) ?_
  refine RL.q (.free rfl) rfl rfl (Yld.load p3 rfl (at1 (hn1.blk.cell rfl))) ?_
  iterate 2 refine RL.p rfl rfl ?_
  first | refine RL.splitD (d := 6) rfl rfl (fun h6 => ?_) (fun h6 => ?_) | refine RL.splitN (d := 6) rfl rfl (fun h6 => ?_) (fun h6 => ?_) | refine RL.split (d := 6) rfl rfl (fun h6 => ?_) (fun h6 => ?_)
  · iterate 3 refine RL.no (.no rfl rfl rfl rfl) rfl rfl ?_
    iterate 2 refine RL.p rfl rfl ?_
    refine RL.done ?_
    refine RK.ret_of Tryz.func182 (res1 rfl rfl) ?_ _
    exact ⟨_, rfl, congrArg _ (by unfold likeS; simp_all), hn1.grow⟩
  · refine RL.q (.yes rfl rfl rfl) rfl rfl (Yld.fieldAddr fo50_0 rfl) ?_
    refine RL.q (.yes rfl rfl rfl) rfl rfl (Yld.load p3 rfl (at1 (hn1.blk.cell rfl))) ?_
    refine RL.q (.yes rfl rfl rfl) rfl rfl (Yld.pure rfl) ?_
    iterate 2 refine RL.p rfl rfl ?_
    refine RL.done ?_
    refine RK.ret_of Tryz.func182 (res1 rfl rfl) ?_ _
    exact ⟨_, rfl, congrArg _ (by unfold likeS; simp_all), hn1.grow⟩
theorem isMatcher_ok (m : Mt) (hsz : m.name.size ≤ 9223372036854775807) (w : World) : Fx Tryz.prog 155 [.agg #[.int .i64 m.kind, .string m.name, .string m.value]] w (fun u w' => u = .bool (isM m) ∧ Grow w w') := by
  refine enter Tryz.func155 rfl rfl rfl _ (Pick.sub (l := [0]) (.cons rfl .nil)) ?_
  refine RK.seq ?_
  refine RK.region ?_
  refine RL.op (.free rfl) rfl rfl (Does.box rfl) ?_
  rintro _ w1 ⟨b1, rfl, hn1⟩
  have hB1 : Blk w1 b1 50 [.int .i64 m.kind, .string m.name, .string m.value] := hn1.blk
  refine RL.p rfl rfl ?_
  refine RL.done ?_
  iterate 2 refine RK.seq ?_
  refine RK.region ?_
  refine RL.q (.free rfl) rfl rfl (Yld.fieldAddr fo50_1 rfl) ?_
  refine RL.q (.free rfl) rfl rfl (Yld.load p9 rfl (at1 (hB1.cell rfl))) ?_
  refine RL.op (.free rfl) rfl rfl (Does.call rfl e106 (name2_ok _ hsz _)) ?_
  rintro _ _ ⟨rfl, rfl⟩
  refine RL.p rfl rfl ?_
  refine RL.done ?_
  first | refine RK.condD rfl (fun h8 => ?_) (fun h8 => ?_) | refine RK.condN rfl (fun h8 => ?_) (fun h8 => ?_) | refine RK.cond rfl (fun h8 => ?_) (fun h8 => ?_)
  · refine RK.seq ?_
    refine RK.region ?_
    refine RL.p rfl rfl ?_
    refine RL.done ?_
    refine RK.ret_of Tryz.func155 (res1 rfl rfl) ?_ _
    exact ⟨_, rfl, congrArg _ (by unfold isM; simp at h8; rw [h8]; rfl), hn1.grow⟩
  · have hnm : nameS m.name = true := by simpa using h8
    refine RK.skip ?_
    iterate 2 refine RK.seq ?_
    refine RK.region ?_
    refine RL.q (.free rfl) rfl rfl (Yld.loadN (cs := [.int .i64 m.kind, .string m.name, .string m.value]) a50 rfl (atN (blk0' hB1))) ?_
    refine RL.op (.free rfl) rfl rfl (Does.call rfl e182 (pattern_ok m _)) ?_
    rintro _ w2 ⟨rfl, hg2⟩
    have hB2 := hB1.mod hg2 (fun h => h)
    have hg02 := hn1.grow.trans hg2
    refine RL.done ?_
    first | refine RK.condD rfl (fun h10 => ?_) (fun h10 => ?_) | refine RK.condN rfl (fun h10 => ?_) (fun h10 => ?_) | refine RK.cond rfl (fun h10 => ?_) (fun h10 => ?_)
    · have hl : likeS m = true := by first | exact h10 | (unfold likeS; simpa using h10)
      refine RK.seq ?_
      refine RK.region ?_
      refine RL.q (.free rfl) rfl rfl (Yld.fieldAddr fo50_2 rfl) ?_
      refine RL.q (.free rfl) rfl rfl (Yld.load p9 rfl (at1 (hB2.cell rfl))) ?_
      refine RL.op (.free rfl) rfl rfl (Does.call rfl e175 (rparse_ok m.value _)) ?_
      rintro _ w3 ⟨c, rfl, hg3, hx⟩
      iterate 3 refine RL.p rfl rfl ?_
      refine RL.op (.free rfl) rfl rfl (Does.alloc i210) ?_
      rintro _ w4 ⟨b3, rfl, hn3⟩
      refine RL.op' (.free rfl) rfl (Does.storeN i210 rfl rfl rfl rfl hn3.blk (Nat.le_refl 6)) ?_
      rintro _ w5 ⟨hb5, hm5, _⟩
      refine RL.p rfl rfl ?_
      refine RL.done ?_
      refine RK.seq ?_
      refine RK.region ?_
      iterate 2 refine RL.p rfl rfl ?_
      refine RL.done ?_
      refine RK.ret_of Tryz.func155 (res1 rfl rfl) ?_ _
      exact ⟨_, rfl, congrArg _ (by unfold isM patS; rw [hnm, hl]; rfl), ((hg02.trans hg3).trans hn3.grow).then hm5 (fun y hy e => by have e' : y = b3 := e; have := hn3.at_; have := (hg02.trans hg3).size; omega)⟩
    · have hl : likeS m = false := by unfold likeS; simpa using h10
      refine RK.skip ?_
      refine RK.seq ?_
      refine RK.region ?_
      refine RL.q (.free rfl) rfl rfl (Yld.fieldAddr fo50_0 rfl) ?_
      refine RL.q (.free rfl) rfl rfl (Yld.load p3 rfl (at1 (hB2.cell rfl))) ?_
      iterate 2 refine RL.p rfl rfl ?_
      first | refine RL.splitD (d := 21) rfl rfl (fun h21 => ?_) (fun h21 => ?_) | refine RL.splitN (d := 21) rfl rfl (fun h21 => ?_) (fun h21 => ?_) | refine RL.split (d := 21) rfl rfl (fun h21 => ?_) (fun h21 => ?_)
      · iterate 3 refine RL.no (.no rfl rfl rfl rfl) rfl rfl ?_
        iterate 2 refine RL.p rfl rfl ?_
        refine RL.q (.yes rfl rfl rfl) rfl rfl (Yld.fieldAddr fo50_2 rfl) ?_
        refine RL.q (.yes rfl rfl rfl) rfl rfl (Yld.load p9 rfl (at1 (hB2.cell rfl))) ?_
        refine RL.q (.yes rfl rfl rfl) rfl rfl (Yld.lenStr u9 rfl) ?_
        refine RL.q (.yes rfl rfl rfl) rfl rfl (Yld.pure rfl) ?_
        iterate 2 refine RL.p rfl rfl ?_
        refine RL.done ?_
        refine RK.ret_of Tryz.func155 (res1 rfl rfl) ?_ _
        exact ⟨_, rfl, congrArg _ (by unfold isM; rw [hnm, hl, Bool.eq_iff_iff]; simp_all <;> omega), hg02⟩
      · refine RL.q (.yes rfl rfl rfl) rfl rfl (Yld.fieldAddr fo50_0 rfl) ?_
        refine RL.q (.yes rfl rfl rfl) rfl rfl (Yld.load p3 rfl (at1 (hB2.cell rfl))) ?_
        refine RL.q (.yes rfl rfl rfl) rfl rfl (Yld.pure rfl) ?_
        iterate 2 refine RL.p rfl rfl ?_
        first | refine RL.splitD (d := 26) rfl rfl (fun h26 => ?_) (fun h26 => ?_) | refine RL.splitN (d := 26) rfl rfl (fun h26 => ?_) (fun h26 => ?_) | refine RL.split (d := 26) rfl rfl (fun h26 => ?_) (fun h26 => ?_)
        · refine RL.q (.yes rfl rfl rfl) rfl rfl (Yld.fieldAddr fo50_2 rfl) ?_
          refine RL.q (.yes rfl rfl rfl) rfl rfl (Yld.load p9 rfl (at1 (hB2.cell rfl))) ?_
          refine RL.q (.yes rfl rfl rfl) rfl rfl (Yld.lenStr u9 rfl) ?_
          refine RL.q (.yes rfl rfl rfl) rfl rfl (Yld.pure rfl) ?_
          iterate 2 refine RL.p rfl rfl ?_
          refine RL.done ?_
          refine RK.ret_of Tryz.func155 (res1 rfl rfl) ?_ _
          exact ⟨_, rfl, congrArg _ (by unfold isM; rw [hnm, hl, Bool.eq_iff_iff]; simp_all <;> omega), hg02⟩
        · iterate 4 refine RL.no (.no rfl rfl rfl rfl) rfl rfl ?_
          iterate 2 refine RL.p rfl rfl ?_
          refine RL.done ?_
          refine RK.ret_of Tryz.func155 (res1 rfl rfl) ?_ _
          exact ⟨_, rfl, congrArg _ (by unfold isM; rw [hnm, hl, Bool.eq_iff_iff]; simp_all <;> omega), hg02⟩
theorem fit_sz {s : ByteArray} {x : Rx} (h : parseS s = some x) : (!fitS s) = decide (40 < sz x + 1) := by
  unfold fitS
  rw [h, Bool.eq_iff_iff]
  simp
  omega
theorem largeR_ok (m : Mt) (hsz : m.name.size ≤ 9223372036854775807) (w : World) : Fx Tryz.prog 174 [.agg #[.int .i64 m.kind, .string m.name, .string m.value]] w (fun u w' => u = .bool (largeM m) ∧ Grow w w') := by
  refine enter Tryz.func174 rfl rfl rfl _ (Pick.sub (l := [0]) (.cons rfl .nil)) ?_
  refine RK.seq ?_
  refine RK.region ?_
  refine RL.op (.free rfl) rfl rfl (Does.box rfl) ?_
  rintro _ w1 ⟨b1, rfl, hn1⟩
  have hB1 : Blk w1 b1 50 [.int .i64 m.kind, .string m.name, .string m.value] := hn1.blk
  refine RL.p rfl rfl ?_
  refine RL.done ?_
  iterate 2 refine RK.seq ?_
  refine RK.region ?_
  refine RL.q (.free rfl) rfl rfl (Yld.loadN (cs := [.int .i64 m.kind, .string m.name, .string m.value]) a50 rfl (atN (blk0' hB1))) ?_
  refine RL.op (.free rfl) rfl rfl (Does.call rfl e155 (isMatcher_ok m hsz _)) ?_
  rintro _ w2 ⟨rfl, hg2⟩
  have hB2 := hB1.mod hg2 (fun h => h)
  iterate 2 refine RL.p rfl rfl ?_
  first | refine RL.splitD (d := 8) rfl rfl (fun h8 => ?_) (fun h8 => ?_) | refine RL.splitN (d := 8) rfl rfl (fun h8 => ?_) (fun h8 => ?_) | refine RL.split (d := 8) rfl rfl (fun h8 => ?_) (fun h8 => ?_)
  · have his : isM m = false := by simpa using h8
    iterate 3 refine RL.no (.no rfl rfl rfl rfl) rfl rfl ?_
    refine RL.p rfl rfl ?_
    refine RL.done ?_
    refine RK.condT (hcT rfl (rfl)) ?_
    refine RK.seq ?_
    refine RK.region ?_
    refine RL.p rfl rfl ?_
    refine RL.done ?_
    refine RK.ret_of Tryz.func174 (res1 rfl rfl) ?_ _
    exact ⟨_, rfl, by rw [large_no his], hn1.grow.trans hg2⟩
  · have his : isM m = true := by simpa using h8
    refine RL.q (.yes rfl rfl rfl) rfl rfl (Yld.loadN (cs := [.int .i64 m.kind, .string m.name, .string m.value]) a50 rfl (atN (blk0' hB2))) ?_
    refine RL.op (.yes rfl rfl rfl) rfl rfl (Does.call rfl e182 (pattern_ok m _)) ?_
    rintro _ w3 ⟨rfl, hg3⟩
    have hB3 := hB2.mod hg3 (fun h => h)
    have hg03 := (hn1.grow.trans hg2).trans hg3
    refine RL.q (.yes rfl rfl rfl) rfl rfl (Yld.pure rfl) ?_
    refine RL.p rfl rfl ?_
    refine RL.done ?_
    first | refine RK.condD rfl (fun h12 => ?_) (fun h12 => ?_) | refine RK.condN rfl (fun h12 => ?_) (fun h12 => ?_) | refine RK.cond rfl (fun h12 => ?_) (fun h12 => ?_)
    · have hl : likeS m = false := by unfold likeS; simpa using h12
      refine RK.seq ?_
      refine RK.region ?_
      refine RL.p rfl rfl ?_
      refine RL.done ?_
      refine RK.ret_of Tryz.func174 (res1 rfl rfl) ?_ _
      exact ⟨_, rfl, by rw [large_no2 hl], hg03⟩
    · have hl : likeS m = true := by unfold likeS; simpa using h12
      obtain ⟨x, hx⟩ := pat_parse (isM_pat his hl)
      refine RK.skip ?_
      refine RK.seq ?_
      refine RK.region ?_
      refine RL.q (.free rfl) rfl rfl (Yld.fieldAddr fo50_2 rfl) ?_
      refine RL.q (.free rfl) rfl rfl (Yld.load p9 rfl (at1 (hB3.cell rfl))) ?_
      refine RL.op (.free rfl) rfl rfl (Does.call rfl e175 (rparse_ok m.value _)) ?_
      rintro _ w4 ⟨c, rfl, hg4, hxx⟩
      have hv4 := hxx x hx
      iterate 3 refine RL.p rfl rfl ?_
      refine RL.op (.free rfl) rfl rfl (Does.alloc i210) ?_
      rintro _ w5 ⟨b3, rfl, hn3⟩
      refine RL.op' (.free rfl) rfl (Does.storeN i210 rfl rfl rfl rfl hn3.blk (Nat.le_refl 6)) ?_
      rintro _ w6 ⟨hb6, hm6, _⟩
      have hB6 : Blk w6 b3 210 (celC c) := hb6
      have hg6 : Grow w4 w6 := hn3.grow.then hm6 (fun y hy e => by have e' : y = b3 := e; have := hn3.at_; omega)
      refine RL.p rfl rfl ?_
      refine RL.done ?_
      refine RK.seq ?_
      refine RK.region ?_
      refine RL.q (.free rfl) rfl rfl (Yld.loadN (cs := celC c) a210 rfl (atN (blk0' hB6))) ?_
      refine RL.op (.free rfl) rfl rfl (Does.call rfl e215 (rsizeM_ok x (parse_tr hx) (by have := parse_sz' hx; omega) _ c _ (RxV.grow hg6 x hv4))) ?_
      rintro _ w7 ⟨rfl, hg7⟩
      iterate 2 refine RL.p rfl rfl ?_
      refine RL.done ?_
      refine RK.ret_of Tryz.func174 (res1 rfl rfl) ?_ _
      exact ⟨_, rfl, congrArg _ (by rw [large_yes his hl, fit_sz hx, Bool.eq_iff_iff]; simp; omega), ((hg03.trans hg4).trans hg6).trans hg7⟩
theorem holdsR_ok (m : Mt) (hsz : m.name.size ≤ 9223372036854775807) (M : Nat → Prop) (ls : List Lab) (v : Value) (w : World) (hz : ∀ x ∈ ls, x.value.size ≤ 100000) (hv : SlL M w v ls) : Fx Tryz.prog 144 [.agg #[.int .i64 m.kind, .string m.name, .string m.value], v] w (fun u w' => u = .bool (holdsM m ls) ∧ Grow w w') := by
  obtain ⟨ad, c, rfl⟩ := hv.shape
  have hgz := getL_size hz m.name
  refine enter Tryz.func144 rfl rfl rfl _ (Pick.sub (l := [0, 1]) (.cons rfl (.cons rfl .nil))) ?_
  refine RK.seq ?_
  refine RK.region ?_
  refine RL.op (.free rfl) rfl rfl (Does.box rfl) ?_
  rintro _ w1 ⟨b1, rfl, hn1⟩
  have hB1 : Blk w1 b1 50 [.int .i64 m.kind, .string m.name, .string m.value] := hn1.blk
  refine RL.p rfl rfl ?_
  refine RL.done ?_
  iterate 2 refine RK.seq ?_
  refine RK.region ?_
  refine RL.q (.free rfl) rfl rfl (Yld.loadN (cs := [.int .i64 m.kind, .string m.name, .string m.value]) a50 rfl (atN (blk0' hB1))) ?_
  refine RL.op (.free rfl) rfl rfl (Does.call rfl e155 (isMatcher_ok m hsz _)) ?_
  rintro _ w2 ⟨rfl, hg2⟩
  have hB2 := hB1.mod hg2 (fun h => h)
  have hg02 := hn1.grow.trans hg2
  iterate 2 refine RL.p rfl rfl ?_
  first | refine RL.splitD (d := 11) rfl rfl (fun h11 => ?_) (fun h11 => ?_) | refine RL.splitN (d := 11) rfl rfl (fun h11 => ?_) (fun h11 => ?_) | refine RL.split (d := 11) rfl rfl (fun h11 => ?_) (fun h11 => ?_)
  · have his : isM m = false := by simpa using h11
    iterate 2 refine RL.no (.no rfl rfl rfl rfl) rfl rfl ?_
    refine RL.p rfl rfl ?_
    refine RL.done ?_
    refine RK.condT (hcT rfl (rfl)) ?_
    refine RK.seq ?_
    refine RK.region ?_
    refine RL.p rfl rfl ?_
    refine RL.done ?_
    refine RK.ret_of Tryz.func144 (res1 rfl rfl) ?_ _
    exact ⟨_, rfl, congrArg _ (by unfold holdsM; rw [his]; rfl), hg02⟩
  · have his : isM m = true := by simpa using h11
    have hk := isM_kind his
    refine RL.q (.yes rfl rfl rfl) rfl rfl (Yld.loadN (cs := [.int .i64 m.kind, .string m.name, .string m.value]) a50 rfl (atN (blk0' hB2))) ?_
    refine RL.op (.yes rfl rfl rfl) rfl rfl (Does.call rfl e174 (largeR_ok m hsz _)) ?_
    rintro _ w3 ⟨rfl, hg3⟩
    have hB3 := hB2.mod hg3 (fun h => h)
    have hg03 := hg02.trans hg3
    refine RL.p rfl rfl ?_
    refine RL.done ?_
    first | refine RK.condD rfl (fun h14 => ?_) (fun h14 => ?_) | refine RK.condN rfl (fun h14 => ?_) (fun h14 => ?_) | refine RK.cond rfl (fun h14 => ?_) (fun h14 => ?_)
    · refine RK.seq ?_
      refine RK.region ?_
      refine RL.p rfl rfl ?_
      refine RL.done ?_
      refine RK.ret_of Tryz.func144 (res1 rfl rfl) ?_ _
      exact ⟨_, rfl, congrArg _ (by unfold holdsM; rw [his, h14]; rfl), hg03⟩
    · have hnl : largeM m = false := by simpa using h14
      refine RK.skip ?_
      refine RK.seq ?_
      refine RK.region ?_
      refine RL.p rfl rfl ?_
      refine RL.q (.free rfl) rfl rfl (Yld.fieldAddr fo50_1 rfl) ?_
      refine RL.q (.free rfl) rfl rfl (Yld.load p9 rfl (at1 (hB3.cell rfl))) ?_
      refine RL.op (.free rfl) rfl rfl (Does.call rfl e43 (getLabel_ok M ls _ m.name _ (hv.mod (Mod.any' hg03)))) ?_
      rintro _ _ ⟨rfl, rfl⟩
      refine RL.p rfl rfl ?_
      refine RL.done ?_
      iterate 2 refine RK.seq ?_
      refine RK.region ?_
      refine RL.q (.free rfl) rfl rfl (Yld.fieldAddr fo50_0 rfl) ?_
      refine RL.q (.free rfl) rfl rfl (Yld.load p3 rfl (at1 (hB3.cell rfl))) ?_
      refine RL.done ?_
      refine RK.block ?_
      refine RK.seq ?_
      refine RK.region ?_
      iterate 2 refine RL.p rfl rfl ?_
      refine RL.done ?_
      first | refine RK.condD rfl (fun h21 => ?_) (fun h21 => ?_) | refine RK.condN rfl (fun h21 => ?_) (fun h21 => ?_) | refine RK.cond rfl (fun h21 => ?_) (fun h21 => ?_)
      · refine RK.seq ?_
        refine RK.region ?_
        refine RL.p rfl rfl ?_
        refine RL.q (.free rfl) rfl rfl (Yld.fieldAddr fo50_2 rfl) ?_
        refine RL.q (.free rfl) rfl rfl (Yld.load p9 rfl (at1 (hB3.cell rfl))) ?_
        iterate 2 refine RL.p rfl rfl ?_
        refine RL.done ?_
        refine RK.ret_of Tryz.func144 (res1 rfl rfl) ?_ _
        exact ⟨_, rfl, congrArg _ (by unfold holdsM; rw [his, hnl, if_pos h21]; rfl), hg03⟩
      · refine RK.seq ?_
        refine RK.region ?_
        iterate 2 refine RL.p rfl rfl ?_
        refine RL.done ?_
        first | refine RK.condD rfl (fun h27 => ?_) (fun h27 => ?_) | refine RK.condN rfl (fun h27 => ?_) (fun h27 => ?_) | refine RK.cond rfl (fun h27 => ?_) (fun h27 => ?_)
        · refine RK.seq ?_
          refine RK.region ?_
          refine RL.p rfl rfl ?_
          refine RL.q (.free rfl) rfl rfl (Yld.fieldAddr fo50_2 rfl) ?_
          refine RL.q (.free rfl) rfl rfl (Yld.load p9 rfl (at1 (hB3.cell rfl))) ?_
          iterate 2 refine RL.p rfl rfl ?_
          refine RL.done ?_
          refine RK.ret_of Tryz.func144 (res1 rfl rfl) ?_ _
          exact ⟨_, rfl, congrArg _ (by unfold holdsM; rw [his, hnl, if_neg h21, if_pos h27]; rfl), hg03⟩
        · have hl : likeS m = true := by unfold likeS; simp; omega
          obtain ⟨x, hx⟩ := pat_parse (isM_pat his hl)
          have htk : takesS m.value (getL ls m.name) = takes x (getL ls m.name) := by unfold takesS; rw [hx]
          refine RK.skip ?_
          refine RK.inBlock ?_
          refine RK.seq ?_
          refine RK.region ?_
          refine RL.q (.free rfl) rfl rfl (Yld.fieldAddr fo50_2 rfl) ?_
          refine RL.q (.free rfl) rfl rfl (Yld.load p9 rfl (at1 (hB3.cell rfl))) ?_
          refine RL.op (.free rfl) rfl rfl (Does.call rfl e175 (rparse_ok m.value _)) ?_
          rintro _ w4 ⟨k, rfl, hg4, hxx⟩
          have hv4 := hxx x hx
          iterate 3 refine RL.p rfl rfl ?_
          refine RL.op (.free rfl) rfl rfl (Does.alloc i210) ?_
          rintro _ w5 ⟨b3, rfl, hn3⟩
          refine RL.op' (.free rfl) rfl (Does.storeN i210 rfl rfl rfl rfl hn3.blk (Nat.le_refl 6)) ?_
          rintro _ w6 ⟨hb6, hm6, _⟩
          have hB6 : Blk w6 b3 210 (celC k) := hb6
          have hg6 : Grow w4 w6 := hn3.grow.then hm6 (fun y hy e => by have e' : y = b3 := e; have := hn3.at_; omega)
          have hB36 := (hB3.mod hg4 (fun h => h)).mod hg6 (fun h => h)
          refine RL.p rfl rfl ?_
          refine RL.done ?_
          refine RK.seq ?_
          refine RK.drawM No [(0, false), (1, false), (3, false), (4, false), (5, false), (2, true), (6, false), (7, false)] [] mixed (by kernel_rfl) ?_
          refine DL.q rfl (.free rfl) rfl rfl rfl (Yld.loadN (cs := celC k) a210 rfl (atNM (blk0' hB6) (fun h => h))) (Mod.drew _ _) ?_
          refine DL.p rfl rfl rfl ?_
          refine DL.qf rfl (.free rfl) rfl rfl (Yld.fieldAddr fo50_0 rfl) ?_
          refine DL.q rfl (.free rfl) rfl rfl rfl (Yld.load p3 rfl (atM (hB36.cell rfl) (fun h => h))) (Mod.drew _ _) ?_
          refine DL.p rfl rfl rfl ?_
          refine DL.op rfl (.free rfl) rfl rfl (Does.call rfl e176 (takesR_ok x (parse_tr hx) (getL ls m.name) (by omega) _ k _ (RxV.grow (hg6.trans (Mod.drew _ _)) x hv4))) ?_
          rintro _ w7 ⟨rfl, hg7⟩
          have hgd : Grow w6 w7 := (Mod.drew _ _).trans hg7
          refine ⟨hgd, ?_⟩
          refine DL.qf rfl (.free rfl) rfl rfl (Yld.eqBool u4 rfl rfl) ?_
          refine DL.p rfl rfl rfl ?_
          refine DL.done ?_
          refine RK.ret_of Tryz.func144 (res1 rfl rfl) ?_ _
          exact ⟨_, rfl, congrArg _ (by
              unfold holdsM
              rw [his, hnl, if_neg h21, if_neg h27, htk]
              cases takes x (getL ls m.name) <;> simp), ((hg03.trans hg4).trans hg6).trans hgd⟩
theorem allR_ok (ms : List Mt) (hn : ∀ m ∈ ms, m.name.size ≤ 9223372036854775807) (M M' : Nat → Prop) (ls : List Lab) (hz : ∀ x ∈ ls, x.value.size ≤ 100000) (v vl : Value) (w : World) (hv : SlM M' w v ms) (hl : SlL M w vl ls) :
    Fx Tryz.prog 102 [v, vl] w (fun u w' => u = .bool (ms.all fun m => holdsM m ls) ∧ Grow w w') := by
  obtain ⟨ad, c, rfl⟩ := hv.shape
  obtain ⟨ad2, c2, rfl⟩ := hl.shape
  have hbig := hv.big
  refine enter Tryz.func102 rfl rfl rfl _ (Pick.sub (l := [0, 1]) (.cons rfl (.cons rfl .nil))) ?_
  refine RK.seq ?_
  refine RK.region ?_
  refine RL.p rfl rfl ?_
  refine RL.done ?_
  iterate 2 refine RK.seq ?_
  refine RK.region ?_
  refine RL.p rfl rfl ?_
  refine RL.done ?_
  refine RK.block ?_
  refine RK.loop (fun k : Nat => [(0, .slice ad ms.length c), (1, .slice ad2 ls.length c2), (5, .int .i64 (k : Int))]) (fun k w' => k ≤ ms.length ∧ Grow w w' ∧ ∀ i m, i < k → ms[i]? = some m → holdsM m ls = true) (fun k => ms.length - k) 0 ⟨rfl, rfl, rfl, trivial⟩ ⟨by omega, Mod.refl _ _, fun i m h => by omega⟩ (fun k w2 hI ih => ?_)
  obtain ⟨hk, hg, hall⟩ := hI
  iterate 2 refine RK.seq ?_
  refine RK.region ?_
  iterate 2 refine RL.p rfl rfl ?_
  refine RL.q (.free rfl) rfl rfl (Yld.lenSl u51 rfl) ?_
  refine RL.p rfl rfl ?_
  refine RL.done ?_
  first | refine RK.condD rfl (fun h9 => ?_) (fun h9 => ?_) | refine RK.condN rfl (fun h9 => ?_) (fun h9 => ?_) | refine RK.cond rfl (fun h9 => ?_) (fun h9 => ?_)
  · obtain ⟨x, hx⟩ : ∃ x, ms[k]? = some x := ⟨ms[k]'(by omega), List.getElem?_eq_getElem (by omega)⟩
    obtain ⟨b1, o1, c1', he1, _, _, hc1⟩ := hv.elem mtC_len hx
    cases he1
    refine RK.skip ?_
    refine RK.seq ?_
    refine RK.block ?_
    refine RK.seq ?_
    refine RK.region ?_
    iterate 2 refine RL.p rfl rfl ?_
    refine RL.q (.free rfl) rfl rfl (Yld.indexAddrN u51 i50 rfl rfl (by omega)) ?_
    refine RL.q (.free rfl) rfl rfl (Yld.loadN (cs := [.int .i64 x.kind, .string x.name, .string x.value]) a50 rfl (atN (fun j u hj => hg.cell (hc1 j u hj) (fun h => h)))) ?_
    refine RL.p rfl rfl ?_
    refine RL.op (.free rfl) rfl rfl (Does.call rfl e144 (holdsR_ok x (hn x (List.mem_of_getElem? hx)) M ls _ _ hz (hl.mod (Mod.any' hg)))) ?_
    rintro _ w3 ⟨rfl, hg3⟩
    refine RL.p rfl rfl ?_
    refine RL.done ?_
    first | refine RK.condD rfl (fun h18 => ?_) (fun h18 => ?_) | refine RK.condN rfl (fun h18 => ?_) (fun h18 => ?_) | refine RK.cond rfl (fun h18 => ?_) (fun h18 => ?_)
    · have hno : holdsM x ls = false := by simpa using h18
      refine RK.seq ?_
      refine RK.region ?_
      refine RL.p rfl rfl ?_
      refine RL.done ?_
      refine RK.ret_of Tryz.func102 (res1 rfl rfl) ?_ _
      exact ⟨_, rfl, congrArg _ (List.all_eq_false.2 ⟨x, List.mem_of_getElem? hx, by rw [hno]; simp⟩).symm, hg.trans hg3⟩
    · have hyes : holdsM x ls = true := by simpa using h18
      refine RK.skip ?_
      refine RK.inBlock ?_
      refine RK.region ?_
      iterate 2 refine RL.p rfl rfl ?_
      refine RL.re (d := 11) rfl rfl (succ_i64 (by omega)) ?_
      refine RL.p rfl rfl ?_
      refine RL.done ?_
      exact RK.back (ih (k + 1) _ ⟨by omega, hg.trans hg3, fun i m hi hm => by by_cases e : i = k; (subst e; rw [hx] at hm; cases hm; exact hyes); exact hall i m (by omega) hm⟩ (by omega)) ⟨rfl, rfl, rfl, trivial⟩
  · refine RK.exit rfl ?_
    refine RK.seq ?_
    refine RK.region ?_
    refine RL.p rfl rfl ?_
    refine RL.done ?_
    refine RK.ret_of Tryz.func102 (res1 rfl rfl) ?_ _
    exact ⟨_, rfl, congrArg _ (List.all_eq_true.2 fun m hm => by
        obtain ⟨i, hi⟩ := List.getElem?_of_mem hm
        exact hall i m (by have := (List.getElem?_eq_some_iff.1 hi).1; omega) hi).symm, hg⟩
end Go.Proofs.YtffbcfcoddacmaaGreat
set_option linter.unusedVariables false
set_option linter.unusedSimpArgs false
set_option maxHeartbeats 1000000
set_option maxRecDepth 100000
namespace Go.Proofs.YtffbcfcoddacmaaGreat
open Go Go.X Go.Rex
@[irreducible] def aheadM (x y : Mt) : Bool := if x.name ≠ y.name then slt x.name y.name else if x.kind ≠ y.kind then decide (x.kind < y.kind) else slt x.value y.value
theorem before_ok (x y : Mt) (w : World) : Fx Tryz.prog 156 [.agg (mtC x).toArray, .agg (mtC y).toArray] w (fun u w' => u = .bool (aheadM x y) ∧ Grow w w') := by
  refine enter Tryz.func156 rfl rfl rfl _ (Pick.sub (l := [0, 1]) (.cons rfl (.cons rfl .nil))) ?_
  refine RK.seq ?_
  refine RK.region ?_
  refine RL.op (.free rfl) rfl rfl (Does.box rfl) ?_
  rintro _ w1 ⟨b1, rfl, hn1⟩
  refine RL.op (.free rfl) rfl rfl (Does.box rfl) ?_
  rintro _ w2 ⟨b2, rfl, hn2⟩
  have hB1 : Blk w2 b1 50 [.int .i64 x.kind, .string x.name, .string x.value] := hn1.blk.mod hn2.grow (fun h => h)
  have hB2 : Blk w2 b2 50 [.int .i64 y.kind, .string y.name, .string y.value] := hn2.blk
  have hg2 := hn1.grow.trans hn2.grow
  refine RL.p rfl rfl ?_
  refine RL.done ?_
  iterate 2 refine RK.seq ?_
  refine RK.region ?_
  refine RL.q (.free rfl) rfl rfl (Yld.fieldAddr fo50_1 rfl) ?_
  refine RL.q (.free rfl) rfl rfl (Yld.load p9 rfl (at1 (hB1.cell rfl))) ?_
  refine RL.q (.free rfl) rfl rfl (Yld.fieldAddr fo50_1 rfl) ?_
  refine RL.q (.free rfl) rfl rfl (Yld.load p9 rfl (at1 (hB2.cell rfl))) ?_
  refine RL.p rfl rfl ?_
  refine RL.done ?_
  first | refine RK.condD rfl (fun h9 => ?_) (fun h9 => ?_) | refine RK.condN rfl (fun h9 => ?_) (fun h9 => ?_) | refine RK.cond rfl (fun h9 => ?_) (fun h9 => ?_)
  · refine RK.seq ?_
    refine RK.region ?_
    refine RL.q (.free rfl) rfl rfl (Yld.fieldAddr fo50_1 rfl) ?_
    refine RL.q (.free rfl) rfl rfl (Yld.load p9 rfl (at1 (hB1.cell rfl))) ?_
    refine RL.q (.free rfl) rfl rfl (Yld.fieldAddr fo50_1 rfl) ?_
    refine RL.q (.free rfl) rfl rfl (Yld.load p9 rfl (at1 (hB2.cell rfl))) ?_
    iterate 2 refine RL.p rfl rfl ?_
    refine RL.done ?_
    refine RK.ret_of Tryz.func156 (res1 rfl rfl) ?_ _
    exact ⟨_, rfl, by unfold aheadM; rw [if_pos h9], hg2⟩
  · refine RK.skip ?_
    iterate 2 refine RK.seq ?_
    refine RK.region ?_
    refine RL.q (.free rfl) rfl rfl (Yld.fieldAddr fo50_0 rfl) ?_
    refine RL.q (.free rfl) rfl rfl (Yld.load p3 rfl (at1 (hB1.cell rfl))) ?_
    refine RL.q (.free rfl) rfl rfl (Yld.fieldAddr fo50_0 rfl) ?_
    refine RL.q (.free rfl) rfl rfl (Yld.load p3 rfl (at1 (hB2.cell rfl))) ?_
    refine RL.p rfl rfl ?_
    refine RL.done ?_
    first | refine RK.condD rfl (fun h19 => ?_) (fun h19 => ?_) | refine RK.condN rfl (fun h19 => ?_) (fun h19 => ?_) | refine RK.cond rfl (fun h19 => ?_) (fun h19 => ?_)
    · refine RK.seq ?_
      refine RK.region ?_
      refine RL.q (.free rfl) rfl rfl (Yld.fieldAddr fo50_0 rfl) ?_
      refine RL.q (.free rfl) rfl rfl (Yld.load p3 rfl (at1 (hB1.cell rfl))) ?_
      refine RL.q (.free rfl) rfl rfl (Yld.fieldAddr fo50_0 rfl) ?_
      refine RL.q (.free rfl) rfl rfl (Yld.load p3 rfl (at1 (hB2.cell rfl))) ?_
      iterate 2 refine RL.p rfl rfl ?_
      refine RL.done ?_
      refine RK.ret_of Tryz.func156 (res1 rfl rfl) ?_ _
      exact ⟨_, rfl, by unfold aheadM; rw [if_neg (fun h => h h9), if_pos h19], hg2⟩
    · refine RK.skip ?_
      refine RK.seq ?_
      refine RK.region ?_
      refine RL.q (.free rfl) rfl rfl (Yld.fieldAddr fo50_2 rfl) ?_
      refine RL.q (.free rfl) rfl rfl (Yld.load p9 rfl (at1 (hB1.cell rfl))) ?_
      refine RL.q (.free rfl) rfl rfl (Yld.fieldAddr fo50_2 rfl) ?_
      refine RL.q (.free rfl) rfl rfl (Yld.load p9 rfl (at1 (hB2.cell rfl))) ?_
      iterate 2 refine RL.p rfl rfl ?_
      refine RL.done ?_
      refine RK.ret_of Tryz.func156 (res1 rfl rfl) ?_ _
      exact ⟨_, rfl, by unfold aheadM; rw [if_neg (fun h => h h9), if_neg h19], hg2⟩
end Go.Proofs.YtffbcfcoddacmaaGreat
set_option linter.unusedVariables false
set_option linter.unusedSimpArgs false
set_option maxHeartbeats 1000000
set_option maxRecDepth 100000
namespace Go.Proofs.YtffbcfcoddacmaaGreat
open Go Go.X Go.Rex
theorem cmpB : ∀ (a b : List UInt8), Lib.compareBytes a b = if Op.bytesLess a b = true then -1 else if a = b then 0 else 1
  | [], [] => by simp [Lib.compareBytes, Op.bytesLess]
  | [], _ :: _ => by simp [Lib.compareBytes, Op.bytesLess]
  | _ :: _, [] => by simp [Lib.compareBytes, Op.bytesLess]
  | a :: xs, b :: ys => by
    rw [Lib.compareBytes, cmpB xs ys, show Op.bytesLess (a :: xs) (b :: ys) = (decide (a < b) || (a == b && Op.bytesLess xs ys)) from rfl]
    by_cases h1 : a < b
    · simp [h1]
    · by_cases h2 : b < a
      · have : a ≠ b := by rintro rfl; exact h1 h2
        simp [h1, h2, this]
      · have : a = b := UInt8.le_antisymm (UInt8.not_lt.1 h2) (UInt8.not_lt.1 h1)
        subst this
        simp [h1]
theorem cmpS_ok (a b : ByteArray) (w : World) : Fx Tryz.prog 270 [.string a, .string b] w (fun u w' => u = .int .i64 (if slt a b = true then -1 else if a = b then 0 else 1) ∧ w = w') := by
  refine Calls.mono (Tryz.strings_Compare a b w) ?_
  rintro e w' ⟨rfl, rfl⟩
  refine ⟨_, rfl, ?_, rfl⟩
  rw [cmpB]
  unfold slt
  by_cases h : a = b
  · subst h; rw [bl_irrefl]; simp
  · rw [if_neg h, if_neg (fun e => h (data_inj e))]
def orS : List Int → Int
  | [] => 0
  | z :: l => if z ≠ 0 then z else orS l
theorem orI_ok (M : Nat → Prop) (l : List Int) (v : Value) (w : World) (hv : Sl M w v 1 l.length (ints l)) : Fx Tryz.prog 269 [v] w (fun u w' => u = .int .i64 (orS l) ∧ w = w') := by
  obtain ⟨ad, c, rfl⟩ := hv.shape
  have hbig := hv.big
  refine enter Tryz.func269 rfl rfl rfl _ (Pick.sub (l := [0]) (.cons rfl .nil)) ?_
  refine RK.seq ?_
  refine RK.region ?_
  refine RL.p rfl rfl ?_
  refine RL.done ?_
  refine RK.seq ?_
  refine RK.region ?_
  refine RL.p rfl rfl ?_
  refine RL.done ?_
  iterate 2 refine RK.seq ?_
  refine RK.region ?_
  refine RL.p rfl rfl ?_
  refine RL.q (.free rfl) rfl rfl (Yld.lenSl u22 rfl) ?_
  refine RL.p rfl rfl ?_
  refine RL.done ?_
  refine RK.block ?_
  refine RK.loop (fun k : Nat => [(3, .int .i64 0), (6, .slice ad l.length c), (7, .int .i64 (l.length : Int)), (8, .int .i64 (k : Int))]) (fun k w' => w = w' ∧ k ≤ l.length ∧ orS (l.drop k) = orS l) (fun k => l.length - k) 0 ⟨rfl, rfl, rfl, rfl, trivial⟩ ⟨rfl, by omega, rfl⟩ (fun k w' hI ih => ?_)
  obtain ⟨rfl, hk, hst⟩ := hI
  refine RK.seq ?_
  refine RK.region ?_
  refine RL.p rfl rfl ?_
  refine RL.done ?_
  refine RK.seq ?_
  first | refine RK.condD rfl (fun h9 => ?_) (fun h9 => ?_) | refine RK.condN rfl (fun h9 => ?_) (fun h9 => ?_) | refine RK.cond rfl (fun h9 => ?_) (fun h9 => ?_)
  · obtain ⟨z, hz⟩ : ∃ z, l[k]? = some z := ⟨l[k]'(by omega), List.getElem?_eq_getElem (by omega)⟩
    obtain ⟨b1, o1, c1', he1, _, _, hc1⟩ := hv.elem1 (k := k) (u := .int .i64 z) (by simp [hz])
    cases he1
    have hdr : l.drop k = z :: l.drop (k + 1) := by rw [List.drop_eq_getElem_cons (by omega), (List.getElem?_eq_some_iff.1 hz).2]
    rw [hdr] at hst
    refine RK.skip ?_
    refine RK.seq ?_
    refine RK.block ?_
    refine RK.seq ?_
    refine RK.region ?_
    refine RL.q (.free rfl) rfl rfl (Yld.indexAddrN u22 i3 rfl rfl (by omega)) ?_
    refine RL.q (.free rfl) rfl rfl (Yld.load p3 rfl (at1 (hc1 k (.int .i64 z) (by simp [hz])))) ?_
    refine RL.p rfl rfl ?_
    refine RL.done ?_
    refine RK.seq ?_
    refine RK.region ?_
    iterate 3 refine RL.p rfl rfl ?_
    refine RL.done ?_
    first | refine RK.condD rfl (fun h14 => ?_) (fun h14 => ?_) | refine RK.condN rfl (fun h14 => ?_) (fun h14 => ?_) | refine RK.cond rfl (fun h14 => ?_) (fun h14 => ?_)
    · refine RK.seq ?_
      refine RK.region ?_
      iterate 2 refine RL.p rfl rfl ?_
      refine RL.done ?_
      refine RK.ret_of Tryz.func269 (res1 rfl rfl) ?_ _
      exact ⟨_, rfl, by rw [← hst]; unfold orS; rw [if_pos h14], rfl⟩
    · have hst2 : orS (l.drop (k + 1)) = orS l := by rw [← hst]; conv => rhs; unfold orS; rw [if_neg h14]
      refine RK.skip ?_
      refine RK.inBlock ?_
      refine RK.region ?_
      refine RL.p rfl rfl ?_
      refine RL.re (d := 16) rfl rfl (succ_i64 (by omega)) ?_
      refine RL.p rfl rfl ?_
      refine RL.done ?_
      exact RK.back (ih (k + 1) _ ⟨rfl, by omega, hst2⟩ (by omega)) ⟨rfl, rfl, rfl, rfl, trivial⟩
  · rw [List.drop_eq_nil_of_le (by omega)] at hst
    refine RK.exit rfl ?_
    refine RK.seq ?_
    refine RK.region ?_
    iterate 2 refine RL.p rfl rfl ?_
    refine RL.done ?_
    refine RK.ret_of Tryz.func269 (res1 rfl rfl) ?_ _
    exact ⟨_, rfl, by rw [← hst]; rfl, rfl⟩
theorem ahead_or (x y : Mt) : (0 ≤ orS [if slt x.name y.name = true then -1 else if x.name = y.name then 0 else 1, Lib.compareInt x.kind y.kind, if slt x.value y.value = true then -1 else if x.value = y.value then 0 else 1]) ↔ aheadM x y = false := by
  obtain ⟨xk, xn, xv⟩ := x
  obtain ⟨yk, yn, yv⟩ := y
  unfold aheadM Lib.compareInt
  simp only
  by_cases h2 : xn = yn
  · subst h2
    simp only [slt_irrefl, Bool.false_eq_true, if_false, if_true, ne_eq, not_true_eq_false]
    by_cases h3 : xk < yk
    · have hne : xk ≠ yk := by omega
      simp [orS, h3, hne]
    · by_cases h4 : xk = yk
      · subst h4
        by_cases h5 : slt xv yv = true
        · simp [orS, h5]
        · by_cases h6 : xv = yv
          · subst h6; simp [orS, slt_irrefl]
          · simp [orS, h5, h6]
      · have h5 : yk < xk := by omega
        simp [orS, h3, h4, h5]
  · by_cases h1 : slt xn yn = true
    · simp [orS, h1, h2]
    · simp [orS, h1, h2]
theorem cmpM_ok (x y : Mt) (w : World) : Fx Tryz.prog 261 [.agg (mtC x).toArray, .agg (mtC y).toArray] w (fun u w' => (∃ c : Int, u = .int .i64 c ∧ (0 ≤ c ↔ aheadM x y = false)) ∧ Grow w w') := by
  refine enter Tryz.func261 rfl rfl rfl _ (Pick.sub (l := [0, 1]) (.cons rfl (.cons rfl .nil))) ?_
  refine RK.seq ?_
  refine RK.region ?_
  refine RL.op (.free rfl) rfl rfl (Does.box rfl) ?_
  rintro _ w1 ⟨b1, rfl, hn1⟩
  refine RL.op (.free rfl) rfl rfl (Does.box rfl) ?_
  rintro _ w2 ⟨b2, rfl, hn2⟩
  have hB1 : Blk w2 b1 50 [.int .i64 x.kind, .string x.name, .string x.value] := hn1.blk.mod hn2.grow (fun h => h)
  have hB2 : Blk w2 b2 50 [.int .i64 y.kind, .string y.name, .string y.value] := hn2.blk
  have hg2 := hn1.grow.trans hn2.grow
  refine RL.p rfl rfl ?_
  refine RL.done ?_
  refine RK.seq ?_
  refine RK.drawM No [(0, false), (1, false), (2, false), (3, false), (5, false), (6, false), (7, false), (8, false), (10, false), (11, false), (12, false), (13, false), (4, true), (9, true), (14, true), (15, true), (16, true), (17, false)] [] mixed (by kernel_rfl) ?_
  refine DL.qf rfl (.free rfl) rfl rfl (Yld.fieldAddr fo50_1 rfl) ?_
  refine DL.q rfl (.free rfl) rfl rfl rfl (Yld.load p9 rfl (atM (hB1.cell rfl) (fun h => h))) (Mod.drew _ _) ?_
  refine DL.qf rfl (.free rfl) rfl rfl (Yld.fieldAddr fo50_1 rfl) ?_
  refine DL.q rfl (.free rfl) rfl rfl rfl (Yld.load p9 rfl (atM (hB2.cell rfl) (fun h => h))) (Mod.drew _ _) ?_
  refine DL.qf rfl (.free rfl) rfl rfl (Yld.fieldAddr fo50_0 rfl) ?_
  refine DL.q rfl (.free rfl) rfl rfl rfl (Yld.load p3 rfl (atM (hB1.cell rfl) (fun h => h))) (Mod.drew _ _) ?_
  refine DL.qf rfl (.free rfl) rfl rfl (Yld.fieldAddr fo50_0 rfl) ?_
  refine DL.q rfl (.free rfl) rfl rfl rfl (Yld.load p3 rfl (atM (hB2.cell rfl) (fun h => h))) (Mod.drew _ _) ?_
  refine DL.qf rfl (.free rfl) rfl rfl (Yld.fieldAddr fo50_2 rfl) ?_
  refine DL.q rfl (.free rfl) rfl rfl rfl (Yld.load p9 rfl (atM (hB1.cell rfl) (fun h => h))) (Mod.drew _ _) ?_
  refine DL.qf rfl (.free rfl) rfl rfl (Yld.fieldAddr fo50_2 rfl) ?_
  refine DL.q rfl (.free rfl) rfl rfl rfl (Yld.load p9 rfl (atM (hB2.cell rfl) (fun h => h))) (Mod.drew _ _) ?_
  refine DL.op rfl (.free rfl) rfl rfl (Does.call rfl e270 (cmpS_ok _ _ _)) ?_
  rintro _ _ ⟨rfl, rfl⟩
  refine ⟨Mod.drew _ _, ?_⟩
  refine DL.op rfl (.free rfl) rfl rfl (Does.call rfl e128 (cmpInt_ok _ _ _)) ?_
  rintro _ _ ⟨rfl, rfl⟩
  refine ⟨Mod.drew _ _, ?_⟩
  refine DL.op rfl (.free rfl) rfl rfl (Does.call rfl e270 (cmpS_ok _ _ _)) ?_
  rintro _ _ ⟨rfl, rfl⟩
  refine ⟨Mod.drew _ _, ?_⟩
  refine DL.op rfl (.free rfl) rfl rfl (Does.bslice (el := 3) ([.int .i64 (if slt x.name y.name = true then -1 else if x.name = y.name then 0 else 1), .int .i64 (Lib.compareInt x.kind y.kind), .int .i64 (if slt x.value y.value = true then -1 else if x.value = y.value then 0 else 1)]) rfl (fun w => by kernel_rfl)) ?_
  rintro _ w3 ⟨b3, rfl, hn3⟩
  refine ⟨(Mod.drew _ _).trans hn3.grow, ?_⟩
  refine DL.op rfl (.free rfl) rfl rfl (Does.call rfl e269 (orI_ok No [_, _, _] _ _ (Sl.new hn3 1 3 rfl (by omega) (fun h => h)))) ?_
  rintro _ _ ⟨rfl, rfl⟩
  refine ⟨(Mod.drew _ _).trans hn3.grow, ?_⟩
  refine DL.p rfl rfl rfl ?_
  refine DL.done ?_
  refine RK.ret_of Tryz.func261 (res1 rfl rfl) ?_ _
  exact ⟨_, rfl, ⟨_, rfl, ahead_or x y⟩, hg2.trans ((Mod.drew _ _).trans hn3.grow)⟩
@[irreducible] def okM (ms : List Mt) (i : Nat) : Bool := match ms[i]? with
  | none => true
  | some x => isM x && (match i with
    | 0 => true
    | j + 1 => match ms[j]? with
      | none => true
      | some y => aheadM y x)
@[irreducible] def listM (ms : List Mt) : Bool := decide (ms.length ≤ 5) && (List.range ms.length).all (okM ms)
theorem okM_0 {ms : List Mt} {x : Mt} (hx : ms[0]? = some x) : okM ms 0 = isM x := by unfold okM; rw [hx]; simp
theorem okM_s {ms : List Mt} {j : Nat} {x y : Mt} (hx : ms[j + 1]? = some x) (hy : ms[j]? = some y) : okM ms (j + 1) = (isM x && aheadM y x) := by unfold okM; rw [hx]; simp only; rw [hy]
theorem listM_big {ms : List Mt} (h : 5 < ms.length) : listM ms = false := by unfold listM; rw [decide_eq_false (by omega)]; rfl
theorem listM_no {ms : List Mt} {i : Nat} (hi : i < ms.length) (h : okM ms i = false) : listM ms = false := by
  unfold listM
  rw [Bool.and_eq_false_iff]; right
  exact List.all_eq_false.2 ⟨i, List.mem_range.2 hi, by simp [h]⟩
theorem listM_yes {ms : List Mt} (h5 : ms.length ≤ 5) (h : ∀ i, i < ms.length → okM ms i = true) : listM ms = true := by
  unfold listM
  rw [decide_eq_true h5, Bool.true_and]
  exact List.all_eq_true.2 fun i hi => h i (List.mem_range.1 hi)
theorem matchList_ok (M : Nat → Prop) (ms : List Mt) (v : Value) (w : World) (hv : SlM M w v ms) : Fx Tryz.prog 244 [v] w (fun u w' => u = .bool (listM ms) ∧ Grow w w') := by
  obtain ⟨ad, c, rfl⟩ := hv.shape
  have hbig := hv.big
  refine enter Tryz.func244 rfl rfl rfl _ (Pick.sub (l := [0]) (.cons rfl .nil)) ?_
  refine RK.seq ?_
  refine RK.region ?_
  refine RL.p rfl rfl ?_
  refine RL.done ?_
  iterate 2 refine RK.seq ?_
  refine RK.region ?_
  refine RL.p rfl rfl ?_
  refine RL.q (.free rfl) rfl rfl (Yld.lenSl u51 rfl) ?_
  refine RL.p rfl rfl ?_
  refine RL.done ?_
  first | refine RK.condD rfl (fun h7 => ?_) (fun h7 => ?_) | refine RK.condN rfl (fun h7 => ?_) (fun h7 => ?_) | refine RK.cond rfl (fun h7 => ?_) (fun h7 => ?_)
  · refine RK.seq ?_
    refine RK.region ?_
    refine RL.p rfl rfl ?_
    refine RL.done ?_
    refine RK.ret_of Tryz.func244 (res1 rfl rfl) ?_ _
    exact ⟨_, rfl, by rw [listM_big (by omega)], Mod.refl _ _⟩
  · refine RK.skip ?_
    iterate 2 refine RK.seq ?_
    refine RK.region ?_
    refine RL.p rfl rfl ?_
    refine RL.q (.free rfl) rfl rfl (Yld.lenSl u51 rfl) ?_
    refine RL.p rfl rfl ?_
    refine RL.done ?_
    refine RK.block ?_
    refine RK.loop (fun k : Nat => [(0, .slice ad ms.length c), (8, .slice ad ms.length c), (9, .int .i64 (ms.length : Int)), (10, .int .i64 (k : Int))]) (fun k w' => Grow w w' ∧ k ≤ ms.length ∧ ∀ i, i < k → okM ms i = true) (fun k => ms.length - k) 0 ⟨rfl, rfl, rfl, rfl, trivial⟩ ⟨Mod.refl _ _, by omega, fun i hi => by omega⟩ (fun k w' hI ih => ?_)
    obtain ⟨hg, hk, hall⟩ := hI
    refine RK.seq ?_
    refine RK.region ?_
    refine RL.p rfl rfl ?_
    refine RL.done ?_
    refine RK.seq ?_
    first | refine RK.condD rfl (fun h11 => ?_) (fun h11 => ?_) | refine RK.condN rfl (fun h11 => ?_) (fun h11 => ?_) | refine RK.cond rfl (fun h11 => ?_) (fun h11 => ?_)
    · obtain ⟨x, hx⟩ : ∃ x, ms[k]? = some x := ⟨ms[k]'(by omega), List.getElem?_eq_getElem (by omega)⟩
      obtain ⟨b1, o1, c1', he1, _, _, hc1⟩ := hv.elem mtC_len hx
      cases he1
      refine RK.skip ?_
      refine RK.seq ?_
      refine RK.block ?_
      refine RK.seq ?_
      refine RK.region ?_
      refine RL.p rfl rfl ?_
      refine RL.q (.free rfl) rfl rfl (Yld.indexAddrN u51 i50 rfl rfl (by omega)) ?_
      refine RL.q (.free rfl) rfl rfl (Yld.loadN (cs := mtC x) a50 rfl (atN (fun q z hq => hg.cell (hc1 q z hq) (fun h => h)))) ?_
      refine RL.op (.free rfl) rfl rfl (Does.alloc i50) ?_
      rintro _ w4 ⟨b4, rfl, hn4⟩
      refine RL.p rfl rfl ?_
      refine RL.op' (.free rfl) rfl (Does.storeN i50 rfl rfl rfl rfl hn4.blk (Nat.le_refl 3)) ?_
      rintro _ w5 ⟨hb5, hm5, _⟩
      have hg5 : Grow w w5 := hg.trans (hn4.grow.then hm5 (fun y hy e => by have e' : y = b4 := e; have := hn4.at_; omega))
      refine RL.done ?_
      refine RK.seq ?_
      refine RK.drawM No [(0, false), (1, true), (2, false), (3, false), (4, false), (5, false), (6, false), (7, false), (8, false), (9, false), (10, false), (11, false), (12, false), (13, true), (14, false), (15, false), (16, false)] [] mixed (by kernel_rfl) ?_
      refine DL.q rfl (.free rfl) rfl rfl rfl (Yld.loadN (cs := mtC x) a50 rfl (atNM (blk0' hb5) (fun h => h))) (Mod.drew _ _) ?_
      refine DL.op rfl (.free rfl) rfl rfl (Does.call rfl e164 (matchIs_ok x _)) ?_
      rintro _ w6 ⟨rfl, hg6⟩
      refine ⟨(Mod.drew No _).trans hg6, ?_⟩
      iterate 2 refine DL.p rfl rfl rfl ?_
      first | refine DL.splitD (d := 18) rfl rfl (fun h17 => ?_) (fun h17 => ?_) | refine DL.splitN (d := 18) rfl rfl (fun h17 => ?_) (fun h17 => ?_) | refine DL.split (d := 18) rfl rfl (fun h17 => ?_) (fun h17 => ?_)
      · iterate 9 refine DL.no rfl (.no rfl rfl rfl rfl) rfl rfl ?_
        refine DL.lno rfl (.no rfl rfl rfl rfl) rfl rfl ?_
        iterate 2 refine DL.no rfl (.no rfl rfl rfl rfl) rfl rfl ?_
        refine DL.p rfl rfl rfl ?_
        refine DL.done ?_
        refine RK.condT rfl ?_
        refine RK.seq ?_
        refine RK.region ?_
        refine RL.p rfl rfl ?_
        refine RL.done ?_
        refine RK.ret_of Tryz.func244 (res1 rfl rfl) ?_ _
        exact ⟨_, rfl, by rw [listM_no (i := k) (by omega) (by
            have hf : isM x = false := by simpa using h17
            cases k with
            | zero => rw [okM_0 hx]; exact hf
            | succ j => rw [okM_s hx (List.getElem?_eq_getElem (by omega)), hf]; rfl)], hg5.trans ((Mod.drew No _).trans hg6)⟩
      · have hix : isM x = true := by simpa using h17
        iterate 3 refine DL.qf rfl (.yes rfl rfl rfl) rfl rfl (Yld.pure rfl) ?_
        first | refine DL.splitD (d := 21) rfl rfl (fun h20 => ?_) (fun h20 => ?_) | refine DL.splitN (d := 21) rfl rfl (fun h20 => ?_) (fun h20 => ?_) | refine DL.split (d := 21) rfl rfl (fun h20 => ?_) (fun h20 => ?_)
        · obtain ⟨j, rfl⟩ : ∃ j, k = j + 1 := ⟨k - 1, by omega⟩
          obtain ⟨y, hy⟩ : ∃ y, ms[j]? = some y := ⟨ms[j]'(by omega), List.getElem?_eq_getElem (by omega)⟩
          obtain ⟨b2, o2, c2', he2, _, _, hc2⟩ := hv.elem mtC_len hy
          cases he2
          iterate 3 refine DL.qf rfl (.yes rfl rfl rfl) rfl rfl (Yld.pure rfl) ?_
          refine DL.re (d := 24) rfl rfl (sub_i64 (z := (j : Int)) (by omega) (by omega) (by omega)) ?_
          refine DL.qf rfl (.yes rfl rfl rfl) rfl rfl (Yld.indexAddrN u51 i50 rfl rfl (by omega)) ?_
          refine DL.q rfl (.yes rfl rfl rfl) rfl rfl rfl (Yld.loadN (cs := mtC y) a50 rfl (atNM (fun q z hq => hg5.cell (hc2 q z hq) (fun h => h)) (fun h => h))) ((Mod.drew No _).trans hg6) ?_
          refine DL.q rfl (.yes rfl rfl rfl) rfl rfl rfl (Yld.loadN (cs := mtC x) a50 rfl (atNM (blk0' hb5) (fun h => h))) ((Mod.drew No _).trans hg6) ?_
          refine DL.op rfl (.yes rfl rfl rfl) rfl rfl (Does.call rfl e261 (cmpM_ok y x _)) ?_
          rintro _ w7 ⟨⟨cc, rfl, hcc⟩, hg7⟩
          have hg8 := hg5.trans (((Mod.drew No _).trans hg6).trans hg7)
          refine ⟨((Mod.drew No _).trans hg6).trans hg7, ?_⟩
          iterate 2 refine DL.qf rfl (.yes rfl rfl rfl) rfl rfl (Yld.pure rfl) ?_
          refine DL.p rfl rfl rfl ?_
          refine DL.done ?_
          first | refine RK.condD rfl (fun h29 => ?_) (fun h29 => ?_) | refine RK.condN rfl (fun h29 => ?_) (fun h29 => ?_) | refine RK.cond rfl (fun h29 => ?_) (fun h29 => ?_)
          · refine RK.seq ?_
            refine RK.region ?_
            refine RL.p rfl rfl ?_
            refine RL.done ?_
            refine RK.ret_of Tryz.func244 (res1 rfl rfl) ?_ _
            exact ⟨_, rfl, by rw [listM_no (i := j + 1) (by omega) (by rw [okM_s hx hy, hix, hcc.1 h29]; rfl)], hg8⟩
          · have hay : aheadM y x = true := eq_true_of_ne_false fun hq => h29 (hcc.2 hq)
            refine RK.skip ?_
            refine RK.inBlock ?_
            refine RK.region ?_
            refine RL.p rfl rfl ?_
            refine RL.re (d := 32) rfl rfl (succ_i64 (by omega)) ?_
            refine RL.p rfl rfl ?_
            refine RL.done ?_
            exact RK.back (ih (j + 1 + 1) _ ⟨hg8, by omega, fun i hi => by by_cases e : i = j + 1; (subst e; rw [okM_s hx hy, hix, hay]; rfl); exact hall i (by omega)⟩ (by omega)) ⟨rfl, rfl, rfl, rfl, trivial⟩
        · have hk0 : k = 0 := by omega
          subst hk0
          iterate 6 refine DL.no rfl (.no rfl rfl rfl rfl) rfl rfl ?_
          refine DL.lno rfl (.no rfl rfl rfl rfl) rfl rfl ?_
          refine DL.no rfl (.no rfl rfl rfl rfl) rfl rfl ?_
          refine DL.qf rfl (.yes rfl rfl rfl) rfl rfl (Yld.pure rfl) ?_
          refine DL.p rfl rfl rfl ?_
          refine DL.done ?_
          refine RK.condF rfl ?_
          refine RK.skip ?_
          refine RK.inBlock ?_
          refine RK.region ?_
          refine RL.p rfl rfl ?_
          refine RL.re (d := 32) rfl rfl (succ_i64 (by omega)) ?_
          refine RL.p rfl rfl ?_
          refine RL.done ?_
          exact RK.back (ih (0 + 1) _ ⟨hg5.trans ((Mod.drew No _).trans hg6), by omega, fun i hi => by by_cases e : i = 0; (subst e; rw [okM_0 hx]; exact hix); omega⟩ (by omega)) ⟨rfl, rfl, rfl, rfl, trivial⟩
    · refine RK.exit rfl ?_
      refine RK.seq ?_
      refine RK.region ?_
      refine RL.p rfl rfl ?_
      refine RL.done ?_
      refine RK.ret_of Tryz.func244 (res1 rfl rfl) ?_ _
      exact ⟨_, rfl, by rw [listM_yes (by omega) (fun i hi => hall i (by omega))], hg⟩
end Go.Proofs.YtffbcfcoddacmaaGreat
set_option linter.unusedVariables false
set_option linter.unusedSimpArgs false
set_option maxHeartbeats 1000000
set_option maxRecDepth 100000
namespace Go.Proofs.YtffbcfcoddacmaaGreat
open Go Go.X Go.Rex
def anyL (ms : List Mt) : Bool := ms.any largeM
theorem anyL_at {ms : List Mt} {k : Nat} {x : Mt} (hx : ms[k]? = some x) (h : largeM x = true) : anyL ms = true := List.any_eq_true.2 ⟨x, List.mem_of_getElem? hx, h⟩
theorem anyL_no {ms : List Mt} (h : ∀ (i : Nat) (x : Mt), ms[i]? = some x → largeM x = false) : anyL ms = false := by
  unfold anyL
  rw [List.any_eq_false]
  intro x hx
  obtain ⟨i, hi⟩ := List.getElem?_of_mem hx
  simp [h i x hi]
theorem indexL_ok (M : Nat → Prop) (ms : List Mt) (v : Value) (w : World) (hv : SlM M w v ms) :
    Fx Tryz.prog 163 [v, .func (.func 262) #[] #[]] w (fun u w' => (∃ z : Int, u = .int .i64 z ∧ decide (0 ≤ z) = anyL ms) ∧ Grow w w') := by
  obtain ⟨ad, c, rfl⟩ := hv.shape
  have hbig := hv.big
  refine enter Tryz.func163 rfl rfl rfl _ (Pick.sub (l := [0, 1]) (.cons rfl (.cons rfl .nil))) ?_
  refine RK.seq ?_
  refine RK.region ?_
  refine RL.p rfl rfl ?_
  refine RL.done ?_
  iterate 2 refine RK.seq ?_
  refine RK.region ?_
  refine RL.p rfl rfl ?_
  refine RL.q (.free rfl) rfl rfl (Yld.lenSl u51 rfl) ?_
  refine RL.p rfl rfl ?_
  refine RL.done ?_
  refine RK.block ?_
  refine RK.loop (fun k : Nat => [(0, .slice ad ms.length c), (1, .func (.func 262) #[] #[]), (7, .int .i64 ms.length), (8, .int .i64 k)]) (fun k w' => Grow w w' ∧ k ≤ ms.length ∧ ∀ (i : Nat) (a : Mt), i < k → ms[i]? = some a → largeM a = false) (fun k => ms.length - k) 0 ⟨rfl, rfl, rfl, rfl, trivial⟩ ⟨Mod.refl _ _, by omega, fun i a h => by omega⟩ (fun k w' hI ih => ?_)
  obtain ⟨hg, hk, hno⟩ := hI
  refine RK.seq ?_
  refine RK.region ?_
  refine RL.p rfl rfl ?_
  refine RL.done ?_
  refine RK.seq ?_
  first | refine RK.condD rfl (fun h9 => ?_) (fun h9 => ?_) | refine RK.condN rfl (fun h9 => ?_) (fun h9 => ?_) | refine RK.cond rfl (fun h9 => ?_) (fun h9 => ?_)
  · obtain ⟨x, hx⟩ : ∃ x, ms[k]? = some x := ⟨ms[k]'(by omega), List.getElem?_eq_getElem (by omega)⟩
    obtain ⟨b1, o1, c1', he1, _, _, hc1⟩ := hv.elem mtC_len hx
    cases he1
    refine RK.skip ?_
    refine RK.seq ?_
    refine RK.block ?_
    refine RK.seq ?_
    refine RK.region ?_
    iterate 2 refine RL.p rfl rfl ?_
    refine RL.done ?_
    refine RK.seq ?_
    refine RK.region ?_
    iterate 3 refine RL.p rfl rfl ?_
    refine RL.q (.free rfl) rfl rfl (Yld.indexAddrN u51 i50 rfl rfl (by omega)) ?_
    refine RL.q (.free rfl) rfl rfl (Yld.loadN (cs := [.int .i64 x.kind, .string x.name, .string x.value]) a50 rfl (atN (fun j u hj => hg.cell (hc1 j u hj) (fun h => h)))) ?_
    refine RL.op (.free rfl) rfl rfl (Does.callv rfl rfl e262 (matchLarge_ok x _)) ?_
    rintro _ w2 ⟨rfl, hg2⟩
    refine RL.done ?_
    first | refine RK.condD rfl (fun h16 => ?_) (fun h16 => ?_) | refine RK.condN rfl (fun h16 => ?_) (fun h16 => ?_) | refine RK.cond rfl (fun h16 => ?_) (fun h16 => ?_)
    · refine RK.seq ?_
      refine RK.region ?_
      iterate 2 refine RL.p rfl rfl ?_
      refine RL.done ?_
      refine RK.ret_of Tryz.func163 (res1 rfl rfl) ?_ _
      exact ⟨_, rfl, ⟨_, rfl, by rw [anyL_at hx h16]; simp⟩, hg.trans hg2⟩
    · refine RK.skip ?_
      refine RK.inBlock ?_
      refine RK.region ?_
      refine RL.p rfl rfl ?_
      refine RL.re (d := 18) rfl rfl (succ_i64 (by omega)) ?_
      refine RL.p rfl rfl ?_
      refine RL.done ?_
      exact RK.back (ih (k + 1) _ ⟨hg.trans hg2, by omega, fun i a' hi ha' => by by_cases e : i = k; (subst e; rw [hx] at ha'; cases ha'; simpa using h16); exact hno i a' (by omega) ha'⟩ (by omega)) ⟨rfl, rfl, rfl, rfl, trivial⟩
  · refine RK.exit rfl ?_
    refine RK.seq ?_
    refine RK.region ?_
    refine RL.p rfl rfl ?_
    refine RL.done ?_
    refine RK.ret_of Tryz.func163 (res1 rfl rfl) ?_ _
    exact ⟨_, rfl, ⟨_, rfl, by rw [anyL_no fun i x hx => hno i x (by have := (List.getElem?_eq_some_iff.1 hx).1; omega) hx]; rfl⟩, hg⟩
theorem containsL_ok (M : Nat → Prop) (ms : List Mt) (v : Value) (w : World) (hv : SlM M w v ms) :
    Fx Tryz.prog 131 [v, .func (.func 262) #[] #[]] w (fun u w' => u = .bool (anyL ms) ∧ Grow w w') := by
  obtain ⟨ad, c, rfl⟩ := hv.shape
  refine enter Tryz.func131 rfl rfl rfl _ (Pick.sub (l := [0, 1]) (.cons rfl (.cons rfl .nil))) ?_
  refine RK.seq ?_
  refine RK.region ?_
  refine RL.p rfl rfl ?_
  refine RL.done ?_
  refine RK.seq ?_
  refine RK.region ?_
  iterate 2 refine RL.p rfl rfl ?_
  refine RL.op (.free rfl) rfl rfl (Does.call rfl e163 (indexL_ok M ms _ _ hv)) ?_
  rintro _ w2 ⟨⟨z, rfl, hz⟩, hg2⟩
  iterate 2 refine RL.p rfl rfl ?_
  refine RL.done ?_
  refine RK.ret_of Tryz.func131 (res1 rfl rfl) ?_ _
  exact ⟨_, rfl, congrArg _ hz, hg2⟩
theorem matchAnyL_ok (M : Nat → Prop) (ms : List Mt) (v : Value) (w : World) (hv : SlM M w v ms) :
    Fx Tryz.prog 245 [v] w (fun u w' => u = .bool (anyL ms) ∧ Grow w w') := by
  obtain ⟨ad, c, rfl⟩ := hv.shape
  refine enter Tryz.func245 rfl rfl rfl _ (Pick.sub (l := [0]) (.cons rfl .nil)) ?_
  refine RK.seq ?_
  refine RK.region ?_
  refine RL.p rfl rfl ?_
  refine RL.done ?_
  refine RK.seq ?_
  refine RK.region ?_
  refine RL.p rfl rfl ?_
  refine RL.op (.free rfl) rfl rfl (Does.call rfl e131 (containsL_ok M ms _ _ hv)) ?_
  rintro _ w2 ⟨rfl, hg2⟩
  refine RL.p rfl rfl ?_
  refine RL.done ?_
  refine RK.ret_of Tryz.func245 (res1 rfl rfl) ?_ _
  exact ⟨_, rfl, rfl, hg2⟩
theorem anyLR_ok (M : Nat → Prop) (ms : List Mt) (hn : ∀ m ∈ ms, m.name.size ≤ 9223372036854775807) (v : Value) (w : World) (hv : SlM M w v ms) :
    Fx Tryz.prog 221 [v] w (fun u w' => u = .bool (anyL ms) ∧ Grow w w') := by
  obtain ⟨ad, c, rfl⟩ := hv.shape
  have hbig := hv.big
  refine enter Tryz.func221 rfl rfl rfl _ (Pick.sub (l := [0]) (.cons rfl .nil)) ?_
  refine RK.seq ?_
  refine RK.region ?_
  refine RL.p rfl rfl ?_
  refine RL.done ?_
  iterate 2 refine RK.seq ?_
  refine RK.region ?_
  refine RL.p rfl rfl ?_
  refine RL.done ?_
  refine RK.block ?_
  refine RK.loop (fun k : Nat => [(0, .slice ad ms.length c), (3, .int .i64 k)]) (fun k w' => Grow w w' ∧ k ≤ ms.length ∧ ∀ (i : Nat) (a : Mt), i < k → ms[i]? = some a → largeM a = false) (fun k => ms.length - k) 0 ⟨rfl, rfl, trivial⟩ ⟨Mod.refl _ _, by omega, fun i a h => by omega⟩ (fun k w' hI ih => ?_)
  obtain ⟨hg, hk, hno⟩ := hI
  iterate 2 refine RK.seq ?_
  refine RK.region ?_
  iterate 2 refine RL.p rfl rfl ?_
  refine RL.q (.free rfl) rfl rfl (Yld.lenSl u51 rfl) ?_
  refine RL.p rfl rfl ?_
  refine RL.done ?_
  first | refine RK.condD rfl (fun h7 => ?_) (fun h7 => ?_) | refine RK.condN rfl (fun h7 => ?_) (fun h7 => ?_) | refine RK.cond rfl (fun h7 => ?_) (fun h7 => ?_)
  · obtain ⟨x, hx⟩ : ∃ x, ms[k]? = some x := ⟨ms[k]'(by omega), List.getElem?_eq_getElem (by omega)⟩
    obtain ⟨b1, o1, c1', he1, _, _, hc1⟩ := hv.elem mtC_len hx
    cases he1
    refine RK.skip ?_
    refine RK.seq ?_
    refine RK.block ?_
    refine RK.seq ?_
    refine RK.region ?_
    iterate 2 refine RL.p rfl rfl ?_
    refine RL.q (.free rfl) rfl rfl (Yld.indexAddrN u51 i50 rfl rfl (by omega)) ?_
    refine RL.q (.free rfl) rfl rfl (Yld.loadN (cs := [.int .i64 x.kind, .string x.name, .string x.value]) a50 rfl (atN (fun j u hj => hg.cell (hc1 j u hj) (fun h => h)))) ?_
    refine RL.op (.free rfl) rfl rfl (Does.call rfl e174 (largeR_ok x (hn x (List.mem_of_getElem? hx)) _)) ?_
    rintro _ w2 ⟨rfl, hg2⟩
    refine RL.done ?_
    first | refine RK.condD rfl (fun h14 => ?_) (fun h14 => ?_) | refine RK.condN rfl (fun h14 => ?_) (fun h14 => ?_) | refine RK.cond rfl (fun h14 => ?_) (fun h14 => ?_)
    · refine RK.seq ?_
      refine RK.region ?_
      refine RL.p rfl rfl ?_
      refine RL.done ?_
      refine RK.ret_of Tryz.func221 (res1 rfl rfl) ?_ _
      exact ⟨_, rfl, congrArg _ (anyL_at hx h14).symm, hg.trans hg2⟩
    · refine RK.skip ?_
      refine RK.inBlock ?_
      refine RK.region ?_
      iterate 2 refine RL.p rfl rfl ?_
      refine RL.re (d := 9) rfl rfl (succ_i64 (by omega)) ?_
      refine RL.p rfl rfl ?_
      refine RL.done ?_
      exact RK.back (ih (k + 1) _ ⟨hg.trans hg2, by omega, fun i a' hi ha' => by by_cases e : i = k; (subst e; rw [hx] at ha'; cases ha'; simpa using h14); exact hno i a' (by omega) ha'⟩ (by omega)) ⟨rfl, rfl, trivial⟩
  · refine RK.exit rfl ?_
    refine RK.seq ?_
    refine RK.region ?_
    refine RL.p rfl rfl ?_
    refine RL.done ?_
    refine RK.ret_of Tryz.func221 (res1 rfl rfl) ?_ _
    exact ⟨_, rfl, congrArg _ (anyL_no fun i x hx => hno i x (by have := (List.getElem?_eq_some_iff.1 hx).1; omega) hx).symm, hg⟩
theorem listR_ok (M : Nat → Prop) (ms : List Mt) (hn : ∀ m ∈ ms, m.name.size ≤ 9223372036854775807) (v : Value) (w : World) (hv : SlM M w v ms) : Fx Tryz.prog 117 [v] w (fun u w' => u = .bool (listM ms) ∧ Grow w w') := by
  obtain ⟨ad, c, rfl⟩ := hv.shape
  have hbig := hv.big
  refine enter Tryz.func117 rfl rfl rfl _ (Pick.sub (l := [0]) (.cons rfl .nil)) ?_
  refine RK.seq ?_
  refine RK.region ?_
  refine RL.p rfl rfl ?_
  refine RL.done ?_
  iterate 2 refine RK.seq ?_
  refine RK.region ?_
  refine RL.p rfl rfl ?_
  refine RL.q (.free rfl) rfl rfl (Yld.lenSl u51 rfl) ?_
  refine RL.p rfl rfl ?_
  refine RL.done ?_
  first | refine RK.condD rfl (fun h6 => ?_) (fun h6 => ?_) | refine RK.condN rfl (fun h6 => ?_) (fun h6 => ?_) | refine RK.cond rfl (fun h6 => ?_) (fun h6 => ?_)
  · refine RK.seq ?_
    refine RK.region ?_
    refine RL.p rfl rfl ?_
    refine RL.done ?_
    refine RK.ret_of Tryz.func117 (res1 rfl rfl) ?_ _
    exact ⟨_, rfl, by rw [listM_big (by omega)], Mod.refl _ _⟩
  · refine RK.skip ?_
    iterate 2 refine RK.seq ?_
    refine RK.region ?_
    refine RL.p rfl rfl ?_
    refine RL.done ?_
    refine RK.block ?_
    refine RK.loop (fun k : Nat => [(0, .slice ad ms.length c), (3, .int .i64 (k : Int))]) (fun k w' => Grow w w' ∧ k ≤ ms.length ∧ ∀ i, i < k → okM ms i = true) (fun k => ms.length - k) 0 ⟨rfl, rfl, trivial⟩ ⟨Mod.refl _ _, by omega, fun i hi => by omega⟩ (fun k w' hI ih => ?_)
    obtain ⟨hg, hk, hall⟩ := hI
    iterate 2 refine RK.seq ?_
    refine RK.region ?_
    iterate 2 refine RL.p rfl rfl ?_
    refine RL.q (.free rfl) rfl rfl (Yld.lenSl u51 rfl) ?_
    refine RL.p rfl rfl ?_
    refine RL.done ?_
    first | refine RK.condD rfl (fun h10 => ?_) (fun h10 => ?_) | refine RK.condN rfl (fun h10 => ?_) (fun h10 => ?_) | refine RK.cond rfl (fun h10 => ?_) (fun h10 => ?_)
    · obtain ⟨x, hx⟩ : ∃ x, ms[k]? = some x := ⟨ms[k]'(by omega), List.getElem?_eq_getElem (by omega)⟩
      obtain ⟨b1, o1, c1', he1, _, _, hc1⟩ := hv.elem mtC_len hx
      cases he1
      refine RK.skip ?_
      refine RK.seq ?_
      refine RK.block ?_
      refine RK.seq ?_
      refine RK.drawM No [(0, false), (1, false), (2, false), (3, false), (4, true), (5, false), (6, false), (7, false), (8, false), (9, false), (10, false), (11, false), (12, false), (13, false), (14, false), (15, false), (16, false), (17, false), (18, false), (19, true), (20, false), (21, false), (22, false)] [] mixed (by kernel_rfl) ?_
      iterate 2 refine DL.p rfl rfl rfl ?_
      refine DL.qf rfl (.free rfl) rfl rfl (Yld.indexAddrN u51 i50 rfl rfl (by omega)) ?_
      refine DL.q rfl (.free rfl) rfl rfl rfl (Yld.loadN (cs := mtC x) a50 rfl (atNM (fun q z hq => hg.cell (hc1 q z hq) (fun h => h)) (fun h => h))) (Mod.drew _ _) ?_
      refine DL.op rfl (.free rfl) rfl rfl (Does.call rfl e155 (isMatcher_ok x (hn x (List.mem_of_getElem? hx)) _)) ?_
      rintro _ w6 ⟨rfl, hg6⟩
      refine ⟨(Mod.drew No _).trans hg6, ?_⟩
      have hg5 := hg.trans ((Mod.drew No _).trans hg6)
      iterate 2 refine DL.p rfl rfl rfl ?_
      first | refine DL.splitD (d := 19) rfl rfl (fun h18 => ?_) (fun h18 => ?_) | refine DL.splitN (d := 19) rfl rfl (fun h18 => ?_) (fun h18 => ?_) | refine DL.split (d := 19) rfl rfl (fun h18 => ?_) (fun h18 => ?_)
      · iterate 12 refine DL.no rfl (.no rfl rfl rfl rfl) rfl rfl ?_
        refine DL.lno rfl (.no rfl rfl rfl rfl) rfl rfl ?_
        iterate 2 refine DL.no rfl (.no rfl rfl rfl rfl) rfl rfl ?_
        refine DL.p rfl rfl rfl ?_
        refine DL.done ?_
        refine RK.condT rfl ?_
        refine RK.seq ?_
        refine RK.region ?_
        refine RL.p rfl rfl ?_
        refine RL.done ?_
        refine RK.ret_of Tryz.func117 (res1 rfl rfl) ?_ _
        exact ⟨_, rfl, by rw [listM_no (i := k) (by omega) (by
            have hf : isM x = false := by simpa using h18
            cases k with
            | zero => rw [okM_0 hx]; exact hf
            | succ j => rw [okM_s hx (List.getElem?_eq_getElem (by omega)), hf]; rfl)], hg5⟩
      · have hix : isM x = true := by simpa using h18
        iterate 3 refine DL.qf rfl (.yes rfl rfl rfl) rfl rfl (Yld.pure rfl) ?_
        first | refine DL.splitD (d := 22) rfl rfl (fun h21 => ?_) (fun h21 => ?_) | refine DL.splitN (d := 22) rfl rfl (fun h21 => ?_) (fun h21 => ?_) | refine DL.split (d := 22) rfl rfl (fun h21 => ?_) (fun h21 => ?_)
        · obtain ⟨j, rfl⟩ : ∃ j, k = j + 1 := ⟨k - 1, by omega⟩
          obtain ⟨y, hy⟩ : ∃ y, ms[j]? = some y := ⟨ms[j]'(by omega), List.getElem?_eq_getElem (by omega)⟩
          obtain ⟨b2, o2, c2', he2, _, _, hc2⟩ := hv.elem mtC_len hy
          cases he2
          iterate 3 refine DL.qf rfl (.yes rfl rfl rfl) rfl rfl (Yld.pure rfl) ?_
          refine DL.re (d := 25) rfl rfl (sub_i64 (z := (j : Int)) (by omega) (by omega) (by omega)) ?_
          refine DL.qf rfl (.yes rfl rfl rfl) rfl rfl (Yld.indexAddrN u51 i50 rfl rfl (by omega)) ?_
          refine DL.q rfl (.yes rfl rfl rfl) rfl rfl rfl (Yld.loadN (cs := mtC y) a50 rfl (atNM (fun q z hq => hg.cell (hc2 q z hq) (fun h => h)) (fun h => h))) ((Mod.drew No _).trans hg6) ?_
          iterate 2 refine DL.qf rfl (.yes rfl rfl rfl) rfl rfl (Yld.pure rfl) ?_
          refine DL.qf rfl (.yes rfl rfl rfl) rfl rfl (Yld.indexAddrN u51 i50 rfl rfl (by omega)) ?_
          refine DL.q rfl (.yes rfl rfl rfl) rfl rfl rfl (Yld.loadN (cs := mtC x) a50 rfl (atNM (fun q z hq => hg.cell (hc1 q z hq) (fun h => h)) (fun h => h))) ((Mod.drew No _).trans hg6) ?_
          refine DL.op rfl (.yes rfl rfl rfl) rfl rfl (Does.call rfl e156 (before_ok y x _)) ?_
          rintro _ w7 ⟨rfl, hg7⟩
          have hg8 := hg.trans (((Mod.drew No _).trans hg6).trans hg7)
          refine ⟨((Mod.drew No _).trans hg6).trans hg7, ?_⟩
          iterate 2 refine DL.qf rfl (.yes rfl rfl rfl) rfl rfl (Yld.pure rfl) ?_
          refine DL.p rfl rfl rfl ?_
          refine DL.done ?_
          first | refine RK.condD rfl (fun h33 => ?_) (fun h33 => ?_) | refine RK.condN rfl (fun h33 => ?_) (fun h33 => ?_) | refine RK.cond rfl (fun h33 => ?_) (fun h33 => ?_)
          · refine RK.seq ?_
            refine RK.region ?_
            refine RL.p rfl rfl ?_
            refine RL.done ?_
            refine RK.ret_of Tryz.func117 (res1 rfl rfl) ?_ _
            exact ⟨_, rfl, by rw [listM_no (i := j + 1) (by omega) (by rw [okM_s hx hy, hix, show aheadM y x = false by simpa using h33]; rfl)], hg8⟩
          · have hay : aheadM y x = true := by simpa using h33
            refine RK.skip ?_
            refine RK.inBlock ?_
            refine RK.region ?_
            iterate 2 refine RL.p rfl rfl ?_
            refine RL.re (d := 12) rfl rfl (succ_i64 (by omega)) ?_
            refine RL.p rfl rfl ?_
            refine RL.done ?_
            exact RK.back (ih (j + 1 + 1) _ ⟨hg8, by omega, fun i hi => by by_cases e : i = j + 1; (subst e; rw [okM_s hx hy, hix, hay]; rfl); exact hall i (by omega)⟩ (by omega)) ⟨rfl, rfl, trivial⟩
        · have hk0 : k = 0 := by omega
          subst hk0
          iterate 9 refine DL.no rfl (.no rfl rfl rfl rfl) rfl rfl ?_
          refine DL.lno rfl (.no rfl rfl rfl rfl) rfl rfl ?_
          refine DL.no rfl (.no rfl rfl rfl rfl) rfl rfl ?_
          refine DL.qf rfl (.yes rfl rfl rfl) rfl rfl (Yld.pure rfl) ?_
          refine DL.p rfl rfl rfl ?_
          refine DL.done ?_
          refine RK.condF rfl ?_
          refine RK.skip ?_
          refine RK.inBlock ?_
          refine RK.region ?_
          iterate 2 refine RL.p rfl rfl ?_
          refine RL.re (d := 12) rfl rfl (succ_i64 (by omega)) ?_
          refine RL.p rfl rfl ?_
          refine RL.done ?_
          exact RK.back (ih (0 + 1) _ ⟨hg5, by omega, fun i hi => by by_cases e : i = 0; (subst e; rw [okM_0 hx]; exact hix); omega⟩ (by omega)) ⟨rfl, rfl, trivial⟩
    · refine RK.exit rfl ?_
      refine RK.seq ?_
      refine RK.region ?_
      refine RL.p rfl rfl ?_
      refine RL.done ?_
      refine RK.ret_of Tryz.func117 (res1 rfl rfl) ?_ _
      exact ⟨_, rfl, by rw [listM_yes (by omega) (fun i hi => hall i (by omega))], hg⟩
end Go.Proofs.YtffbcfcoddacmaaGreat
set_option linter.unusedVariables false
set_option linter.unusedSimpArgs false
set_option maxHeartbeats 1000000
set_option maxRecDepth 100000
namespace Go.Proofs.YtffbcfcoddacmaaGreat
open Go Go.X Go.Rex
structure Bd where
  all : Bool
  lo : Nat
  hi : Nat
def bdC (b : Bd) : List Value := [.bool b.all, .float .f64 b.lo, .float .f64 b.hi]
def leF (a b : Nat) : Bool := FloatKind.f64.format.order a b == some .lt || FloatKind.f64.format.order a b == some .eq
def mayB (b : Bd) : Bool := if b.all = true then decide ((bitsS b.lo : Int) = 0) && decide ((bitsS b.hi : Int) = 0) else leF b.lo b.hi
def inBd (b : Bd) (v : Nat) : Bool := mayB b && (b.all || (leF b.lo v && leF v b.hi))
theorem fldN {w : World} {b t : Nat} {cs : List Value} (h : Blk w b t cs) (k n : Nat) : ∀ j u, ((cs.drop k).take n)[j]? = some u → w.cell? ⟨b, 0 + k + j, none⟩ = some u := fun j u hj => by
  have hj2 : (cs.drop k)[j]? = some u := by
    rw [List.getElem?_take] at hj
    split at hj
    · exact hj
    · cases hj
  rw [List.getElem?_drop] at hj2
  rw [show 0 + k + j = k + j by omega]
  exact h.cell' hj2
theorem may_ok (b : Bd) (w : World) : Fx Tryz.prog 148 [.agg (bdC b).toArray] w (fun u w' => u = .bool (mayB b) ∧ Grow w w') := by
  refine enter Tryz.func148 rfl rfl rfl _ (Pick.sub (l := [0]) (.cons rfl .nil)) ?_
  refine RK.seq ?_
  refine RK.region ?_
  refine RL.op (.free rfl) rfl rfl (Does.box rfl) ?_
  rintro _ w1 ⟨b1, rfl, hn1⟩
  have hB1 : Blk w1 b1 86 [.bool b.all, .float .f64 b.lo, .float .f64 b.hi] := hn1.blk
  refine RL.p rfl rfl ?_
  refine RL.done ?_
  iterate 2 refine RK.seq ?_
  refine RK.region ?_
  refine RL.q (.free rfl) rfl rfl (Yld.fieldAddr fo86_0 rfl) ?_
  refine RL.q (.free rfl) rfl rfl (Yld.load p4 rfl (at1 (hB1.cell rfl))) ?_
  refine RL.done ?_
  first | refine RK.condD rfl (fun h4 => ?_) (fun h4 => ?_) | refine RK.condN rfl (fun h4 => ?_) (fun h4 => ?_) | refine RK.cond rfl (fun h4 => ?_) (fun h4 => ?_)
  · refine RK.seq ?_
    refine RK.region ?_
    refine RL.q (.free rfl) rfl rfl (Yld.fieldAddr fo86_1 rfl) ?_
    refine RL.q (.free rfl) rfl rfl (Yld.load p23 rfl (at1 (hB1.cell rfl))) ?_
    refine RL.op (.free rfl) rfl rfl (Does.call rfl e75 (bits_ok _ _)) ?_
    rintro _ _ ⟨rfl, rfl⟩
    iterate 2 refine RL.p rfl rfl ?_
    first | refine RL.splitD (d := 9) rfl rfl (fun h8 => ?_) (fun h8 => ?_) | refine RL.splitN (d := 9) rfl rfl (fun h8 => ?_) (fun h8 => ?_) | refine RL.split (d := 9) rfl rfl (fun h8 => ?_) (fun h8 => ?_)
    · refine RL.q (.yes rfl rfl rfl) rfl rfl (Yld.fieldAddr fo86_2 rfl) ?_
      refine RL.q (.yes rfl rfl rfl) rfl rfl (Yld.load p23 rfl (at1 (hB1.cell rfl))) ?_
      refine RL.op (.yes rfl rfl rfl) rfl rfl (Does.call rfl e75 (bits_ok _ _)) ?_
      rintro _ _ ⟨rfl, rfl⟩
      refine RL.q (.yes rfl rfl rfl) rfl rfl (Yld.pure rfl) ?_
      iterate 2 refine RL.p rfl rfl ?_
      refine RL.done ?_
      refine RK.ret_of Tryz.func148 (res1 rfl rfl) ?_ _
      exact ⟨_, rfl, by unfold mayB; rw [if_pos h4, decide_eq_true h8]; rfl, hn1.grow⟩
    · iterate 4 refine RL.no (.no rfl rfl rfl rfl) rfl rfl ?_
      iterate 2 refine RL.p rfl rfl ?_
      refine RL.done ?_
      refine RK.ret_of Tryz.func148 (res1 rfl rfl) ?_ _
      exact ⟨_, rfl, by unfold mayB; rw [if_pos h4, decide_eq_false h8]; rfl, hn1.grow⟩
  · refine RK.skip ?_
    refine RK.seq ?_
    refine RK.region ?_
    refine RL.q (.free rfl) rfl rfl (Yld.fieldAddr fo86_1 rfl) ?_
    refine RL.q (.free rfl) rfl rfl (Yld.load p23 rfl (at1 (hB1.cell rfl))) ?_
    refine RL.q (.free rfl) rfl rfl (Yld.fieldAddr fo86_2 rfl) ?_
    refine RL.q (.free rfl) rfl rfl (Yld.load p23 rfl (at1 (hB1.cell rfl))) ?_
    iterate 2 refine RL.p rfl rfl ?_
    refine RL.done ?_
    refine RK.ret_of Tryz.func148 (res1 rfl rfl) ?_ _
    exact ⟨_, rfl, by unfold mayB; rw [if_neg (by simp [h4])]; rfl, hn1.grow⟩
theorem mayR_ok (b : Bd) (w : World) : Fx Tryz.prog 118 [.agg (bdC b).toArray] w (fun u w' => u = .bool (mayB b) ∧ Grow w w') := by
  refine enter Tryz.func118 rfl rfl rfl _ (Pick.sub (l := [0]) (.cons rfl .nil)) ?_
  refine RK.seq ?_
  refine RK.region ?_
  refine RL.op (.free rfl) rfl rfl (Does.box rfl) ?_
  rintro _ w1 ⟨b1, rfl, hn1⟩
  have hB1 : Blk w1 b1 86 [.bool b.all, .float .f64 b.lo, .float .f64 b.hi] := hn1.blk
  refine RL.p rfl rfl ?_
  refine RL.done ?_
  iterate 2 refine RK.seq ?_
  refine RK.region ?_
  refine RL.q (.free rfl) rfl rfl (Yld.fieldAddr fo86_0 rfl) ?_
  refine RL.q (.free rfl) rfl rfl (Yld.load p4 rfl (at1 (hB1.cell rfl))) ?_
  refine RL.done ?_
  first | refine RK.condD rfl (fun h4 => ?_) (fun h4 => ?_) | refine RK.condN rfl (fun h4 => ?_) (fun h4 => ?_) | refine RK.cond rfl (fun h4 => ?_) (fun h4 => ?_)
  · refine RK.seq ?_
    refine RK.region ?_
    refine RL.q (.free rfl) rfl rfl (Yld.fieldAddr fo86_1 rfl) ?_
    refine RL.q (.free rfl) rfl rfl (Yld.load p23 rfl (at1 (hB1.cell rfl))) ?_
    refine RL.op (.free rfl) rfl rfl (Does.call rfl e22 (bits1_ok _ _)) ?_
    rintro _ _ ⟨rfl, rfl⟩
    iterate 2 refine RL.p rfl rfl ?_
    first | refine RL.splitD (d := 9) rfl rfl (fun h8 => ?_) (fun h8 => ?_) | refine RL.splitN (d := 9) rfl rfl (fun h8 => ?_) (fun h8 => ?_) | refine RL.split (d := 9) rfl rfl (fun h8 => ?_) (fun h8 => ?_)
    · refine RL.q (.yes rfl rfl rfl) rfl rfl (Yld.fieldAddr fo86_2 rfl) ?_
      refine RL.q (.yes rfl rfl rfl) rfl rfl (Yld.load p23 rfl (at1 (hB1.cell rfl))) ?_
      refine RL.op (.yes rfl rfl rfl) rfl rfl (Does.call rfl e22 (bits1_ok _ _)) ?_
      rintro _ _ ⟨rfl, rfl⟩
      refine RL.q (.yes rfl rfl rfl) rfl rfl (Yld.pure rfl) ?_
      iterate 2 refine RL.p rfl rfl ?_
      refine RL.done ?_
      refine RK.ret_of Tryz.func118 (res1 rfl rfl) ?_ _
      exact ⟨_, rfl, by unfold mayB; rw [if_pos h4, decide_eq_true h8]; rfl, hn1.grow⟩
    · iterate 4 refine RL.no (.no rfl rfl rfl rfl) rfl rfl ?_
      iterate 2 refine RL.p rfl rfl ?_
      refine RL.done ?_
      refine RK.ret_of Tryz.func118 (res1 rfl rfl) ?_ _
      exact ⟨_, rfl, by unfold mayB; rw [if_pos h4, decide_eq_false h8]; rfl, hn1.grow⟩
  · refine RK.skip ?_
    refine RK.seq ?_
    refine RK.region ?_
    refine RL.q (.free rfl) rfl rfl (Yld.fieldAddr fo86_1 rfl) ?_
    refine RL.q (.free rfl) rfl rfl (Yld.load p23 rfl (at1 (hB1.cell rfl))) ?_
    refine RL.q (.free rfl) rfl rfl (Yld.fieldAddr fo86_2 rfl) ?_
    refine RL.q (.free rfl) rfl rfl (Yld.load p23 rfl (at1 (hB1.cell rfl))) ?_
    iterate 2 refine RL.p rfl rfl ?_
    refine RL.done ?_
    refine RK.ret_of Tryz.func118 (res1 rfl rfl) ?_ _
    exact ⟨_, rfl, by unfold mayB; rw [if_neg (by simp [h4])]; rfl, hn1.grow⟩
theorem in_band_ok (b : Bd) (v : Nat) (w : World) : Fx Tryz.prog 110 [.agg (bdC b).toArray, .float .f64 v] w (fun u w' => u = .bool (inBd b v) ∧ Grow w w') := by
  refine enter Tryz.func110 rfl rfl rfl _ (Pick.sub (l := [0, 1]) (.cons rfl (.cons rfl .nil))) ?_
  refine RK.seq ?_
  refine RK.region ?_
  refine RL.op (.free rfl) rfl rfl (Does.box rfl) ?_
  rintro _ w1 ⟨b1, rfl, hn1⟩
  refine RL.p rfl rfl ?_
  refine RL.done ?_
  refine RK.seq ?_
  refine RK.region ?_
  refine RL.q (.free rfl) rfl rfl (Yld.loadN (cs := bdC b) a86 rfl (atN (blk0' hn1.blk))) ?_
  refine RL.op (.free rfl) rfl rfl (Does.call rfl e148 (may_ok b _)) ?_
  rintro _ w2 ⟨rfl, hg2'⟩
  have hg2 := hn1.grow.trans hg2'
  have hB2 : Blk w2 b1 86 [.bool b.all, .float .f64 b.lo, .float .f64 b.hi] := hn1.blk.mod hg2' (fun h => h)
  refine RL.p rfl rfl ?_
  first | refine RL.splitD (d := 7) rfl rfl (fun h6 => ?_) (fun h6 => ?_) | refine RL.splitN (d := 7) rfl rfl (fun h6 => ?_) (fun h6 => ?_) | refine RL.split (d := 7) rfl rfl (fun h6 => ?_) (fun h6 => ?_)
  · have hmay : mayB b = true := h6
    refine RL.q (.yes rfl rfl rfl) rfl rfl (Yld.fieldAddr fo86_0 rfl) ?_
    refine RL.q (.yes rfl rfl rfl) rfl rfl (Yld.load p4 rfl (at1 (hB2.cell rfl))) ?_
    refine RL.q (.yes rfl rfl rfl) rfl rfl (Yld.pure rfl) ?_
    first | refine RL.splitD (d := 10) rfl rfl (fun h9 => ?_) (fun h9 => ?_) | refine RL.splitN (d := 10) rfl rfl (fun h9 => ?_) (fun h9 => ?_) | refine RL.split (d := 10) rfl rfl (fun h9 => ?_) (fun h9 => ?_)
    · iterate 10 refine RL.no (.no rfl rfl rfl rfl) rfl rfl ?_
      refine RL.q (.yes rfl rfl rfl) rfl rfl (Yld.pure rfl) ?_
      iterate 2 refine RL.p rfl rfl ?_
      refine RL.done ?_
      refine RK.ret_of Tryz.func110 (res1 rfl rfl) ?_ _
      exact ⟨_, rfl, by unfold inBd; rw [hmay, h9]; rfl, hg2⟩
    · refine RL.q (.yes rfl rfl rfl) rfl rfl (Yld.fieldAddr fo86_1 rfl) ?_
      refine RL.q (.yes rfl rfl rfl) rfl rfl (Yld.load p23 rfl (at1 (hB2.cell rfl))) ?_
      iterate 3 refine RL.q (.yes rfl rfl rfl) rfl rfl (Yld.pure rfl) ?_
      first | refine RL.splitD (d := 15) rfl rfl (fun h14 => ?_) (fun h14 => ?_) | refine RL.splitN (d := 15) rfl rfl (fun h14 => ?_) (fun h14 => ?_) | refine RL.split (d := 15) rfl rfl (fun h14 => ?_) (fun h14 => ?_)
      · refine RL.q (.yes rfl rfl rfl) rfl rfl (Yld.pure rfl) ?_
        refine RL.q (.yes rfl rfl rfl) rfl rfl (Yld.fieldAddr fo86_2 rfl) ?_
        refine RL.q (.yes rfl rfl rfl) rfl rfl (Yld.load p23 rfl (at1 (hB2.cell rfl))) ?_
        iterate 3 refine RL.q (.yes rfl rfl rfl) rfl rfl (Yld.pure rfl) ?_
        iterate 2 refine RL.p rfl rfl ?_
        refine RL.done ?_
        refine RK.ret_of Tryz.func110 (res1 rfl rfl) ?_ _
        exact ⟨_, rfl, by unfold inBd; rw [hmay, show b.all = false by simpa using h9, show leF b.lo v = true from h14]; rfl, hg2⟩
      · iterate 4 refine RL.no (.no rfl rfl rfl rfl) rfl rfl ?_
        iterate 2 refine RL.q (.yes rfl rfl rfl) rfl rfl (Yld.pure rfl) ?_
        iterate 2 refine RL.p rfl rfl ?_
        refine RL.done ?_
        refine RK.ret_of Tryz.func110 (res1 rfl rfl) ?_ _
        exact ⟨_, rfl, by unfold inBd; rw [hmay, show b.all = false by simpa using h9, show leF b.lo v = false from h14]; rfl, hg2⟩
  · iterate 14 refine RL.no (.no rfl rfl rfl rfl) rfl rfl ?_
    iterate 2 refine RL.p rfl rfl ?_
    refine RL.done ?_
    refine RK.ret_of Tryz.func110 (res1 rfl rfl) ?_ _
    exact ⟨_, rfl, by unfold inBd; rw [show mayB b = false by simpa using h6]; rfl, hg2⟩
theorem inR_ok (b : Bd) (v : Nat) (w : World) : Fx Tryz.prog 115 [.agg (bdC b).toArray, .float .f64 v] w (fun u w' => u = .bool (inBd b v) ∧ Grow w w') := by
  refine enter Tryz.func115 rfl rfl rfl _ (Pick.sub (l := [0, 1]) (.cons rfl (.cons rfl .nil))) ?_
  refine RK.seq ?_
  refine RK.region ?_
  refine RL.op (.free rfl) rfl rfl (Does.box rfl) ?_
  rintro _ w1 ⟨b1, rfl, hn1⟩
  refine RL.p rfl rfl ?_
  refine RL.done ?_
  iterate 2 refine RK.seq ?_
  refine RK.region ?_
  refine RL.q (.free rfl) rfl rfl (Yld.loadN (cs := bdC b) a86 rfl (atN (blk0' hn1.blk))) ?_
  refine RL.op (.free rfl) rfl rfl (Does.call rfl e118 (mayR_ok b _)) ?_
  rintro _ w2 ⟨rfl, hg2'⟩
  have hg2 := hn1.grow.trans hg2'
  have hB2 : Blk w2 b1 86 [.bool b.all, .float .f64 b.lo, .float .f64 b.hi] := hn1.blk.mod hg2' (fun h => h)
  refine RL.p rfl rfl ?_
  refine RL.done ?_
  first | refine RK.condD rfl (fun h7 => ?_) (fun h7 => ?_) | refine RK.condN rfl (fun h7 => ?_) (fun h7 => ?_) | refine RK.cond rfl (fun h7 => ?_) (fun h7 => ?_)
  · refine RK.seq ?_
    refine RK.region ?_
    refine RL.p rfl rfl ?_
    refine RL.done ?_
    refine RK.ret_of Tryz.func115 (res1 rfl rfl) ?_ _
    exact ⟨_, rfl, by unfold inBd; rw [show mayB b = false by simpa using h7]; rfl, hg2⟩
  · have hmay : mayB b = true := by simpa using h7
    refine RK.skip ?_
    refine RK.seq ?_
    refine RK.region ?_
    refine RL.q (.free rfl) rfl rfl (Yld.fieldAddr fo86_0 rfl) ?_
    refine RL.q (.free rfl) rfl rfl (Yld.load p4 rfl (at1 (hB2.cell rfl))) ?_
    refine RL.p rfl rfl ?_
    first | refine RL.splitD (d := 10) rfl rfl (fun h9 => ?_) (fun h9 => ?_) | refine RL.splitN (d := 10) rfl rfl (fun h9 => ?_) (fun h9 => ?_) | refine RL.split (d := 10) rfl rfl (fun h9 => ?_) (fun h9 => ?_)
    · iterate 10 refine RL.no (.no rfl rfl rfl rfl) rfl rfl ?_
      iterate 2 refine RL.p rfl rfl ?_
      refine RL.done ?_
      refine RK.ret_of Tryz.func115 (res1 rfl rfl) ?_ _
      exact ⟨_, rfl, by unfold inBd; rw [hmay, h9]; rfl, hg2⟩
    · refine RL.q (.yes rfl rfl rfl) rfl rfl (Yld.fieldAddr fo86_1 rfl) ?_
      refine RL.q (.yes rfl rfl rfl) rfl rfl (Yld.load p23 rfl (at1 (hB2.cell rfl))) ?_
      iterate 3 refine RL.q (.yes rfl rfl rfl) rfl rfl (Yld.pure rfl) ?_
      first | refine RL.splitD (d := 15) rfl rfl (fun h14 => ?_) (fun h14 => ?_) | refine RL.splitN (d := 15) rfl rfl (fun h14 => ?_) (fun h14 => ?_) | refine RL.split (d := 15) rfl rfl (fun h14 => ?_) (fun h14 => ?_)
      · refine RL.q (.yes rfl rfl rfl) rfl rfl (Yld.pure rfl) ?_
        refine RL.q (.yes rfl rfl rfl) rfl rfl (Yld.fieldAddr fo86_2 rfl) ?_
        refine RL.q (.yes rfl rfl rfl) rfl rfl (Yld.load p23 rfl (at1 (hB2.cell rfl))) ?_
        iterate 2 refine RL.q (.yes rfl rfl rfl) rfl rfl (Yld.pure rfl) ?_
        iterate 2 refine RL.p rfl rfl ?_
        refine RL.done ?_
        refine RK.ret_of Tryz.func115 (res1 rfl rfl) ?_ _
        exact ⟨_, rfl, by unfold inBd; rw [hmay, show b.all = false by simpa using h9, show leF b.lo v = true from h14]; rfl, hg2⟩
      · iterate 4 refine RL.no (.no rfl rfl rfl rfl) rfl rfl ?_
        refine RL.q (.yes rfl rfl rfl) rfl rfl (Yld.pure rfl) ?_
        iterate 2 refine RL.p rfl rfl ?_
        refine RL.done ?_
        refine RK.ret_of Tryz.func115 (res1 rfl rfl) ?_ _
        exact ⟨_, rfl, by unfold inBd; rw [hmay, show b.all = false by simpa using h9, show leF b.lo v = false from h14]; rfl, hg2⟩
def stateS (now a b : Int) : Int := if b ≤ now then 3 else if now < a then 1 else 2
theorem state_ok (n a b : Int) (w : World) : Fx Tryz.prog 109 [.int .u64 n, .int .u64 a, .int .u64 b] w (fun u w' => u = .int .i64 (stateS n a b) ∧ w = w') := by
  refine enter Tryz.func109 rfl rfl rfl _ (Pick.sub (l := [0, 1, 2]) (.cons rfl (.cons rfl (.cons rfl .nil)))) ?_
  refine RK.seq ?_
  refine RK.region ?_
  refine RL.p rfl rfl ?_
  refine RL.done ?_
  refine RK.seq ?_
  refine RK.block ?_
  refine RK.seq ?_
  refine RK.region ?_
  iterate 4 refine RL.p rfl rfl ?_
  refine RL.done ?_
  first | refine RK.condD rfl (fun h10 => ?_) (fun h10 => ?_) | refine RK.condN rfl (fun h10 => ?_) (fun h10 => ?_) | refine RK.cond rfl (fun h10 => ?_) (fun h10 => ?_)
  · refine RK.seq ?_
    refine RK.region ?_
    refine RL.p rfl rfl ?_
    refine RL.done ?_
    refine RK.ret_of Tryz.func109 (res1 rfl rfl) ?_ _
    exact ⟨_, rfl, by unfold stateS; rw [if_pos (by omega)], rfl⟩
  · refine RK.seq ?_
    refine RK.region ?_
    iterate 4 refine RL.p rfl rfl ?_
    refine RL.done ?_
    first | refine RK.condD rfl (fun h14 => ?_) (fun h14 => ?_) | refine RK.condN rfl (fun h14 => ?_) (fun h14 => ?_) | refine RK.cond rfl (fun h14 => ?_) (fun h14 => ?_)
    · refine RK.seq ?_
      refine RK.region ?_
      refine RL.p rfl rfl ?_
      refine RL.done ?_
      refine RK.ret_of Tryz.func109 (res1 rfl rfl) ?_ _
      exact ⟨_, rfl, by unfold stateS; rw [if_neg (by omega), if_pos (by omega)], rfl⟩
    · refine RK.skip ?_
      refine RK.inBlock ?_
      refine RK.seq ?_
      refine RK.region ?_
      refine RL.p rfl rfl ?_
      refine RL.done ?_
      refine RK.ret_of Tryz.func109 (res1 rfl rfl) ?_ _
      exact ⟨_, rfl, by unfold stateS; rw [if_neg (by omega), if_neg (by omega)], rfl⟩
theorem stateR_ok (n a b : Int) (w : World) : Fx Tryz.prog 114 [.int .u64 n, .int .u64 a, .int .u64 b] w (fun u w' => u = .int .i64 (stateS n a b) ∧ w = w') := by
  refine enter Tryz.func114 rfl rfl rfl _ (Pick.sub (l := [0, 1, 2]) (.cons rfl (.cons rfl (.cons rfl .nil)))) ?_
  refine RK.seq ?_
  refine RK.region ?_
  refine RL.p rfl rfl ?_
  refine RL.done ?_
  refine RK.seq ?_
  refine RK.block ?_
  refine RK.seq ?_
  refine RK.region ?_
  iterate 4 refine RL.p rfl rfl ?_
  refine RL.done ?_
  first | refine RK.condD rfl (fun h10 => ?_) (fun h10 => ?_) | refine RK.condN rfl (fun h10 => ?_) (fun h10 => ?_) | refine RK.cond rfl (fun h10 => ?_) (fun h10 => ?_)
  · refine RK.seq ?_
    refine RK.region ?_
    refine RL.p rfl rfl ?_
    refine RL.done ?_
    refine RK.ret_of Tryz.func114 (res1 rfl rfl) ?_ _
    exact ⟨_, rfl, by unfold stateS; rw [if_pos (by omega)], rfl⟩
  · refine RK.seq ?_
    refine RK.region ?_
    iterate 4 refine RL.p rfl rfl ?_
    refine RL.done ?_
    first | refine RK.condD rfl (fun h14 => ?_) (fun h14 => ?_) | refine RK.condN rfl (fun h14 => ?_) (fun h14 => ?_) | refine RK.cond rfl (fun h14 => ?_) (fun h14 => ?_)
    · refine RK.seq ?_
      refine RK.region ?_
      refine RL.p rfl rfl ?_
      refine RL.done ?_
      refine RK.ret_of Tryz.func114 (res1 rfl rfl) ?_ _
      exact ⟨_, rfl, by unfold stateS; rw [if_neg (by omega), if_pos (by omega)], rfl⟩
    · refine RK.skip ?_
      refine RK.inBlock ?_
      refine RK.seq ?_
      refine RK.region ?_
      refine RL.p rfl rfl ?_
      refine RL.done ?_
      refine RK.ret_of Tryz.func114 (res1 rfl rfl) ?_ _
      exact ⟨_, rfl, by unfold stateS; rw [if_neg (by omega), if_neg (by omega)], rfl⟩
end Go.Proofs.YtffbcfcoddacmaaGreat
set_option linter.unusedVariables false
set_option linter.unusedSimpArgs false
set_option maxHeartbeats 1000000
set_option maxRecDepth 100000
namespace Go.Proofs.YtffbcfcoddacmaaGreat
open Go Go.X Go.Rex
structure Ru where
  sv : Value
  tv : Value
  ev : Value
  src : List Mt
  tgt : List Mt
  bd : Bd
  eq : List ByteArray
def ruC (r : Ru) : List Value := [r.sv, r.tv, .bool r.bd.all, .float .f64 r.bd.lo, .float .f64 r.bd.hi, r.ev]
theorem ruC_len (r : Ru) : (ruC r).length = 6 := rfl
def strsV (l : List ByteArray) : List Value := l.map Value.string
structure Ru.Ok (M : Nat → Prop) (w : World) (r : Ru) : Prop where
  s : SlM M w r.sv r.src
  t : SlM M w r.tv r.tgt
  e : Sl M w r.ev 1 r.eq.length (strsV r.eq)
theorem Ru.Ok.mod {M : Nat → Prop} {w w' : World} {r : Ru} (h : r.Ok M w) (hm : Mod M w w') : r.Ok M w' := ⟨h.s.mod hm, h.t.mod hm, h.e.mod hm⟩
structure Ru.Sz (r : Ru) : Prop where
  s : ∀ m ∈ r.src, m.name.size ≤ 9223372036854775807
  t : ∀ m ∈ r.tgt, m.name.size ≤ 9223372036854775807
  e : ∀ x ∈ r.eq, x.size ≤ 9223372036854775807
@[irreducible] def okE (es : List ByteArray) (i : Nat) : Bool := match es[i]? with
  | none => true
  | some x => nameS x && (match i with
    | 0 => true
    | j + 1 => match es[j]? with
      | none => true
      | some y => slt y x)
theorem okE_0 {es : List ByteArray} {x : ByteArray} (hx : es[0]? = some x) : okE es 0 = nameS x := by unfold okE; rw [hx]; simp
theorem okE_s {es : List ByteArray} {j : Nat} {x y : ByteArray} (hx : es[j + 1]? = some x) (hy : es[j]? = some y) : okE es (j + 1) = (nameS x && slt y x) := by unfold okE; rw [hx]; simp only; rw [hy]
def eqsE (es : List ByteArray) : Bool := (List.range es.length).all (okE es)
@[irreducible] def isRu (r : Ru) : Bool := !decide ((r.src.length : Int) = 0) && (!decide ((r.tgt.length : Int) = 0) && (listM r.src && (listM r.tgt && (mayB r.bd && (!decide (4 < (r.eq.length : Int)) && eqsE r.eq)))))
theorem isRu_no {r : Ru} {i : Nat} (hi : i < r.eq.length) (h : okE r.eq i = false) : isRu r = false := by
  have h1 : eqsE r.eq = false := List.all_eq_false.2 ⟨i, List.mem_range.2 hi, by simp [h]⟩
  unfold isRu; simp [h1]
theorem isRu_yes {r : Ru} (h1 : ¬ (r.src.length : Int) = 0) (h2 : ¬ (r.tgt.length : Int) = 0) (h3 : listM r.src = true) (h4 : listM r.tgt = true) (h5 : mayB r.bd = true) (h6 : ¬ 4 < (r.eq.length : Int)) (h : ∀ i, i < r.eq.length → okE r.eq i = true) : isRu r = true := by
  have h7 : eqsE r.eq = true := List.all_eq_true.2 fun i hi => h i (List.mem_range.1 hi)
  unfold isRu
  rw [decide_eq_false h1, decide_eq_false h2, h3, h4, h5, decide_eq_false h6, h7]; rfl
theorem isRule_ok (M : Nat → Prop) (r : Ru) (w : World) (hr : r.Ok M w) : Fx Tryz.prog 218 [.agg (ruC r).toArray] w (fun u w' => u = .bool (isRu r) ∧ Grow w w') := by
  obtain ⟨sv, tv, ev, src, tgt, bd, eq⟩ := r
  obtain ⟨hs, ht, he⟩ := hr
  simp only at hs ht he
  obtain ⟨ad1, c1, rfl⟩ := hs.shape
  obtain ⟨ad2, c2, rfl⟩ := ht.shape
  obtain ⟨ad3, c3, rfl⟩ := he.shape
  have hbig := he.big
  refine enter Tryz.func218 rfl rfl rfl _ (Pick.sub (l := [0]) (.cons rfl .nil)) ?_
  refine RK.seq ?_
  refine RK.region ?_
  refine RL.op (.free rfl) rfl rfl (Does.box rfl) ?_
  rintro _ w1 ⟨b1, rfl, hn1⟩
  have hB1 : Blk w1 b1 89 (ruC ⟨.slice ad1 src.length c1, .slice ad2 tgt.length c2, .slice ad3 eq.length c3, src, tgt, bd, eq⟩) := hn1.blk
  refine RL.p rfl rfl ?_
  refine RL.done ?_
  iterate 2 refine RK.seq ?_
  refine RK.region ?_
  refine RL.q (.free rfl) rfl rfl (Yld.fieldAddr fo89_0 rfl) ?_
  refine RL.q (.free rfl) rfl rfl (Yld.load p51 rfl (at1 (hB1.cell rfl))) ?_
  refine RL.q (.free rfl) rfl rfl (Yld.lenSl u51 rfl) ?_
  iterate 2 refine RL.p rfl rfl ?_
  first | refine RL.splitD (d := 9) rfl rfl (fun h8 => ?_) (fun h8 => ?_) | refine RL.splitN (d := 9) rfl rfl (fun h8 => ?_) (fun h8 => ?_) | refine RL.split (d := 9) rfl rfl (fun h8 => ?_) (fun h8 => ?_)
  · iterate 4 refine RL.no (.no rfl rfl rfl rfl) rfl rfl ?_
    iterate 2 refine RL.p rfl rfl ?_
    iterate 4 refine RL.no (.no rfl rfl rfl rfl) rfl rfl ?_
    iterate 2 refine RL.p rfl rfl ?_
    iterate 4 refine RL.no (.no rfl rfl rfl rfl) rfl rfl ?_
    iterate 2 refine RL.p rfl rfl ?_
    iterate 4 refine RL.no (.no rfl rfl rfl rfl) rfl rfl ?_
    iterate 2 refine RL.p rfl rfl ?_
    iterate 4 refine RL.no (.no rfl rfl rfl rfl) rfl rfl ?_
    refine RL.p rfl rfl ?_
    refine RL.done ?_
    refine RK.condT rfl ?_
    refine RK.seq ?_
    refine RK.region ?_
    refine RL.p rfl rfl ?_
    refine RL.done ?_
    refine RK.ret_of Tryz.func218 (res1 rfl rfl) ?_ _
    exact ⟨_, rfl, by unfold isRu; simp only [decide_eq_true h8]; rfl, hn1.grow⟩
  · refine RL.q (.yes rfl rfl rfl) rfl rfl (Yld.fieldAddr fo89_1 rfl) ?_
    refine RL.q (.yes rfl rfl rfl) rfl rfl (Yld.load p51 rfl (at1 (hB1.cell rfl))) ?_
    refine RL.q (.yes rfl rfl rfl) rfl rfl (Yld.lenSl u51 rfl) ?_
    refine RL.q (.yes rfl rfl rfl) rfl rfl (Yld.pure rfl) ?_
    iterate 2 refine RL.p rfl rfl ?_
    first | refine RL.splitD (d := 15) rfl rfl (fun h13 => ?_) (fun h13 => ?_) | refine RL.splitN (d := 15) rfl rfl (fun h13 => ?_) (fun h13 => ?_) | refine RL.split (d := 15) rfl rfl (fun h13 => ?_) (fun h13 => ?_)
    · iterate 4 refine RL.no (.no rfl rfl rfl rfl) rfl rfl ?_
      iterate 2 refine RL.p rfl rfl ?_
      iterate 4 refine RL.no (.no rfl rfl rfl rfl) rfl rfl ?_
      iterate 2 refine RL.p rfl rfl ?_
      iterate 4 refine RL.no (.no rfl rfl rfl rfl) rfl rfl ?_
      iterate 2 refine RL.p rfl rfl ?_
      iterate 4 refine RL.no (.no rfl rfl rfl rfl) rfl rfl ?_
      refine RL.p rfl rfl ?_
      refine RL.done ?_
      refine RK.condT rfl ?_
      refine RK.seq ?_
      refine RK.region ?_
      refine RL.p rfl rfl ?_
      refine RL.done ?_
      refine RK.ret_of Tryz.func218 (res1 rfl rfl) ?_ _
      exact ⟨_, rfl, by unfold isRu; simp only [decide_eq_true h13]; rw [Bool.not_true, Bool.false_and, Bool.and_false], hn1.grow⟩
    · refine RL.q (.yes rfl rfl rfl) rfl rfl (Yld.fieldAddr fo89_0 rfl) ?_
      refine RL.q (.yes rfl rfl rfl) rfl rfl (Yld.load p51 rfl (at1 (hB1.cell rfl))) ?_
      refine RL.op (.yes rfl rfl rfl) rfl rfl (Does.call rfl e244 (matchList_ok M src _ _ (hs.mod (Mod.any' hn1.grow)))) ?_
      rintro _ w2 ⟨rfl, hg2⟩
      have hB2 := hB1.mod hg2 (fun h => h)
      have hg12 := hn1.grow.trans hg2
      refine RL.q (.yes rfl rfl rfl) rfl rfl (Yld.pure rfl) ?_
      iterate 2 refine RL.p rfl rfl ?_
      first | refine RL.splitD (d := 21) rfl rfl (fun h19 => ?_) (fun h19 => ?_) | refine RL.splitN (d := 21) rfl rfl (fun h19 => ?_) (fun h19 => ?_) | refine RL.split (d := 21) rfl rfl (fun h19 => ?_) (fun h19 => ?_)
      · iterate 4 refine RL.no (.no rfl rfl rfl rfl) rfl rfl ?_
        iterate 2 refine RL.p rfl rfl ?_
        iterate 4 refine RL.no (.no rfl rfl rfl rfl) rfl rfl ?_
        iterate 2 refine RL.p rfl rfl ?_
        iterate 4 refine RL.no (.no rfl rfl rfl rfl) rfl rfl ?_
        refine RL.p rfl rfl ?_
        refine RL.done ?_
        refine RK.condT rfl ?_
        refine RK.seq ?_
        refine RK.region ?_
        refine RL.p rfl rfl ?_
        refine RL.done ?_
        refine RK.ret_of Tryz.func218 (res1 rfl rfl) ?_ _
        exact ⟨_, rfl, by unfold isRu; simp only [show listM src = false by simpa using h19]; rw [Bool.false_and, Bool.and_false, Bool.and_false], hg12⟩
      · have hl1 : listM src = true := by simpa using h19
        refine RL.q (.yes rfl rfl rfl) rfl rfl (Yld.fieldAddr fo89_1 rfl) ?_
        refine RL.q (.yes rfl rfl rfl) rfl rfl (Yld.load p51 rfl (at1 (hB2.cell rfl))) ?_
        refine RL.op (.yes rfl rfl rfl) rfl rfl (Does.call rfl e244 (matchList_ok M tgt _ _ (ht.mod (Mod.any' hg12)))) ?_
        rintro _ w3 ⟨rfl, hg3⟩
        have hB3 := hB2.mod hg3 (fun h => h)
        have hg13 := hg12.trans hg3
        refine RL.q (.yes rfl rfl rfl) rfl rfl (Yld.pure rfl) ?_
        iterate 2 refine RL.p rfl rfl ?_
        first | refine RL.splitD (d := 27) rfl rfl (fun h25 => ?_) (fun h25 => ?_) | refine RL.splitN (d := 27) rfl rfl (fun h25 => ?_) (fun h25 => ?_) | refine RL.split (d := 27) rfl rfl (fun h25 => ?_) (fun h25 => ?_)
        · iterate 4 refine RL.no (.no rfl rfl rfl rfl) rfl rfl ?_
          iterate 2 refine RL.p rfl rfl ?_
          iterate 4 refine RL.no (.no rfl rfl rfl rfl) rfl rfl ?_
          refine RL.p rfl rfl ?_
          refine RL.done ?_
          refine RK.condT rfl ?_
          refine RK.seq ?_
          refine RK.region ?_
          refine RL.p rfl rfl ?_
          refine RL.done ?_
          refine RK.ret_of Tryz.func218 (res1 rfl rfl) ?_ _
          exact ⟨_, rfl, by unfold isRu; simp only [show listM tgt = false by simpa using h25]; rw [Bool.false_and, Bool.and_false, Bool.and_false, Bool.and_false], hg13⟩
        · have hl2 : listM tgt = true := by simpa using h25
          refine RL.q (.yes rfl rfl rfl) rfl rfl (Yld.fieldAddr fo89_2 rfl) ?_
          refine RL.q (.yes rfl rfl rfl) rfl rfl (Yld.loadN (cs := bdC bd) a86 rfl (atN (fldN hB3 2 3))) ?_
          refine RL.op (.yes rfl rfl rfl) rfl rfl (Does.call rfl e148 (may_ok bd _)) ?_
          rintro _ w4 ⟨rfl, hg4⟩
          have hB4 := hB3.mod hg4 (fun h => h)
          have hg14 := hg13.trans hg4
          refine RL.q (.yes rfl rfl rfl) rfl rfl (Yld.pure rfl) ?_
          iterate 2 refine RL.p rfl rfl ?_
          first | refine RL.splitD (d := 33) rfl rfl (fun h31 => ?_) (fun h31 => ?_) | refine RL.splitN (d := 33) rfl rfl (fun h31 => ?_) (fun h31 => ?_) | refine RL.split (d := 33) rfl rfl (fun h31 => ?_) (fun h31 => ?_)
          · iterate 4 refine RL.no (.no rfl rfl rfl rfl) rfl rfl ?_
            refine RL.p rfl rfl ?_
            refine RL.done ?_
            refine RK.condT rfl ?_
            refine RK.seq ?_
            refine RK.region ?_
            refine RL.p rfl rfl ?_
            refine RL.done ?_
            refine RK.ret_of Tryz.func218 (res1 rfl rfl) ?_ _
            exact ⟨_, rfl, by unfold isRu; simp only [show mayB bd = false by simpa using h31]; rw [Bool.false_and, Bool.and_false, Bool.and_false, Bool.and_false, Bool.and_false], hg14⟩
          · have hl3 : mayB bd = true := by simpa using h31
            refine RL.q (.yes rfl rfl rfl) rfl rfl (Yld.fieldAddr fo89_3 rfl) ?_
            refine RL.q (.yes rfl rfl rfl) rfl rfl (Yld.load p87 rfl (at1 (hB4.cell rfl))) ?_
            refine RL.q (.yes rfl rfl rfl) rfl rfl (Yld.lenSl u87 rfl) ?_
            refine RL.q (.yes rfl rfl rfl) rfl rfl (Yld.pure rfl) ?_
            refine RL.p rfl rfl ?_
            refine RL.done ?_
            first | refine RK.condD rfl (fun h37 => ?_) (fun h37 => ?_) | refine RK.condN rfl (fun h37 => ?_) (fun h37 => ?_) | refine RK.cond rfl (fun h37 => ?_) (fun h37 => ?_)
            · refine RK.seq ?_
              refine RK.region ?_
              refine RL.p rfl rfl ?_
              refine RL.done ?_
              refine RK.ret_of Tryz.func218 (res1 rfl rfl) ?_ _
              exact ⟨_, rfl, by unfold isRu; simp only [decide_eq_true h37]; rw [Bool.not_true, Bool.false_and, Bool.and_false, Bool.and_false, Bool.and_false, Bool.and_false, Bool.and_false], hg14⟩
            · have hyes := fun h => isRu_yes (r := ⟨.slice ad1 src.length c1, .slice ad2 tgt.length c2, .slice ad3 eq.length c3, src, tgt, bd, eq⟩) h8 h13 hl1 hl2 hl3 h37 h
              have hno := fun (i : Nat) hi h => isRu_no (r := ⟨.slice ad1 src.length c1, .slice ad2 tgt.length c2, .slice ad3 eq.length c3, src, tgt, bd, eq⟩) (i := i) hi h
              simp only at hyes hno
              refine RK.skip ?_
              iterate 2 refine RK.seq ?_
              refine RK.region ?_
              refine RL.q (.free rfl) rfl rfl (Yld.fieldAddr fo89_3 rfl) ?_
              refine RL.q (.free rfl) rfl rfl (Yld.load p87 rfl (at1 (hB4.cell rfl))) ?_
              refine RL.q (.free rfl) rfl rfl (Yld.lenSl u87 rfl) ?_
              refine RL.p rfl rfl ?_
              refine RL.done ?_
              refine RK.block ?_
              refine RK.loop (fun k : Nat => [(1, pp b1), (40, .slice ad3 eq.length c3), (41, .int .i64 (eq.length : Int)), (42, .int .i64 (k : Int))]) (fun k w' => w4 = w' ∧ k ≤ eq.length ∧ ∀ i, i < k → okE eq i = true) (fun k => eq.length - k) 0 ⟨rfl, rfl, rfl, rfl, trivial⟩ ⟨rfl, by omega, fun i hi => by omega⟩ (fun k w' hI ih => ?_)
              obtain ⟨rfl, hk, hall⟩ := hI
              refine RK.seq ?_
              refine RK.region ?_
              refine RL.p rfl rfl ?_
              refine RL.done ?_
              refine RK.seq ?_
              first | refine RK.condD rfl (fun h43 => ?_) (fun h43 => ?_) | refine RK.condN rfl (fun h43 => ?_) (fun h43 => ?_) | refine RK.cond rfl (fun h43 => ?_) (fun h43 => ?_)
              · obtain ⟨x, hx⟩ : ∃ x, eq[k]? = some x := ⟨eq[k]'(by omega), List.getElem?_eq_getElem (by omega)⟩
                obtain ⟨b2, o2, c', he1, _, _, hc1⟩ := (he.mod (Mod.any' hg14)).elem1 (k := k) (u := .string x) (by simp [strsV, hx])
                cases he1
                refine RK.skip ?_
                refine RK.seq ?_
                refine RK.block ?_
                refine RK.seq ?_
                refine RK.region ?_
                refine RL.p rfl rfl ?_
                refine RL.q (.free rfl) rfl rfl (Yld.indexAddrN u87 i9 rfl rfl (by omega)) ?_
                refine RL.q (.free rfl) rfl rfl (Yld.load p9 rfl (at1 (hc1 k (.string x) (by simp [strsV, hx])))) ?_
                iterate 2 refine RL.p rfl rfl ?_
                refine RL.done ?_
                refine RK.seq ?_
                refine RK.region ?_
                refine RL.p rfl rfl ?_
                refine RL.op (.free rfl) rfl rfl (Does.call rfl e122 (name_ok x _)) ?_
                rintro _ _ ⟨rfl, rfl⟩
                iterate 2 refine RL.p rfl rfl ?_
                first | refine RL.splitD (d := 50) rfl rfl (fun h49 => ?_) (fun h49 => ?_) | refine RL.splitN (d := 50) rfl rfl (fun h49 => ?_) (fun h49 => ?_) | refine RL.split (d := 50) rfl rfl (fun h49 => ?_) (fun h49 => ?_)
                · iterate 12 refine RL.no (.no rfl rfl rfl rfl) rfl rfl ?_
                  refine RL.p rfl rfl ?_
                  refine RL.done ?_
                  refine RK.condT rfl ?_
                  refine RK.seq ?_
                  refine RK.region ?_
                  refine RL.p rfl rfl ?_
                  refine RL.done ?_
                  refine RK.ret_of Tryz.func218 (res1 rfl rfl) ?_ _
                  exact ⟨_, rfl, by rw [hno k (by omega) (by
                      have hf : nameS x = false := by simpa using h49
                      cases k with
                      | zero => rw [okE_0 hx]; exact hf
                      | succ j => rw [okE_s hx (List.getElem?_eq_getElem (by omega)), hf]; rfl)], hg14⟩
                · have hix : nameS x = true := by simpa using h49
                  iterate 3 refine RL.q (.yes rfl rfl rfl) rfl rfl (Yld.pure rfl) ?_
                  first | refine RL.splitD (d := 53) rfl rfl (fun h52 => ?_) (fun h52 => ?_) | refine RL.splitN (d := 53) rfl rfl (fun h52 => ?_) (fun h52 => ?_) | refine RL.split (d := 53) rfl rfl (fun h52 => ?_) (fun h52 => ?_)
                  · obtain ⟨j, rfl⟩ : ∃ j, k = j + 1 := ⟨k - 1, by omega⟩
                    obtain ⟨y, hy⟩ : ∃ y, eq[j]? = some y := ⟨eq[j]'(by omega), List.getElem?_eq_getElem (by omega)⟩
                    refine RL.q (.yes rfl rfl rfl) rfl rfl (Yld.pure rfl) ?_
                    refine RL.q (.yes rfl rfl rfl) rfl rfl (Yld.fieldAddr fo89_3 rfl) ?_
                    refine RL.q (.yes rfl rfl rfl) rfl rfl (Yld.load p87 rfl (at1 (hB4.cell rfl))) ?_
                    iterate 2 refine RL.q (.yes rfl rfl rfl) rfl rfl (Yld.pure rfl) ?_
                    refine RL.re (d := 58) rfl rfl (sub_i64 (z := (j : Int)) (by omega) (by omega) (by omega)) ?_
                    refine RL.q (.yes rfl rfl rfl) rfl rfl (Yld.indexAddrN u87 i9 rfl rfl (by omega)) ?_
                    refine RL.q (.yes rfl rfl rfl) rfl rfl (Yld.load p9 rfl (at1 (hc1 j (.string y) (by simp [strsV, hy])))) ?_
                    iterate 2 refine RL.q (.yes rfl rfl rfl) rfl rfl (Yld.pure rfl) ?_
                    refine RL.p rfl rfl ?_
                    refine RL.done ?_
                    first | refine RK.condD rfl (fun h61 => ?_) (fun h61 => ?_) | refine RK.condN rfl (fun h61 => ?_) (fun h61 => ?_) | refine RK.cond rfl (fun h61 => ?_) (fun h61 => ?_)
                    · refine RK.seq ?_
                      refine RK.region ?_
                      refine RL.p rfl rfl ?_
                      refine RL.done ?_
                      refine RK.ret_of Tryz.func218 (res1 rfl rfl) ?_ _
                      exact ⟨_, rfl, by rw [hno (j + 1) (by omega) (by rw [okE_s hx hy, hix, show slt y x = false by rw [sle_not] at h61; simpa using h61]; rfl)], hg14⟩
                    · refine RK.skip ?_
                      refine RK.inBlock ?_
                      refine RK.region ?_
                      refine RL.p rfl rfl ?_
                      refine RL.re (d := 64) rfl rfl (succ_i64 (by omega)) ?_
                      refine RL.p rfl rfl ?_
                      refine RL.done ?_
                      exact RK.back (ih (j + 1 + 1) _ ⟨rfl, by omega, fun i hi => by by_cases e : i = j + 1; (subst e; rw [okE_s hx hy, hix, show slt y x = true by rw [sle_not] at h61; simpa using h61]; rfl); exact hall i (by omega)⟩ (by omega)) ⟨rfl, rfl, rfl, rfl, trivial⟩
                  · have hk0 : k = 0 := by omega
                    subst hk0
                    iterate 8 refine RL.no (.no rfl rfl rfl rfl) rfl rfl ?_
                    refine RL.q (.yes rfl rfl rfl) rfl rfl (Yld.pure rfl) ?_
                    refine RL.p rfl rfl ?_
                    refine RL.done ?_
                    refine RK.condF rfl ?_
                    refine RK.skip ?_
                    refine RK.inBlock ?_
                    refine RK.region ?_
                    refine RL.p rfl rfl ?_
                    refine RL.re (d := 64) rfl rfl (succ_i64 (by omega)) ?_
                    refine RL.p rfl rfl ?_
                    refine RL.done ?_
                    exact RK.back (ih (0 + 1) _ ⟨rfl, by omega, fun i hi => by by_cases e : i = 0; (subst e; rw [okE_0 hx]; exact hix); omega⟩ (by omega)) ⟨rfl, rfl, rfl, rfl, trivial⟩
              · refine RK.exit rfl ?_
                refine RK.seq ?_
                refine RK.region ?_
                refine RL.p rfl rfl ?_
                refine RL.done ?_
                refine RK.ret_of Tryz.func218 (res1 rfl rfl) ?_ _
                exact ⟨_, rfl, by rw [hyes (fun i hi => hall i (by omega))], hg14⟩
theorem isRuleR_ok (M : Nat → Prop) (r : Ru) (w : World) (hr : r.Ok M w) (hz : r.Sz) : Fx Tryz.prog 61 [.agg (ruC r).toArray] w (fun u w' => u = .bool (isRu r) ∧ Grow w w') := by
  obtain ⟨sv, tv, ev, src, tgt, bd, eq⟩ := r
  obtain ⟨hs, ht, he⟩ := hr
  simp only at hs ht he
  obtain ⟨ad1, c1, rfl⟩ := hs.shape
  obtain ⟨ad2, c2, rfl⟩ := ht.shape
  obtain ⟨ad3, c3, rfl⟩ := he.shape
  have hbig := he.big
  obtain ⟨hzs, hzt, hze⟩ := hz
  simp only at hzs hzt hze
  refine enter Tryz.func61 rfl rfl rfl _ (Pick.sub (l := [0]) (.cons rfl .nil)) ?_
  refine RK.seq ?_
  refine RK.region ?_
  refine RL.op (.free rfl) rfl rfl (Does.box rfl) ?_
  rintro _ w1 ⟨b1, rfl, hn1⟩
  have hB1 : Blk w1 b1 89 (ruC ⟨.slice ad1 src.length c1, .slice ad2 tgt.length c2, .slice ad3 eq.length c3, src, tgt, bd, eq⟩) := hn1.blk
  refine RL.p rfl rfl ?_
  refine RL.done ?_
  iterate 2 refine RK.seq ?_
  refine RK.region ?_
  refine RL.q (.free rfl) rfl rfl (Yld.fieldAddr fo89_0 rfl) ?_
  refine RL.q (.free rfl) rfl rfl (Yld.load p51 rfl (at1 (hB1.cell rfl))) ?_
  refine RL.q (.free rfl) rfl rfl (Yld.lenSl u51 rfl) ?_
  iterate 2 refine RL.p rfl rfl ?_
  first | refine RL.splitD (d := 8) rfl rfl (fun h8 => ?_) (fun h8 => ?_) | refine RL.splitN (d := 8) rfl rfl (fun h8 => ?_) (fun h8 => ?_) | refine RL.split (d := 8) rfl rfl (fun h8 => ?_) (fun h8 => ?_)
  · iterate 4 refine RL.no (.no rfl rfl rfl rfl) rfl rfl ?_
    iterate 2 refine RL.p rfl rfl ?_
    iterate 4 refine RL.no (.no rfl rfl rfl rfl) rfl rfl ?_
    iterate 2 refine RL.p rfl rfl ?_
    iterate 4 refine RL.no (.no rfl rfl rfl rfl) rfl rfl ?_
    iterate 2 refine RL.p rfl rfl ?_
    iterate 4 refine RL.no (.no rfl rfl rfl rfl) rfl rfl ?_
    iterate 2 refine RL.p rfl rfl ?_
    iterate 4 refine RL.no (.no rfl rfl rfl rfl) rfl rfl ?_
    refine RL.p rfl rfl ?_
    refine RL.done ?_
    refine RK.condT rfl ?_
    refine RK.seq ?_
    refine RK.region ?_
    refine RL.p rfl rfl ?_
    refine RL.done ?_
    refine RK.ret_of Tryz.func61 (res1 rfl rfl) ?_ _
    exact ⟨_, rfl, by unfold isRu; simp only [decide_eq_true h8]; rfl, hn1.grow⟩
  · refine RL.q (.yes rfl rfl rfl) rfl rfl (Yld.fieldAddr fo89_1 rfl) ?_
    refine RL.q (.yes rfl rfl rfl) rfl rfl (Yld.load p51 rfl (at1 (hB1.cell rfl))) ?_
    refine RL.q (.yes rfl rfl rfl) rfl rfl (Yld.lenSl u51 rfl) ?_
    refine RL.q (.yes rfl rfl rfl) rfl rfl (Yld.pure rfl) ?_
    iterate 2 refine RL.p rfl rfl ?_
    first | refine RL.splitD (d := 14) rfl rfl (fun h13 => ?_) (fun h13 => ?_) | refine RL.splitN (d := 14) rfl rfl (fun h13 => ?_) (fun h13 => ?_) | refine RL.split (d := 14) rfl rfl (fun h13 => ?_) (fun h13 => ?_)
    · iterate 4 refine RL.no (.no rfl rfl rfl rfl) rfl rfl ?_
      iterate 2 refine RL.p rfl rfl ?_
      iterate 4 refine RL.no (.no rfl rfl rfl rfl) rfl rfl ?_
      iterate 2 refine RL.p rfl rfl ?_
      iterate 4 refine RL.no (.no rfl rfl rfl rfl) rfl rfl ?_
      iterate 2 refine RL.p rfl rfl ?_
      iterate 4 refine RL.no (.no rfl rfl rfl rfl) rfl rfl ?_
      refine RL.p rfl rfl ?_
      refine RL.done ?_
      refine RK.condT rfl ?_
      refine RK.seq ?_
      refine RK.region ?_
      refine RL.p rfl rfl ?_
      refine RL.done ?_
      refine RK.ret_of Tryz.func61 (res1 rfl rfl) ?_ _
      exact ⟨_, rfl, by unfold isRu; simp only [decide_eq_true h13]; rw [Bool.not_true, Bool.false_and, Bool.and_false], hn1.grow⟩
    · refine RL.q (.yes rfl rfl rfl) rfl rfl (Yld.fieldAddr fo89_0 rfl) ?_
      refine RL.q (.yes rfl rfl rfl) rfl rfl (Yld.load p51 rfl (at1 (hB1.cell rfl))) ?_
      refine RL.op (.yes rfl rfl rfl) rfl rfl (Does.call rfl e117 (listR_ok M src hzs _ _ (hs.mod (Mod.any' hn1.grow)))) ?_
      rintro _ w2 ⟨rfl, hg2⟩
      have hB2 := hB1.mod hg2 (fun h => h)
      have hg12 := hn1.grow.trans hg2
      refine RL.q (.yes rfl rfl rfl) rfl rfl (Yld.pure rfl) ?_
      iterate 2 refine RL.p rfl rfl ?_
      first | refine RL.splitD (d := 20) rfl rfl (fun h19 => ?_) (fun h19 => ?_) | refine RL.splitN (d := 20) rfl rfl (fun h19 => ?_) (fun h19 => ?_) | refine RL.split (d := 20) rfl rfl (fun h19 => ?_) (fun h19 => ?_)
      · iterate 4 refine RL.no (.no rfl rfl rfl rfl) rfl rfl ?_
        iterate 2 refine RL.p rfl rfl ?_
        iterate 4 refine RL.no (.no rfl rfl rfl rfl) rfl rfl ?_
        iterate 2 refine RL.p rfl rfl ?_
        iterate 4 refine RL.no (.no rfl rfl rfl rfl) rfl rfl ?_
        refine RL.p rfl rfl ?_
        refine RL.done ?_
        refine RK.condT rfl ?_
        refine RK.seq ?_
        refine RK.region ?_
        refine RL.p rfl rfl ?_
        refine RL.done ?_
        refine RK.ret_of Tryz.func61 (res1 rfl rfl) ?_ _
        exact ⟨_, rfl, by unfold isRu; simp only [show listM src = false by simpa using h19]; rw [Bool.false_and, Bool.and_false, Bool.and_false], hg12⟩
      · have hl1 : listM src = true := by simpa using h19
        refine RL.q (.yes rfl rfl rfl) rfl rfl (Yld.fieldAddr fo89_1 rfl) ?_
        refine RL.q (.yes rfl rfl rfl) rfl rfl (Yld.load p51 rfl (at1 (hB2.cell rfl))) ?_
        refine RL.op (.yes rfl rfl rfl) rfl rfl (Does.call rfl e117 (listR_ok M tgt hzt _ _ (ht.mod (Mod.any' hg12)))) ?_
        rintro _ w3 ⟨rfl, hg3⟩
        have hB3 := hB2.mod hg3 (fun h => h)
        have hg13 := hg12.trans hg3
        refine RL.q (.yes rfl rfl rfl) rfl rfl (Yld.pure rfl) ?_
        iterate 2 refine RL.p rfl rfl ?_
        first | refine RL.splitD (d := 26) rfl rfl (fun h25 => ?_) (fun h25 => ?_) | refine RL.splitN (d := 26) rfl rfl (fun h25 => ?_) (fun h25 => ?_) | refine RL.split (d := 26) rfl rfl (fun h25 => ?_) (fun h25 => ?_)
        · iterate 4 refine RL.no (.no rfl rfl rfl rfl) rfl rfl ?_
          iterate 2 refine RL.p rfl rfl ?_
          iterate 4 refine RL.no (.no rfl rfl rfl rfl) rfl rfl ?_
          refine RL.p rfl rfl ?_
          refine RL.done ?_
          refine RK.condT rfl ?_
          refine RK.seq ?_
          refine RK.region ?_
          refine RL.p rfl rfl ?_
          refine RL.done ?_
          refine RK.ret_of Tryz.func61 (res1 rfl rfl) ?_ _
          exact ⟨_, rfl, by unfold isRu; simp only [show listM tgt = false by simpa using h25]; rw [Bool.false_and, Bool.and_false, Bool.and_false, Bool.and_false], hg13⟩
        · have hl2 : listM tgt = true := by simpa using h25
          refine RL.q (.yes rfl rfl rfl) rfl rfl (Yld.fieldAddr fo89_2 rfl) ?_
          refine RL.q (.yes rfl rfl rfl) rfl rfl (Yld.loadN (cs := bdC bd) a86 rfl (atN (fldN hB3 2 3))) ?_
          refine RL.op (.yes rfl rfl rfl) rfl rfl (Does.call rfl e118 (mayR_ok bd _)) ?_
          rintro _ w4 ⟨rfl, hg4⟩
          have hB4 := hB3.mod hg4 (fun h => h)
          have hg14 := hg13.trans hg4
          refine RL.q (.yes rfl rfl rfl) rfl rfl (Yld.pure rfl) ?_
          iterate 2 refine RL.p rfl rfl ?_
          first | refine RL.splitD (d := 32) rfl rfl (fun h31 => ?_) (fun h31 => ?_) | refine RL.splitN (d := 32) rfl rfl (fun h31 => ?_) (fun h31 => ?_) | refine RL.split (d := 32) rfl rfl (fun h31 => ?_) (fun h31 => ?_)
          · iterate 4 refine RL.no (.no rfl rfl rfl rfl) rfl rfl ?_
            refine RL.p rfl rfl ?_
            refine RL.done ?_
            refine RK.condT rfl ?_
            refine RK.seq ?_
            refine RK.region ?_
            refine RL.p rfl rfl ?_
            refine RL.done ?_
            refine RK.ret_of Tryz.func61 (res1 rfl rfl) ?_ _
            exact ⟨_, rfl, by unfold isRu; simp only [show mayB bd = false by simpa using h31]; rw [Bool.false_and, Bool.and_false, Bool.and_false, Bool.and_false, Bool.and_false], hg14⟩
          · have hl3 : mayB bd = true := by simpa using h31
            refine RL.q (.yes rfl rfl rfl) rfl rfl (Yld.fieldAddr fo89_3 rfl) ?_
            refine RL.q (.yes rfl rfl rfl) rfl rfl (Yld.load p87 rfl (at1 (hB4.cell rfl))) ?_
            refine RL.q (.yes rfl rfl rfl) rfl rfl (Yld.lenSl u87 rfl) ?_
            refine RL.q (.yes rfl rfl rfl) rfl rfl (Yld.pure rfl) ?_
            refine RL.p rfl rfl ?_
            refine RL.done ?_
            first | refine RK.condD rfl (fun h37 => ?_) (fun h37 => ?_) | refine RK.condN rfl (fun h37 => ?_) (fun h37 => ?_) | refine RK.cond rfl (fun h37 => ?_) (fun h37 => ?_)
            · refine RK.seq ?_
              refine RK.region ?_
              refine RL.p rfl rfl ?_
              refine RL.done ?_
              refine RK.ret_of Tryz.func61 (res1 rfl rfl) ?_ _
              exact ⟨_, rfl, by unfold isRu; simp only [decide_eq_true h37]; rw [Bool.not_true, Bool.false_and, Bool.and_false, Bool.and_false, Bool.and_false, Bool.and_false, Bool.and_false], hg14⟩
            · have hyes := fun h => isRu_yes (r := ⟨.slice ad1 src.length c1, .slice ad2 tgt.length c2, .slice ad3 eq.length c3, src, tgt, bd, eq⟩) h8 h13 hl1 hl2 hl3 h37 h
              have hno := fun (i : Nat) hi h => isRu_no (r := ⟨.slice ad1 src.length c1, .slice ad2 tgt.length c2, .slice ad3 eq.length c3, src, tgt, bd, eq⟩) (i := i) hi h
              simp only at hyes hno
              refine RK.skip ?_
              iterate 2 refine RK.seq ?_
              refine RK.region ?_
              refine RL.p rfl rfl ?_
              refine RL.done ?_
              refine RK.block ?_
              refine RK.loop (fun k : Nat => [(1, pp b1), (3, .int .i64 (k : Int))]) (fun k w' => Grow w4 w' ∧ k ≤ eq.length ∧ ∀ i, i < k → okE eq i = true) (fun k => eq.length - k) 0 ⟨rfl, rfl, trivial⟩ ⟨Mod.refl _ _, by omega, fun i hi => by omega⟩ (fun k w' hI ih => ?_)
              obtain ⟨hg5, hk, hall⟩ := hI
              have hB5 := hB4.mod hg5 (fun h => h)
              iterate 2 refine RK.seq ?_
              refine RK.region ?_
              refine RL.p rfl rfl ?_
              refine RL.q (.free rfl) rfl rfl (Yld.fieldAddr fo89_3 rfl) ?_
              refine RL.q (.free rfl) rfl rfl (Yld.load p87 rfl (at1 (hB5.cell rfl))) ?_
              refine RL.q (.free rfl) rfl rfl (Yld.lenSl u87 rfl) ?_
              refine RL.p rfl rfl ?_
              refine RL.done ?_
              first | refine RK.condD rfl (fun h42 => ?_) (fun h42 => ?_) | refine RK.condN rfl (fun h42 => ?_) (fun h42 => ?_) | refine RK.cond rfl (fun h42 => ?_) (fun h42 => ?_)
              · obtain ⟨x, hx⟩ : ∃ x, eq[k]? = some x := ⟨eq[k]'(by omega), List.getElem?_eq_getElem (by omega)⟩
                obtain ⟨b2, o2, c', he1, _, _, hc1⟩ := (he.mod (Mod.any' (hg14.trans hg5))).elem1 (k := k) (u := .string x) (by simp [strsV, hx])
                cases he1
                have hgd := (hg14.trans hg5).trans (Mod.drew No w')
                refine RK.skip ?_
                refine RK.seq ?_
                refine RK.block ?_
                refine RK.seq ?_
                refine RK.drawM No [(0, false), (1, false), (2, false), (3, false), (4, false), (5, true), (6, false), (7, false), (8, false), (9, false), (10, false), (11, false), (12, false), (13, false), (14, false), (15, false), (16, false), (17, false), (18, false), (19, false), (20, false), (21, false), (22, false), (23, false), (24, false)] [] mixed (by kernel_rfl) ?_
                refine DL.qf rfl (.free rfl) rfl rfl (Yld.fieldAddr fo89_3 rfl) ?_
                refine DL.q rfl (.free rfl) rfl rfl rfl (Yld.load p87 rfl (atM (hB5.cell rfl) (fun h => h))) (Mod.drew _ _) ?_
                refine DL.p rfl rfl rfl ?_
                refine DL.qf rfl (.free rfl) rfl rfl (Yld.indexAddrN u87 i9 rfl rfl (by omega)) ?_
                refine DL.q rfl (.free rfl) rfl rfl rfl (Yld.load p9 rfl (atM (hc1 k (.string x) (by simp [strsV, hx])) (fun h => h))) (Mod.drew _ _) ?_
                refine DL.op rfl (.free rfl) rfl rfl (Does.call rfl e106 (name2_ok x (hze x (List.mem_of_getElem? hx)) _)) ?_
                rintro _ _ ⟨rfl, rfl⟩
                refine ⟨Mod.drew _ _, ?_⟩
                iterate 2 refine DL.p rfl rfl rfl ?_
                first | refine DL.splitD (d := 52) rfl rfl (fun h51 => ?_) (fun h51 => ?_) | refine DL.splitN (d := 52) rfl rfl (fun h51 => ?_) (fun h51 => ?_) | refine DL.split (d := 52) rfl rfl (fun h51 => ?_) (fun h51 => ?_)
                · iterate 16 refine DL.no rfl (.no rfl rfl rfl rfl) rfl rfl ?_
                  refine DL.p rfl rfl rfl ?_
                  refine DL.done ?_
                  refine RK.condT rfl ?_
                  refine RK.seq ?_
                  refine RK.region ?_
                  refine RL.p rfl rfl ?_
                  refine RL.done ?_
                  refine RK.ret_of Tryz.func61 (res1 rfl rfl) ?_ _
                  exact ⟨_, rfl, by rw [hno k (by omega) (by
                      have hf : nameS x = false := by simpa using h51
                      cases k with
                      | zero => rw [okE_0 hx]; exact hf
                      | succ j => rw [okE_s hx (List.getElem?_eq_getElem (by omega)), hf]; rfl)], hgd⟩
                · have hix : nameS x = true := by simpa using h51
                  iterate 3 refine DL.qf rfl (.yes rfl rfl rfl) rfl rfl (Yld.pure rfl) ?_
                  first | refine DL.splitD (d := 55) rfl rfl (fun h54 => ?_) (fun h54 => ?_) | refine DL.splitN (d := 55) rfl rfl (fun h54 => ?_) (fun h54 => ?_) | refine DL.split (d := 55) rfl rfl (fun h54 => ?_) (fun h54 => ?_)
                  · obtain ⟨j, rfl⟩ : ∃ j, k = j + 1 := ⟨k - 1, by omega⟩
                    obtain ⟨y, hy⟩ : ∃ y, eq[j]? = some y := ⟨eq[j]'(by omega), List.getElem?_eq_getElem (by omega)⟩
                    refine DL.qf rfl (.yes rfl rfl rfl) rfl rfl (Yld.fieldAddr fo89_3 rfl) ?_
                    refine DL.q rfl (.yes rfl rfl rfl) rfl rfl rfl (Yld.load p87 rfl (atM (hB5.cell rfl) (fun h => h))) (Mod.drew _ _) ?_
                    refine DL.qf rfl (.yes rfl rfl rfl) rfl rfl (Yld.pure rfl) ?_
                    refine DL.qf rfl (.yes rfl rfl rfl) rfl rfl (Yld.indexAddrN u87 i9 rfl rfl (by omega)) ?_
                    refine DL.q rfl (.yes rfl rfl rfl) rfl rfl rfl (Yld.load p9 rfl (atM (hc1 (j + 1) (.string x) (by simp [strsV, hx])) (fun h => h))) (Mod.drew _ _) ?_
                    refine DL.qf rfl (.yes rfl rfl rfl) rfl rfl (Yld.fieldAddr fo89_3 rfl) ?_
                    refine DL.q rfl (.yes rfl rfl rfl) rfl rfl rfl (Yld.load p87 rfl (atM (hB5.cell rfl) (fun h => h))) (Mod.drew _ _) ?_
                    iterate 2 refine DL.qf rfl (.yes rfl rfl rfl) rfl rfl (Yld.pure rfl) ?_
                    refine DL.re (d := 64) rfl rfl (sub_i64 (z := (j : Int)) (by omega) (by omega) (by omega)) ?_
                    refine DL.qf rfl (.yes rfl rfl rfl) rfl rfl (Yld.indexAddrN u87 i9 rfl rfl (by omega)) ?_
                    refine DL.q rfl (.yes rfl rfl rfl) rfl rfl rfl (Yld.load p9 rfl (atM (hc1 j (.string y) (by simp [strsV, hy])) (fun h => h))) (Mod.drew _ _) ?_
                    iterate 2 refine DL.qf rfl (.yes rfl rfl rfl) rfl rfl (Yld.pure rfl) ?_
                    refine DL.p rfl rfl rfl ?_
                    refine DL.done ?_
                    first | refine RK.condD rfl (fun h67 => ?_) (fun h67 => ?_) | refine RK.condN rfl (fun h67 => ?_) (fun h67 => ?_) | refine RK.cond rfl (fun h67 => ?_) (fun h67 => ?_)
                    · refine RK.seq ?_
                      refine RK.region ?_
                      refine RL.p rfl rfl ?_
                      refine RL.done ?_
                      refine RK.ret_of Tryz.func61 (res1 rfl rfl) ?_ _
                      exact ⟨_, rfl, by rw [hno (j + 1) (by omega) (by rw [okE_s hx hy, hix, show slt y x = false by rw [sle_not] at h67; simpa using h67]; rfl)], hgd⟩
                    · refine RK.skip ?_
                      refine RK.inBlock ?_
                      refine RK.region ?_
                      iterate 2 refine RL.p rfl rfl ?_
                      refine RL.re (d := 44) rfl rfl (succ_i64 (by omega)) ?_
                      refine RL.p rfl rfl ?_
                      refine RL.done ?_
                      exact RK.back (ih (j + 1 + 1) _ ⟨hg5.trans (Mod.drew _ _), by omega, fun i hi => by by_cases e : i = j + 1; (subst e; rw [okE_s hx hy, hix, show slt y x = true by rw [sle_not] at h67; simpa using h67]; rfl); exact hall i (by omega)⟩ (by omega)) ⟨rfl, rfl, trivial⟩
                  · have hk0 : k = 0 := by omega
                    subst hk0
                    iterate 12 refine DL.no rfl (.no rfl rfl rfl rfl) rfl rfl ?_
                    refine DL.qf rfl (.yes rfl rfl rfl) rfl rfl (Yld.pure rfl) ?_
                    refine DL.p rfl rfl rfl ?_
                    refine DL.done ?_
                    refine RK.condF rfl ?_
                    refine RK.skip ?_
                    refine RK.inBlock ?_
                    refine RK.region ?_
                    iterate 2 refine RL.p rfl rfl ?_
                    refine RL.re (d := 44) rfl rfl (succ_i64 (by omega)) ?_
                    refine RL.p rfl rfl ?_
                    refine RL.done ?_
                    exact RK.back (ih (0 + 1) _ ⟨hg5.trans (Mod.drew _ _), by omega, fun i hi => by by_cases e : i = 0; (subst e; rw [okE_0 hx]; exact hix); omega⟩ (by omega)) ⟨rfl, rfl, trivial⟩
              · refine RK.exit rfl ?_
                refine RK.seq ?_
                refine RK.region ?_
                refine RL.p rfl rfl ?_
                refine RL.done ?_
                refine RK.ret_of Tryz.func61 (res1 rfl rfl) ?_ _
                exact ⟨_, rfl, by rw [hyes (fun i hi => hall i (by omega))], hg14.trans hg5⟩
def largeRu (r : Ru) : Bool := isRu r && (anyL r.src || anyL r.tgt)
theorem largeRu_ok (M : Nat → Prop) (r : Ru) (w : World) (hr : r.Ok M w) : Fx Tryz.prog 219 [.agg (ruC r).toArray] w (fun u w' => u = .bool (largeRu r) ∧ Grow w w') := by
  have hr0 := hr
  obtain ⟨sv, tv, ev, src, tgt, bd, eq⟩ := r
  obtain ⟨hs, ht, he⟩ := hr
  simp only at hs ht he
  obtain ⟨ad1, c1, rfl⟩ := hs.shape
  obtain ⟨ad2, c2, rfl⟩ := ht.shape
  obtain ⟨ad3, c3, rfl⟩ := he.shape
  have hbig := he.big
  refine enter Tryz.func219 rfl rfl rfl _ (Pick.sub (l := [0]) (.cons rfl .nil)) ?_
  refine RK.seq ?_
  refine RK.region ?_
  refine RL.op (.free rfl) rfl rfl (Does.box rfl) ?_
  rintro _ w1 ⟨b1, rfl, hn1⟩
  have hB1 : Blk w1 b1 89 (ruC ⟨.slice ad1 src.length c1, .slice ad2 tgt.length c2, .slice ad3 eq.length c3, src, tgt, bd, eq⟩) := hn1.blk
  refine RL.p rfl rfl ?_
  refine RL.done ?_
  refine RK.seq ?_
  refine RK.region ?_
  refine RL.q (.free rfl) rfl rfl (Yld.loadN (cs := ruC ⟨.slice ad1 src.length c1, .slice ad2 tgt.length c2, .slice ad3 eq.length c3, src, tgt, bd, eq⟩) a89 rfl (atN (blk0' hB1))) ?_
  refine RL.op (.free rfl) rfl rfl (Does.call rfl e218 (isRule_ok M _ _ (hr0.mod (Mod.any' hn1.grow)))) ?_
  rintro _ w2 ⟨rfl, hg2⟩
  have hg12 := hn1.grow.trans hg2
  have hB2 := hB1.mod hg2 (fun h => h)
  refine RL.p rfl rfl ?_
  first | refine RL.splitD (d := 5) rfl rfl (fun h4 => ?_) (fun h4 => ?_) | refine RL.splitN (d := 5) rfl rfl (fun h4 => ?_) (fun h4 => ?_) | refine RL.split (d := 5) rfl rfl (fun h4 => ?_) (fun h4 => ?_)
  · refine RL.q (.yes rfl rfl rfl) rfl rfl (Yld.fieldAddr fo89_0 rfl) ?_
    refine RL.q (.yes rfl rfl rfl) rfl rfl (Yld.load p51 rfl (at1 (hB2.cell rfl))) ?_
    refine RL.op (.yes rfl rfl rfl) rfl rfl (Does.call rfl e245 (matchAnyL_ok M src _ _ (hs.mod (Mod.any' hg12)))) ?_
    rintro _ w3 ⟨rfl, hg3⟩
    have hg13 := hg12.trans hg3
    have hB3 := hB2.mod hg3 (fun h => h)
    refine RL.q (.yes rfl rfl rfl) rfl rfl (Yld.pure rfl) ?_
    first | refine RL.splitD (d := 9) rfl rfl (fun h8 => ?_) (fun h8 => ?_) | refine RL.splitN (d := 9) rfl rfl (fun h8 => ?_) (fun h8 => ?_) | refine RL.split (d := 9) rfl rfl (fun h8 => ?_) (fun h8 => ?_)
    · iterate 3 refine RL.no (.no rfl rfl rfl rfl) rfl rfl ?_
      refine RL.q (.yes rfl rfl rfl) rfl rfl (Yld.pure rfl) ?_
      iterate 2 refine RL.p rfl rfl ?_
      refine RL.done ?_
      refine RK.ret_of Tryz.func219 (res1 rfl rfl) ?_ _
      exact ⟨_, rfl, by unfold largeRu; rw [h4]; simp only; rw [h8]; rfl, hg13⟩
    · refine RL.q (.yes rfl rfl rfl) rfl rfl (Yld.fieldAddr fo89_1 rfl) ?_
      refine RL.q (.yes rfl rfl rfl) rfl rfl (Yld.load p51 rfl (at1 (hB3.cell rfl))) ?_
      refine RL.op (.yes rfl rfl rfl) rfl rfl (Does.call rfl e245 (matchAnyL_ok M tgt _ _ (ht.mod (Mod.any' hg13)))) ?_
      rintro _ w4 ⟨rfl, hg4⟩
      refine RL.q (.yes rfl rfl rfl) rfl rfl (Yld.pure rfl) ?_
      iterate 2 refine RL.p rfl rfl ?_
      refine RL.done ?_
      refine RK.ret_of Tryz.func219 (res1 rfl rfl) ?_ _
      exact ⟨_, rfl, by unfold largeRu; rw [h4]; simp only; rw [show anyL src = false by simpa using h8]; rfl, hg13.trans hg4⟩
  · iterate 8 refine RL.no (.no rfl rfl rfl rfl) rfl rfl ?_
    iterate 2 refine RL.p rfl rfl ?_
    refine RL.done ?_
    refine RK.ret_of Tryz.func219 (res1 rfl rfl) ?_ _
    exact ⟨_, rfl, by unfold largeRu; rw [show isRu _ = false by simpa using h4]; rfl, hg12⟩
theorem largeRuR_ok (M : Nat → Prop) (r : Ru) (w : World) (hr : r.Ok M w) (hz : r.Sz) : Fx Tryz.prog 181 [.agg (ruC r).toArray] w (fun u w' => u = .bool (largeRu r) ∧ Grow w w') := by
  have hr0 := hr
  have hz0 := hz
  obtain ⟨sv, tv, ev, src, tgt, bd, eq⟩ := r
  obtain ⟨hs, ht, he⟩ := hr
  simp only at hs ht he
  obtain ⟨ad1, c1, rfl⟩ := hs.shape
  obtain ⟨ad2, c2, rfl⟩ := ht.shape
  obtain ⟨ad3, c3, rfl⟩ := he.shape
  have hbig := he.big
  obtain ⟨hzs, hzt, hze⟩ := hz
  simp only at hzs hzt hze
  refine enter Tryz.func181 rfl rfl rfl _ (Pick.sub (l := [0]) (.cons rfl .nil)) ?_
  refine RK.seq ?_
  refine RK.region ?_
  refine RL.op (.free rfl) rfl rfl (Does.box rfl) ?_
  rintro _ w1 ⟨b1, rfl, hn1⟩
  have hB1 : Blk w1 b1 89 (ruC ⟨.slice ad1 src.length c1, .slice ad2 tgt.length c2, .slice ad3 eq.length c3, src, tgt, bd, eq⟩) := hn1.blk
  refine RL.p rfl rfl ?_
  refine RL.done ?_
  refine RK.seq ?_
  refine RK.region ?_
  refine RL.q (.free rfl) rfl rfl (Yld.loadN (cs := ruC ⟨.slice ad1 src.length c1, .slice ad2 tgt.length c2, .slice ad3 eq.length c3, src, tgt, bd, eq⟩) a89 rfl (atN (blk0' hB1))) ?_
  refine RL.op (.free rfl) rfl rfl (Does.call rfl e61 (isRuleR_ok M _ _ (hr0.mod (Mod.any' hn1.grow)) hz0)) ?_
  rintro _ w2 ⟨rfl, hg2⟩
  have hg12 := hn1.grow.trans hg2
  have hB2 := hB1.mod hg2 (fun h => h)
  refine RL.p rfl rfl ?_
  first | refine RL.splitD (d := 5) rfl rfl (fun h4 => ?_) (fun h4 => ?_) | refine RL.splitN (d := 5) rfl rfl (fun h4 => ?_) (fun h4 => ?_) | refine RL.split (d := 5) rfl rfl (fun h4 => ?_) (fun h4 => ?_)
  · refine RL.q (.yes rfl rfl rfl) rfl rfl (Yld.fieldAddr fo89_0 rfl) ?_
    refine RL.q (.yes rfl rfl rfl) rfl rfl (Yld.load p51 rfl (at1 (hB2.cell rfl))) ?_
    refine RL.op (.yes rfl rfl rfl) rfl rfl (Does.call rfl e221 (anyLR_ok M src hzs _ _ (hs.mod (Mod.any' hg12)))) ?_
    rintro _ w3 ⟨rfl, hg3⟩
    have hg13 := hg12.trans hg3
    have hB3 := hB2.mod hg3 (fun h => h)
    refine RL.q (.yes rfl rfl rfl) rfl rfl (Yld.pure rfl) ?_
    first | refine RL.splitD (d := 9) rfl rfl (fun h8 => ?_) (fun h8 => ?_) | refine RL.splitN (d := 9) rfl rfl (fun h8 => ?_) (fun h8 => ?_) | refine RL.split (d := 9) rfl rfl (fun h8 => ?_) (fun h8 => ?_)
    · iterate 3 refine RL.no (.no rfl rfl rfl rfl) rfl rfl ?_
      refine RL.q (.yes rfl rfl rfl) rfl rfl (Yld.pure rfl) ?_
      iterate 2 refine RL.p rfl rfl ?_
      refine RL.done ?_
      refine RK.ret_of Tryz.func181 (res1 rfl rfl) ?_ _
      exact ⟨_, rfl, by unfold largeRu; rw [h4]; simp only; rw [h8]; rfl, hg13⟩
    · refine RL.q (.yes rfl rfl rfl) rfl rfl (Yld.fieldAddr fo89_1 rfl) ?_
      refine RL.q (.yes rfl rfl rfl) rfl rfl (Yld.load p51 rfl (at1 (hB3.cell rfl))) ?_
      refine RL.op (.yes rfl rfl rfl) rfl rfl (Does.call rfl e221 (anyLR_ok M tgt hzt _ _ (ht.mod (Mod.any' hg13)))) ?_
      rintro _ w4 ⟨rfl, hg4⟩
      refine RL.q (.yes rfl rfl rfl) rfl rfl (Yld.pure rfl) ?_
      iterate 2 refine RL.p rfl rfl ?_
      refine RL.done ?_
      refine RK.ret_of Tryz.func181 (res1 rfl rfl) ?_ _
      exact ⟨_, rfl, by unfold largeRu; rw [h4]; simp only; rw [show anyL src = false by simpa using h8]; rfl, hg13.trans hg4⟩
  · iterate 8 refine RL.no (.no rfl rfl rfl rfl) rfl rfl ?_
    iterate 2 refine RL.p rfl rfl ?_
    refine RL.done ?_
    refine RK.ret_of Tryz.func181 (res1 rfl rfl) ?_ _
    exact ⟨_, rfl, by unfold largeRu; rw [show isRu _ = false by simpa using h4]; rfl, hg12⟩
def worksRu (r : Ru) : Bool := isRu r && !largeRu r
theorem works_ok (M : Nat → Prop) (r : Ru) (w : World) (hr : r.Ok M w) : Fx Tryz.prog 179 [.agg (ruC r).toArray] w (fun u w' => u = .bool (worksRu r) ∧ Grow w w') := by
  refine enter Tryz.func179 rfl rfl rfl _ (Pick.sub (l := [0]) (.cons rfl .nil)) ?_
  refine RK.seq ?_
  refine RK.region ?_
  refine RL.op (.free rfl) rfl rfl (Does.box rfl) ?_
  rintro _ w1 ⟨b1, rfl, hn1⟩
  refine RL.p rfl rfl ?_
  refine RL.done ?_
  refine RK.seq ?_
  refine RK.region ?_
  refine RL.q (.free rfl) rfl rfl (Yld.loadN (cs := ruC r) a89 rfl (atN (blk0' hn1.blk))) ?_
  refine RL.op (.free rfl) rfl rfl (Does.call rfl e218 (isRule_ok M r _ (hr.mod (Mod.any' hn1.grow)))) ?_
  rintro _ w2 ⟨rfl, hg2⟩
  have hg12 := hn1.grow.trans hg2
  refine RL.p rfl rfl ?_
  first | refine RL.splitD (d := 5) rfl rfl (fun h4 => ?_) (fun h4 => ?_) | refine RL.splitN (d := 5) rfl rfl (fun h4 => ?_) (fun h4 => ?_) | refine RL.split (d := 5) rfl rfl (fun h4 => ?_) (fun h4 => ?_)
  · refine RL.q (.yes rfl rfl rfl) rfl rfl (Yld.loadN (cs := ruC r) a89 rfl (atN (blk0' (hn1.blk.mod hg2 (fun h => h))))) ?_
    refine RL.op (.yes rfl rfl rfl) rfl rfl (Does.call rfl e219 (largeRu_ok M r _ (hr.mod (Mod.any' hg12)))) ?_
    rintro _ w3 ⟨rfl, hg3⟩
    refine RL.q (.yes rfl rfl rfl) rfl rfl (Yld.pure rfl) ?_
    iterate 2 refine RL.p rfl rfl ?_
    refine RL.done ?_
    refine RK.ret_of Tryz.func179 (res1 rfl rfl) ?_ _
    exact ⟨_, rfl, by unfold worksRu; rw [h4]; rfl, hg12.trans hg3⟩
  · iterate 3 refine RL.no (.no rfl rfl rfl rfl) rfl rfl ?_
    iterate 2 refine RL.p rfl rfl ?_
    refine RL.done ?_
    refine RK.ret_of Tryz.func179 (res1 rfl rfl) ?_ _
    exact ⟨_, rfl, by unfold worksRu; rw [show isRu _ = false by simpa using h4]; rfl, hg12⟩
end Go.Proofs.YtffbcfcoddacmaaGreat
set_option linter.unusedVariables false
set_option linter.unusedSimpArgs false
namespace Go.X
open Go Go.RowKit
def bytesV (l : List UInt8) : List Value := l.map fun b => Value.int .u8 (b.toNat : Int)
theorem bytesV_len (l : List UInt8) : (bytesV l).length = l.length := by simp [bytesV]
theorem bytesV_app (a b : List UInt8) : bytesV (a ++ b) = bytesV a ++ bytesV b := by simp [bytesV]
theorem bytesV_str (s : ByteArray) : Go.Lib.strCells s = bytesV s.data.toList := rfl
theorem bytesV_one (l : List UInt8) : (bytesV l).all (·.oneCell') = true := by
  rw [List.all_eq_true]
  intro u hu
  obtain ⟨b, _, rfl⟩ := List.mem_map.1 hu
  rfl
section
variable {P : Program} {n : Nat} {e : Env} {w : World} {C : World → Prop}
theorem Does.appendStr {d : Option Tmp} {t u el : Nat} {s x : Operand} {ty : TypeId} {pos : String} {af : Array Edge} {g : Option (Nat × Bool)} (ht : SlT P t el) (hu : P.underlying u = some .string) (hT : TI P el (.int .u8 0) 1 1)
    {v : Value} {k base : Nat} {xs : List Value} {str : ByteArray} (hs : ev e s = some v) (hx : ev e x = some (.string str)) (hown : Row w el 1 v k xs) (hf : ∀ b, v.ownBlock = some b → base ≤ b) (hbase : base ≤ w.heap.size) (hb : k + str.size ≤ 140737488355328) :
    Does P n e w ⟨d, .call { callee := .builtin .append, args := #[s, x], argTypes := #[t, u] }, ty, pos, af, g⟩
      (fun v' w' => Row w' el 1 v' (k + str.size) (xs ++ bytesV str.data.toList) ∧ (∀ b, v'.ownBlock = some b → base ≤ b) ∧ Mod (fun b => v.ownBlock = some b) w w') := by
  obtain ⟨i, hi, hz, hs1, hby⟩ := hT.out
  have hown2 : w.ownsRow base el 1 v k xs := by
    refine ⟨hown.1, ?_⟩
    rcases hown.2 with h | ⟨g, cap, cur, rfl, _, r⟩
    · exact .inl h
    · exact .inr ⟨g, cap, cur, rfl, hf g rfl, r⟩
  obtain ⟨v', w', hr, ho, hg, _⟩ := Go.Lib.run_append_own_string (P := P) w base t u ty el i ht hu hi hz hs1 hby v k xs hown2 str (by simp only [maxLen]; omega) hb hbase
  rw [bytesV_str] at ho
  refine Does.of_run (v := v') (w' := w') (fun a ha => ?_) ⟨⟨ho.1, ?_⟩, fun b hb' => ?_, Mod.grownBy hg (fun k h => h)⟩
  · simp [execOp, resolve, invoke, builtin, ha.ev hs, ha.ev hx, hr]
  · rcases ho.2 with h | ⟨g, cap, cur, rfl, _, r⟩
    · exact .inl h
    · exact .inr ⟨g, cap, cur, rfl, Nat.zero_le _, r⟩
  · exact (World.ownsRow.lt ho b hb').1
theorem mkS_data (xs : List Int) : (mkS xs).data.toList = xs.map fun n => UInt8.ofNat n.toNat := by
  unfold mkS
  have key : ∀ (xs : List Int) (s : ByteArray), (xs.foldl (fun r n => r.push (UInt8.ofNat n.toNat)) s).data.toList = s.data.toList ++ xs.map fun n => UInt8.ofNat n.toNat := by
    intro xs
    induction xs with
    | nil => intro s; simp
    | cons x xs ih => intro s; rw [List.foldl_cons, ih]; simp [ByteArray.push]
  rw [key]
  rfl
theorem mkS_bytes (l : List UInt8) : mkS (l.map fun b => (b.toNat : Int)) = ⟨l.toArray⟩ := by
  apply ByteArray.ext
  apply Array.toList_inj.1
  rw [mkS_data, List.map_map]
  show _ = l
  conv => rhs; rw [← List.map_id l]
  apply List.map_congr_left
  intro x _
  simp
theorem Yld.bytesSl {d : Option Tmp} {src dst el : Nat} {x : Operand} {ty : TypeId} {pos : String} {af : Array Edge} {g : Option (Nat × Bool)} (hs : SlT P src el) (he : P.underlying el = some (.int .u8)) (hd : P.underlying dst = some .string) {v : Value} {l : List UInt8} (hx : ev e x = some v) (hv : ∀ w, C w → Sl No w v 1 l.length (bytesV l)) :
    Yld P n C e ⟨d, .convert src dst x, ty, pos, af, g⟩ (.string ⟨l.toArray⟩) := by
  intro ac ha w hw
  obtain ⟨ad, c, rfl, hf⟩ := (hv w hw).form
  have hm : bytesV l = (l.map fun b => (b.toNat : Int)).map (Value.int .u8) := by simp [bytesV]
  cases ad with
  | some a =>
    by_cases hn : 0 < l.length
    · obtain ⟨b, o, ha2, _, hc⟩ := hf hn
      cases ha2
      have h1 := run_loadCells_list (P := P) w ⟨b, o, none⟩ (bytesV l) (fun j v hj => by rw [add_none]; exact hc j v hj)
      have h2 := run_bytesToString (P := P) w ⟨b, o, none⟩ l.length c (l.map fun b => (b.toNat : Int)) (by rw [bytesV_len, hm] at h1; exact h1)
      simp only [execOp, ha.ev hx, Sem.run_bind, run_convert_bytes_string w src dst el _ _ c hs he hd, h2, Result.andThen_ok, Sem.run_pure]
      rw [show (l.map fun b => (b.toNat : Int)).foldl (fun r n => r.push (UInt8.ofNat n.toNat)) ByteArray.empty = mkS (l.map fun b => (b.toNat : Int)) from rfl, mkS_bytes]
    · have hl : l = [] := List.length_eq_zero_iff.1 (by omega)
      subst hl
      have h2 := run_bytesToString (P := P) w a 0 c [] (by simp [loadCells, loadCellsFrom])
      simp only [execOp, ha.ev hx, Sem.run_bind, List.length_nil, run_convert_bytes_string w src dst el _ _ c hs he hd, h2, Result.andThen_ok, Sem.run_pure]
      rfl
  | none =>
    have hl : l = [] := by
      by_cases hn : 0 < l.length
      · obtain ⟨b, o, ha2, _⟩ := hf hn
        cases ha2
      · exact List.length_eq_zero_iff.1 (by omega)
    subst hl
    have h2 := run_convert_bytes_nil (P := P) (w := w) src el hs he 0 c dst hd
    simp only [execOp, ha.ev hx, Sem.run_bind, List.length_nil, h2, Result.andThen_ok, Sem.run_pure]
    rfl
end
end Go.X
