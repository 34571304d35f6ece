import Derived.Test.YtffbcfcoddacmaaGreatGrD
import Derived.Test.YtffbcfcoddacmaaGreatXB
/- Rows of numbers: those that are kept; one cut out. -/
set_option linter.unusedVariables false
set_option linter.unusedSimpArgs false
set_option maxHeartbeats 400000
set_option maxRecDepth 100000
namespace Go.Proofs.YtffbcfcoddacmaaGreat
open Go Go.X

/-- A function value that tells of numbers whether they are so. -/
def PredI (w : World) (fv : Value) (p : Int → Bool) : Prop := ∃ g cap, fv = .func (.func g) #[] cap ∧ Go.Proofs.Enters Tryz.prog g ∧ ∀ (n : Int) w', Grow w w' → Fx Tryz.prog g ([.int .i64 n] ++ cap.toList) w' (fun u w'' => u = .bool (p n) ∧ Grow w' w'')
theorem PredI.grow {w w' : World} {fv : Value} {p : Int → Bool} (h : PredI w fv p) (hg : Grow w w') : PredI w' fv p := by
  obtain ⟨g, cap, h1, h2, h3⟩ := h
  exact ⟨g, cap, h1, h2, fun n w'' h => h3 n w'' (hg.trans h)⟩
def ixF (p : Int → Bool) (xs : List Int) : Int := optI (xs.findIdx? p)
theorem indexFuncI_ok (M : Nat → Prop) (xs : List Int) (v fv : Value) (p : Int → Bool) (w : World) (hv : Sl M w v 1 xs.length (ints xs)) (hp : PredI w fv p) :
    Fx Tryz.prog 130 [v, fv] w (fun u w' => u = .int .i64 (ixF p xs) ∧ Grow w w') := by
  obtain ⟨ad, c, rfl⟩ := hv.shape
  obtain ⟨g, cap, rfl, hE, hp⟩ := hp
  have hbig := hv.big
  refine enter Tryz.func130 rfl rfl rfl _ (Pick.sub (l := [0, 1]) (.cons rfl (.cons rfl .nil))) ?_
  refine RK.seq ?_
  refine RK.region ?_
  refine RL.p rfl rfl ?_
  refine RL.done ?_
  iterate 2 refine RK.seq ?_
  refine RK.region ?_
  refine RL.p rfl rfl ?_
  refine RL.q (.free rfl) rfl rfl (Yld.lenSl u22 rfl) ?_
  refine RL.p rfl rfl ?_
  refine RL.done ?_
  refine RK.block ?_
  refine RK.loop (fun k : Nat => [(0, .slice ad xs.length c), (1, .func (.func g) #[] cap), (7, .int .i64 xs.length), (8, .int .i64 k)]) (fun k w' => Grow w w' ∧ k ≤ xs.length ∧ ∀ i a, i < k → xs[i]? = some a → p a = false) (fun k => xs.length - k) 0 ⟨rfl, rfl, rfl, rfl, trivial⟩ ⟨Mod.refl _ _, by omega, fun i a h => by omega⟩ (fun k w' hI ih => ?_)
  obtain ⟨hg, hk, hno⟩ := hI
  refine RK.seq ?_
  refine RK.region ?_
  refine RL.p rfl rfl ?_
  refine RL.done ?_
  refine RK.seq ?_
  first | refine RK.condD rfl (fun h9 => ?_) (fun h9 => ?_) | refine RK.condN rfl (fun h9 => ?_) (fun h9 => ?_) | refine RK.cond rfl (fun h9 => ?_) (fun h9 => ?_)
  · obtain ⟨x, hx⟩ : ∃ x, xs[k]? = some x := ⟨xs[k]'(by omega), List.getElem?_eq_getElem (by omega)⟩
    obtain ⟨b1, o1, c1', he1, _, _, hc1⟩ := hv.elem1 (k := k) (u := .int .i64 x) (by simp [hx])
    cases he1
    refine RK.skip ?_
    refine RK.seq ?_
    refine RK.block ?_
    refine RK.seq ?_
    refine RK.region ?_
    iterate 2 refine RL.p rfl rfl ?_
    refine RL.done ?_
    refine RK.seq ?_
    refine RK.region ?_
    iterate 3 refine RL.p rfl rfl ?_
    refine RL.q (.free rfl) rfl rfl (Yld.indexAddrN u22 i3 rfl rfl (by omega)) ?_
    refine RL.q (.free rfl) rfl rfl (Yld.load p3 rfl (at1 (hg.cell (hc1 k (.int .i64 x) (by simp [hx])) (fun h => h)))) ?_
    refine RL.op (.free rfl) rfl rfl (Does.callv rfl rfl (by assumption) (hp x _ hg)) ?_
    rintro _ w2 ⟨rfl, hg2⟩
    refine RL.done ?_
    first | refine RK.condD rfl (fun h16 => ?_) (fun h16 => ?_) | refine RK.condN rfl (fun h16 => ?_) (fun h16 => ?_) | refine RK.cond rfl (fun h16 => ?_) (fun h16 => ?_)
    · refine RK.seq ?_
      refine RK.region ?_
      iterate 2 refine RL.p rfl rfl ?_
      refine RL.done ?_
      refine RK.ret_of Tryz.func130 (res1 rfl rfl) ?_ _
      exact ⟨_, rfl, congrArg _ (by
          have : xs.findIdx? p = some k := by
            rw [List.findIdx?_eq_some_iff_getElem]
            refine ⟨by omega, ?_, ?_⟩
            · rw [(List.getElem?_eq_some_iff.1 hx).2]; exact h16
            · intro j hj
              simpa using hno j (xs[j]'(by omega)) hj (List.getElem?_eq_getElem (by omega))
          unfold ixF; rw [this]; rfl), hg.trans hg2⟩
    · refine RK.skip ?_
      refine RK.inBlock ?_
      refine RK.region ?_
      refine RL.p rfl rfl ?_
      refine RL.re (d := 18) rfl rfl (succ_i64 (by omega)) ?_
      refine RL.p rfl rfl ?_
      refine RL.done ?_
      exact RK.back (ih (k + 1) _ ⟨hg.trans hg2, by omega, fun i a' hi ha' => by by_cases e : i = k; (subst e; rw [hx] at ha'; cases ha'; exact h16); exact hno i a' (by omega) ha'⟩ (by omega)) ⟨rfl, rfl, rfl, rfl, trivial⟩
  · refine RK.exit rfl ?_
    refine RK.seq ?_
    refine RK.region ?_
    refine RL.p rfl rfl ?_
    refine RL.done ?_
    refine RK.ret_of Tryz.func130 (res1 rfl rfl) ?_ _
    exact ⟨_, rfl, congrArg _ (by
        have : xs.findIdx? p = none := by
          rw [List.findIdx?_eq_none_iff]
          intro x hx
          obtain ⟨i, hi⟩ := List.getElem?_of_mem hx
          have hil := (List.getElem?_eq_some_iff.1 hi).1
          exact hno i x (by omega) hi
        unfold ixF; rw [this]; rfl), hg⟩
/-- Those that are not so. -/
def keepI (p : Int → Bool) (xs : List Int) : List Int := xs.filter fun x => !p x
theorem keep_snoc (p : Int → Bool) {xs : List Int} {k : Nat} {x : Int} (hx : xs[k]? = some x) : keepI p (xs.take (k + 1)) = keepI p (xs.take k) ++ (if p x then [] else [x]) := by
  have hk := (List.getElem?_eq_some_iff.1 hx).1
  unfold keepI
  rw [List.take_succ_eq_append_getElem hk, (List.getElem?_eq_some_iff.1 hx).2, List.filter_append]
  cases h : p x <;> simp [h]
theorem keep_le (p : Int → Bool) (xs : List Int) : (keepI p xs).length ≤ xs.length := List.length_filter_le _ _
theorem set_snoc {cs : List Value} {i : Nat} {ys : List Int} {x : Int} (h : cs.take i = ints ys) (hi : i < cs.length) : (cs.set i (.int .i64 x)).take (i + 1) = ints (ys ++ [x]) := by
  have e : (cs.set i (.int .i64 x)).length = cs.length := List.length_set
  rw [List.take_succ_eq_append_getElem (by omega), List.getElem_set_self]
  have : (cs.set i (Value.int .i64 x)).take i = cs.take i := by
    apply List.ext_getElem?
    intro j
    simp only [List.getElem?_take]
    split
    · rw [List.getElem?_set_ne (by omega)]
    · rfl
  rw [this, h]
  simp [ints]
theorem deleteFuncI_ok (w0 : World) (xs : List Int) (v fv : Value) (p : Int → Bool) (w : World) (hv : Row w 3 1 v xs.length (ints xs)) (hf : Fresh w0.heap.size v) (hg0 : Grow w0 w) (hp : PredI w0 fv p) :
    Fx Tryz.prog 88 [v, fv] w (fun u w' => Row w' 3 1 u (keepI p xs).length (ints (keepI p xs)) ∧ u.ownBlock = v.ownBlock ∧ Mod (fun b => v.ownBlock = some b) w w') := by
  have hcall := indexFuncI_ok No xs v fv p w (Sl.own hv (fun _ _ h => h)) (hp.grow hg0)
  obtain ⟨g, cap, rfl, hE, hp⟩ := hp
  have hbig : xs.length ≤ 9223372036854775807 := (Sl.own (M := No) hv (fun _ _ h => h)).big
  by_cases hn : xs.findIdx? p = none
  · have hix : ixF p xs = -1 := by unfold ixF; rw [hn]; rfl
    rw [hix] at hcall
    have hkeep : keepI p xs = xs := List.filter_eq_self.2 fun x hx => by simp [List.findIdx?_eq_none_iff.1 hn x hx]
    refine enter Tryz.func88 rfl rfl rfl _ (Pick.sub (l := [0, 1]) (.cons rfl (.cons rfl .nil))) ?_
    refine RK.seq ?_
    refine RK.region ?_
    refine RL.p rfl rfl ?_
    refine RL.done ?_
    refine RK.seq ?_
    refine RK.region ?_
    iterate 2 refine RL.p rfl rfl ?_
    refine RL.op (.free rfl) rfl rfl (Does.call rfl e130 (hcall)) ?_
    rintro _ w2 ⟨rfl, hg2⟩
    refine RL.p rfl rfl ?_
    refine RL.done ?_
    iterate 2 refine RK.seq ?_
    refine RK.region ?_
    iterate 2 refine RL.p rfl rfl ?_
    refine RL.done ?_
    refine RK.condT (hcT rfl (decide_eq_true rfl)) ?_
    refine RK.seq ?_
    refine RK.region ?_
    iterate 2 refine RL.p rfl rfl ?_
    refine RL.done ?_
    refine RK.ret_of Tryz.func88 (res1 rfl rfl) ?_ _
    exact ⟨_, rfl, by rw [hkeep]; exact hv.mod hg2 (fun _ _ h => h), rfl, Mod.any' hg2⟩
  · obtain ⟨i0, hi0⟩ : ∃ i, xs.findIdx? p = some i := by cases h : xs.findIdx? p with | none => exact absurd h hn | some i => exact ⟨i, rfl⟩
    have hix : ixF p xs = (i0 : Int) := by unfold ixF; rw [hi0]; rfl
    rw [hix] at hcall
    obtain ⟨hi0l, hpi0, hlt0⟩ := List.findIdx?_eq_some_iff_getElem.1 hi0
    have hx0 : xs[i0]? = some xs[i0] := List.getElem?_eq_getElem hi0l
    have hk0 : keepI p (xs.take i0) = xs.take i0 := List.filter_eq_self.2 fun x hx => by
      obtain ⟨j, hj, rfl⟩ := List.getElem_of_mem hx
      simp at hj
      rw [List.getElem_take]
      simpa using hlt0 j (by omega)
    have hk1 : keepI p (xs.take (i0 + 1)) = xs.take i0 := by rw [keep_snoc p hx0, hk0]; simp [hpi0]
    obtain ⟨gb, cp, cs, rfl, hb, hl, hkc, hcm, htk⟩ := hv.whole (by omega)
    rw [Nat.mul_one] at hl htk
    have hgb : w0.heap.size ≤ gb := hf gb rfl
    refine enter Tryz.func88 rfl rfl rfl _ (Pick.sub (l := [0, 1]) (.cons rfl (.cons rfl .nil))) ?_
    refine RK.seq ?_
    refine RK.region ?_
    refine RL.p rfl rfl ?_
    refine RL.done ?_
    refine RK.seq ?_
    refine RK.region ?_
    iterate 2 refine RL.p rfl rfl ?_
    refine RL.op (.free rfl) rfl rfl (Does.call rfl e130 (hcall)) ?_
    rintro _ w2 ⟨rfl, hg2⟩
    refine RL.p rfl rfl ?_
    refine RL.done ?_
    iterate 2 refine RK.seq ?_
    refine RK.region ?_
    iterate 2 refine RL.p rfl rfl ?_
    refine RL.done ?_
    refine RK.condF (hcF rfl (decide_eq_false (by omega))) ?_
    refine RK.skip ?_
    iterate 2 refine RK.seq ?_
    refine RK.region ?_
    iterate 2 refine RL.p rfl rfl ?_
    refine RL.re (d := 15) rfl rfl (add_i64 (z := ((i0 + 1 : Nat) : Int)) (by simp) (by omega) (by omega)) ?_
    refine RL.p rfl rfl ?_
    refine RL.done ?_
    refine RK.block ?_
    refine RK.loop (fun s : Nat × Nat => [(0, .slice (some ⟨gb, 0, none⟩) xs.length cp), (1, .func (.func g) #[] cap), (5, .int .i64 (s.1 : Int)), (6, .int .i64 (s.2 : Int))]) (fun s w' => Mod (· = gb) w w' ∧ s.1 < s.2 ∧ s.2 ≤ xs.length ∧ s.1 = (keepI p (xs.take s.2)).length ∧ ∃ cs', Blk w' gb 3 cs' ∧ cs'.length = cp ∧ cs'.take s.1 = ints (keepI p (xs.take s.2)) ∧ ∀ t x, s.2 ≤ t → xs[t]? = some x → cs'[t]? = some (.int .i64 x)) (fun s => xs.length - s.2) (i0, i0 + 1) ⟨rfl, rfl, rfl, rfl, trivial⟩ ⟨Mod.any' hg2, by omega, by simp only; omega, by rw [hk1]; simp; omega, cs, hb.mod hg2 (fun h => h), hl, by rw [hk1]; simp only; have := congrArg (List.take i0) htk; rw [List.take_take, Nat.min_eq_left (by omega)] at this; rw [this]; simp [ints, List.map_take], fun t x ht hx => by have hxl := (List.getElem?_eq_some_iff.1 hx).1; have := congrArg (fun l => l[t]?) htk; simp only [List.getElem?_take, if_pos hxl] at this; rw [this]; simp [hx]⟩ (fun s w' hI ih => ?_)
    obtain ⟨i, j⟩ := s
    obtain ⟨hm, hij, hj, hic, cs1, hb1, hl1, ht1, hr1⟩ := hI
    simp only at hm hij hj hic ht1 hr1
    iterate 2 refine RK.seq ?_
    refine RK.region ?_
    iterate 2 refine RL.p rfl rfl ?_
    refine RL.q (.free rfl) rfl rfl (Yld.lenSl u22 rfl) ?_
    refine RL.p rfl rfl ?_
    refine RL.done ?_
    first | refine RK.condD rfl (fun h19 => ?_) (fun h19 => ?_) | refine RK.condN rfl (fun h19 => ?_) (fun h19 => ?_) | refine RK.cond rfl (fun h19 => ?_) (fun h19 => ?_)
    · obtain ⟨x, hx⟩ : ∃ x, xs[j]? = some x := ⟨xs[j]'(by omega), List.getElem?_eq_getElem (by omega)⟩
      have hks := keep_snoc p hx
      refine RK.skip ?_
      refine RK.seq ?_
      refine RK.block ?_
      refine RK.seq ?_
      refine RK.region ?_
      iterate 2 refine RL.p rfl rfl ?_
      refine RL.q (.free rfl) rfl rfl (Yld.indexAddrN u22 i3 rfl rfl (by omega)) ?_
      refine RL.q (.free rfl) rfl rfl (Yld.load p3 rfl (at1 (hb1.at1 (hr1 j x (Nat.le_refl _) hx)))) ?_
      refine RL.p rfl rfl ?_
      refine RL.done ?_
      refine RK.seq ?_
      refine RK.region ?_
      iterate 2 refine RL.p rfl rfl ?_
      refine RL.op (.free rfl) rfl rfl (Does.callv rfl rfl (by assumption) (hp x _ (hg0.then hm (fun b hb e => by have e' : b = gb := e; omega)))) ?_
      rintro _ w3 ⟨rfl, hg3⟩
      have hm3 : Mod (· = gb) w w3 := hm.trans (Mod.any' hg3)
      have hb3 := hb1.mod hg3 (fun h => h)
      refine RL.p rfl rfl ?_
      refine RL.done ?_
      first | refine RK.condD rfl (fun h29 => ?_) (fun h29 => ?_) | refine RK.condN rfl (fun h29 => ?_) (fun h29 => ?_) | refine RK.cond rfl (fun h29 => ?_) (fun h29 => ?_)
      · have hpx : p x = false := by simpa using h29
        refine RK.seq ?_
        refine RK.region ?_
        iterate 3 refine RL.p rfl rfl ?_
        refine RL.q (.free rfl) rfl rfl (Yld.indexAddrN u22 i3 rfl rfl (by omega)) ?_
        refine RL.op' (.free rfl) rfl (Does.store i3 rfl rfl rfl hb3 (SetAt.of (by omega))) ?_
        rintro _ w4 ⟨hb4, hm4, _⟩
        have hil : i < cs1.length := by omega
        have e0 : 0 + i * 1 = i := by omega
        rw [e0] at hb4
        refine RL.done ?_
        refine RK.region ?_
        iterate 2 refine RL.p rfl rfl ?_
        refine RL.re (d := 35) rfl rfl (succ_i64 (by omega)) ?_
        refine RL.p rfl rfl ?_
        refine RL.done ?_
        refine RK.inBlock ?_
        refine RK.region ?_
        iterate 2 refine RL.p rfl rfl ?_
        refine RL.re (d := 21) rfl rfl (succ_i64 (by omega)) ?_
        refine RL.p rfl rfl ?_
        refine RL.done ?_
        exact RK.back (ih (i + 1, j + 1) _ ⟨hm3.trans hm4, by omega, by simp only; omega, by rw [hks, hpx]; simpa using hic, _, hb4, by simpa using hl1, by rw [hks, hpx]; simp only [Bool.false_eq_true, if_false]; exact set_snoc ht1 hil, fun t y ht hy => by rw [List.getElem?_set_ne (by simp only at ht; omega)]; exact hr1 t y (by simp only at ht; omega) hy⟩ (by simp only; omega)) ⟨rfl, rfl, rfl, rfl, trivial⟩
      · have hpx : p x = true := by simpa using h29
        refine RK.skip ?_
        refine RK.inBlock ?_
        refine RK.region ?_
        iterate 2 refine RL.p rfl rfl ?_
        refine RL.re (d := 21) rfl rfl (succ_i64 (by omega)) ?_
        refine RL.p rfl rfl ?_
        refine RL.done ?_
        exact RK.back (ih (i, j + 1) _ ⟨hm3, by omega, by simp only; omega, by rw [hks, hpx]; simpa using hic, cs1, hb3, hl1, by rw [hks, hpx]; simpa using ht1, fun t y ht hy => hr1 t y (by simp only at ht; omega) hy⟩ (by simp only; omega)) ⟨rfl, rfl, rfl, rfl, trivial⟩
    · have ek : xs.take j = xs := List.take_of_length_le (by omega)
      rw [ek] at hic ht1
      refine RK.exit rfl ?_
      refine RK.seq ?_
      refine RK.region ?_
      iterate 2 refine RL.p rfl rfl ?_
      refine RL.q (.free rfl) rfl rfl (Yld.sliceFrom u22 i3 rfl rfl (by omega)) ?_
      refine RL.op' (.free rfl) rfl (Does.clear u22 i3 (cap := cp) (lo := i) (m := xs.length - i) rfl (by simp [Value.cells, Value.oneCell']) rfl hb1 (by rw [Nat.mul_one]; exact hl1) (by omega)) ?_
      rintro _ w5 ⟨⟨cs5, hb5, hl5, ht5⟩, hm5, hs5⟩
      refine RL.done ?_
      refine RK.seq ?_
      refine RK.region ?_
      iterate 2 refine RL.p rfl rfl ?_
      refine RL.q (.free rfl) rfl rfl (Yld.sliceHi u22 i3 rfl rfl (by omega)) ?_
      refine RL.p rfl rfl ?_
      refine RL.done ?_
      refine RK.ret_of Tryz.func88 (res1 rfl rfl) ?_ _
      exact ⟨_, rfl, by have h9 := Row.shut (sz := 1) (k := i) hb5 (by rw [hl5, hl1, Nat.mul_one]) (by omega) hcm; rw [ht5] at h9; rw [Nat.mul_one, ht1] at h9; rw [← hic]; exact h9, rfl, (hm.trans hm5).mono fun b _ e => congrArg some e.symm⟩
/-- The whole of it: kept, Not, Cut, And. -/
theorem kept1_ok (w : World) (b : Nat) (fv : Value) (p : Int → Bool) (hb : Blk w b 82 [fv]) (hp : PredI w fv p) (n : Int) : Fx Tryz.prog 145 [.int .i64 n, pp b] w (fun u w' => u = .bool (!p n) ∧ Grow w w') := by
  obtain ⟨g, cap, rfl, hE, hp⟩ := hp
  refine enter Tryz.func145 rfl rfl rfl _ (Pick.sub (l := [0, 1]) (.cons rfl (.cons rfl .nil))) ?_
  refine RK.seq ?_
  refine RK.region ?_
  refine RL.p rfl rfl ?_
  refine RL.done ?_
  refine RK.seq ?_
  refine RK.region ?_
  refine RL.q (.free rfl) rfl rfl (Yld.load p82 rfl (at1 (hb.cell rfl))) ?_
  refine RL.p rfl rfl ?_
  refine RL.op (.free rfl) rfl rfl (Does.callv rfl rfl (by assumption) (hp n _ (Mod.refl _ _))) ?_
  rintro _ w2 ⟨rfl, hg2⟩
  iterate 2 refine RL.p rfl rfl ?_
  refine RL.done ?_
  refine RK.ret_of Tryz.func145 (res1 rfl rfl) ?_ _
  exact ⟨_, rfl, rfl, hg2⟩
theorem kept_ok (M : Nat → Prop) (xs : List Int) (v fv : Value) (p : Int → Bool) (w : World) (hv : Sl M w v 1 xs.length (ints xs)) (hb : xs.length * 8 ≤ 140737488355328) (hp : PredI w fv p) :
    Fx Tryz.prog 103 [v, fv] w (fun u w' => Row w' 3 1 u ((mkRow xs).filter p).length (ints ((mkRow xs).filter p)) ∧ Fresh w.heap.size u ∧ Grow w w') := by
  obtain ⟨g, cap, rfl, hE, hp0⟩ := id hp
  have he : keepI (fun n => !p n) (mkRow xs) = (mkRow xs).filter p := by unfold keepI; simp
  refine enter Tryz.func103 rfl rfl rfl _ (Pick.sub (l := [0, 1]) (.cons rfl (.cons rfl .nil))) ?_
  refine RK.seq ?_
  refine RK.region ?_
  refine RL.op (.free rfl) rfl rfl (Does.box rfl) ?_
  rintro _ w1 ⟨b1, rfl, hn1⟩
  refine RL.p rfl rfl ?_
  refine RL.done ?_
  refine RK.seq ?_
  refine RK.region ?_
  refine RL.p rfl rfl ?_
  refine RL.op (.free rfl) rfl rfl (Does.call rfl e112 (make_ok No xs v _ (hv.mod (Mod.any' hn1.grow)).noM hb)) ?_
  rintro u2 w2 ⟨hr2, hf2, hg2⟩
  refine RL.p rfl rfl ?_
  refine RL.op (.free rfl) rfl rfl (Does.call rfl e88 (deleteFuncI_ok w1 (mkRow xs) u2 _ (fun n => !p n) _ hr2 hf2 hg2 ⟨_, _, rfl, e145, fun n w' hg => kept1_ok w' b1 _ p (hn1.blk.mod hg (fun h => h)) (hp.grow (hn1.grow.trans hg)) n⟩)) ?_
  rintro u3 w3 ⟨hr3, hu3, hm3⟩
  refine RL.p rfl rfl ?_
  refine RL.done ?_
  refine RK.ret_of Tryz.func103 (res1 rfl rfl) ?_ _
  exact ⟨_, rfl, he ▸ hr3, fun b hb => by rw [hu3] at hb; have := hf2 b hb; have := hn1.grow.size; omega, (hn1.grow.trans hg2).then hm3 (fun x hx e => by have := hf2 x e; have := hn1.grow.size; omega)⟩
theorem contains_ok (M : Nat → Prop) (xs : List Int) (v : Value) (x : Int) (w : World) (hv : Sl M w v 1 xs.length (ints xs)) : Fx Tryz.prog 146 [v, .int .i64 x] w (fun u w' => u = .bool (xs.contains x) ∧ w = w') := by
  obtain ⟨ad, c, b, o, rfl, hf⟩ := hv.open
  by_cases h0 : xs.length = 0
  · have : xs = [] := List.eq_nil_of_length_eq_zero h0
    subst this
    refine Calls.mono (Tryz.slices_Contains_int_empty ad c x w) ?_
    rintro e w' ⟨rfl, rfl⟩
    exact ⟨_, rfl, rfl, rfl⟩
  · obtain ⟨rfl, _, hc⟩ := hf (by omega)
    refine Calls.mono (Tryz.slices_Contains_int b o xs.length c xs x w (Nat.le_refl _) hv.big (fun j hj => hc j _ (by simp [hj]))) ?_
    rintro e w' ⟨rfl, rfl⟩
    exact ⟨_, rfl, by rw [List.take_length], rfl⟩
theorem has_ok (M : Nat → Prop) (xs : List Int) (v : Value) (x : Int) (w : World) (hv : Sl M w v 1 xs.length (ints xs)) : Fx Tryz.prog 105 [v, .int .i64 x] w (fun u w' => u = .bool (xs.contains x) ∧ w = w') := by
  refine enter Tryz.func105 rfl rfl rfl _ (Pick.sub (l := [0, 1]) (.cons rfl (.cons rfl .nil))) ?_
  refine RK.seq ?_
  refine RK.region ?_
  refine RL.p rfl rfl ?_
  refine RL.done ?_
  refine RK.seq ?_
  refine RK.region ?_
  iterate 2 refine RL.p rfl rfl ?_
  refine RL.op (.free rfl) rfl rfl (Does.call rfl e146 (contains_ok M xs v x _ hv)) ?_
  rintro _ _ ⟨rfl, rfl⟩
  refine RL.p rfl rfl ?_
  refine RL.done ?_
  refine RK.ret_of Tryz.func105 (res1 rfl rfl) ?_ _
  exact ⟨_, rfl, rfl, rfl⟩
theorem not1_ok (M : Nat → Prop) (w : World) (b : Nat) (ys : List Int) (vb : Value) (hb : Blk w b 22 [vb]) (hv : Sl M w vb 1 ys.length (ints ys)) (n : Int) : Fx Tryz.prog 178 [.int .i64 n, pp b] w (fun u w' => u = .bool (!ys.contains n) ∧ Grow w w') := by
  refine enter Tryz.func178 rfl rfl rfl _ (Pick.sub (l := [0, 1]) (.cons rfl (.cons rfl .nil))) ?_
  refine RK.seq ?_
  refine RK.region ?_
  refine RL.p rfl rfl ?_
  refine RL.done ?_
  refine RK.seq ?_
  refine RK.region ?_
  refine RL.q (.free rfl) rfl rfl (Yld.load p22 rfl (at1 (hb.cell rfl))) ?_
  refine RL.p rfl rfl ?_
  refine RL.op (.free rfl) rfl rfl (Does.call rfl e105 (has_ok M ys vb n _ hv)) ?_
  rintro _ _ ⟨rfl, rfl⟩
  iterate 2 refine RL.p rfl rfl ?_
  refine RL.done ?_
  refine RK.ret_of Tryz.func178 (res1 rfl rfl) ?_ _
  exact ⟨_, rfl, rfl, Mod.refl _ _⟩
theorem not_ok (M : Nat → Prop) (xs ys : List Int) (va vb : Value) (w : World) (ha : Sl M w va 1 xs.length (ints xs)) (hvb : Sl M w vb 1 ys.length (ints ys)) (hb : xs.length * 8 ≤ 140737488355328) :
    Fx Tryz.prog 147 [va, vb] w (fun u w' => Row w' 3 1 u ((mkRow xs).filter fun n => !ys.contains n).length (ints ((mkRow xs).filter fun n => !ys.contains n)) ∧ Fresh w.heap.size u ∧ Grow w w') := by
  obtain ⟨ad', c', rfl⟩ := hvb.shape
  refine enter Tryz.func147 rfl rfl rfl _ (Pick.sub (l := [0, 1]) (.cons rfl (.cons rfl .nil))) ?_
  refine RK.seq ?_
  refine RK.region ?_
  refine RL.op (.free rfl) rfl rfl (Does.box rfl) ?_
  rintro _ w1 ⟨b1, rfl, hn1⟩
  refine RL.p rfl rfl ?_
  refine RL.done ?_
  refine RK.seq ?_
  refine RK.region ?_
  iterate 2 refine RL.p rfl rfl ?_
  refine RL.op (.free rfl) rfl rfl (Does.call rfl e103 (kept_ok No xs va _ (fun n => !ys.contains n) _ (ha.mod (Mod.any' hn1.grow)).noM hb ⟨_, _, rfl, e178, fun n w' hg => not1_ok No w' b1 ys _ (hn1.blk.mod hg (fun h => h)) (hvb.noM.mod (hn1.grow.trans hg)) n⟩)) ?_
  rintro u2 w2 ⟨hr2, hf2, hg2⟩
  refine RL.p rfl rfl ?_
  refine RL.done ?_
  refine RK.ret_of Tryz.func147 (res1 rfl rfl) ?_ _
  exact ⟨_, rfl, hr2, fun b hb => by have := hf2 b hb; have := hn1.grow.size; omega, hn1.grow.trans hg2⟩
theorem cut_ok (M : Nat → Prop) (xs : List Int) (x : Int) (v : Value) (w : World) (hv : Sl M w v 1 xs.length (ints xs)) (hb : xs.length * 8 ≤ 140737488355328) :
    Fx Tryz.prog 108 [v, .int .i64 x] w (fun u w' => Row w' 3 1 u (cutRow xs x).length (ints (cutRow xs x)) ∧ Fresh w.heap.size u ∧ Grow w w') := by
  have he : (mkRow xs).filter (fun n => ![x].contains n) = cutRow xs x := by
    unfold cutRow
    apply List.filter_congr
    intro y _
    by_cases h : y = x <;> simp [h]
  refine enter Tryz.func108 rfl rfl rfl _ (Pick.sub (l := [0, 1]) (.cons rfl (.cons rfl .nil))) ?_
  refine RK.seq ?_
  refine RK.region ?_
  refine RL.p rfl rfl ?_
  refine RL.done ?_
  refine RK.seq ?_
  refine RK.region ?_
  iterate 2 refine RL.p rfl rfl ?_
  refine RL.op (.free rfl) rfl rfl (Does.slice1 u22 i3 rfl rfl rfl rfl rfl) ?_
  rintro _ w1 ⟨b1, rfl, hn1⟩
  refine RL.op (.free rfl) rfl rfl (Does.call rfl e147 (not_ok No xs [x] v _ _ (hv.mod (Mod.any' hn1.grow)).noM (Sl.new hn1 1 1 rfl (by omega) (fun h => h)) hb)) ?_
  rintro u2 w2 ⟨hr2, hf2, hg2⟩
  refine RL.p rfl rfl ?_
  refine RL.done ?_
  refine RK.ret_of Tryz.func108 (res1 rfl rfl) ?_ _
  exact ⟨_, rfl, by rw [he] at hr2; exact hr2, fun b hb => by have := hf2 b hb; have := hn1.grow.size; omega, hn1.grow.trans hg2⟩
theorem and1_ok (M : Nat → Prop) (w : World) (b : Nat) (ys : List Int) (vb : Value) (hb : Blk w b 22 [vb]) (hv : Sl M w vb 1 ys.length (ints ys)) (n : Int) : Fx Tryz.prog 104 [.int .i64 n, pp b] w (fun u w' => u = .bool (ys.contains n) ∧ Grow w w') := by
  refine enter Tryz.func104 rfl rfl rfl _ (Pick.sub (l := [0, 1]) (.cons rfl (.cons rfl .nil))) ?_
  refine RK.seq ?_
  refine RK.region ?_
  refine RL.p rfl rfl ?_
  refine RL.done ?_
  refine RK.seq ?_
  refine RK.region ?_
  refine RL.q (.free rfl) rfl rfl (Yld.load p22 rfl (at1 (hb.cell rfl))) ?_
  refine RL.p rfl rfl ?_
  refine RL.op (.free rfl) rfl rfl (Does.call rfl e105 (has_ok M ys vb n _ hv)) ?_
  rintro _ _ ⟨rfl, rfl⟩
  refine RL.p rfl rfl ?_
  refine RL.done ?_
  refine RK.ret_of Tryz.func104 (res1 rfl rfl) ?_ _
  exact ⟨_, rfl, rfl, Mod.refl _ _⟩
theorem and_ok (M : Nat → Prop) (xs ys : List Int) (va vb : Value) (w : World) (ha : Sl M w va 1 xs.length (ints xs)) (hvb : Sl M w vb 1 ys.length (ints ys)) (hb : xs.length * 8 ≤ 140737488355328) :
    Fx Tryz.prog 48 [va, vb] w (fun u w' => Row w' 3 1 u ((mkRow xs).filter fun n => ys.contains n).length (ints ((mkRow xs).filter fun n => ys.contains n)) ∧ Fresh w.heap.size u ∧ Grow w w') := by
  obtain ⟨ad', c', rfl⟩ := hvb.shape
  refine enter Tryz.func48 rfl rfl rfl _ (Pick.sub (l := [0, 1]) (.cons rfl (.cons rfl .nil))) ?_
  refine RK.seq ?_
  refine RK.region ?_
  refine RL.op (.free rfl) rfl rfl (Does.box rfl) ?_
  rintro _ w1 ⟨b1, rfl, hn1⟩
  refine RL.p rfl rfl ?_
  refine RL.done ?_
  refine RK.seq ?_
  refine RK.region ?_
  iterate 2 refine RL.p rfl rfl ?_
  refine RL.op (.free rfl) rfl rfl (Does.call rfl e103 (kept_ok No xs va _ (fun n => ys.contains n) _ (ha.mod (Mod.any' hn1.grow)).noM hb ⟨_, _, rfl, e104, fun n w' hg => and1_ok No w' b1 ys _ (hn1.blk.mod hg (fun h => h)) (hvb.noM.mod (hn1.grow.trans hg)) n⟩)) ?_
  rintro u2 w2 ⟨hr2, hf2, hg2⟩
  refine RL.p rfl rfl ?_
  refine RL.done ?_
  refine RK.ret_of Tryz.func48 (res1 rfl rfl) ?_ _
  exact ⟨_, rfl, hr2, fun b hb => by have := hf2 b hb; have := hn1.grow.size; omega, hn1.grow.trans hg2⟩
end Go.Proofs.YtffbcfcoddacmaaGreat

/- An index: somebody dropped. -/
set_option linter.unusedVariables false
set_option linter.unusedSimpArgs false
set_option maxHeartbeats 800000
set_option maxRecDepth 100000
namespace Go.Proofs.YtffbcfcoddacmaaGreat
open Go Go.X

theorem drop_ok (M : Nat → Prop) (w : World) (ix mh mr : Nat) (has : List (Int × List Lab)) (rows : List (LabK × List Int)) (h : IdxAt M w ix mh mr has rows) (hMh : M mh) (hMr : M mr) (hM : ∀ b, M b → b < w.heap.size) (id : Int)
    (hB : ∀ t ∈ rows, t.2.length ≤ 1000000000000) :
    Fx Tryz.prog 52 [pp ix, .int .i64 id] w (fun u w' => u = .bool (lookM has id).isSome ∧ IdxAt M w' ix mh mr (cutM has id) (dropRows rows id ((lookM has id).getD [])) ∧ Mod (fun b => b = mh ∨ b = mr) w w') := by
  obtain ⟨l, hl1, hl2, hl3⟩ := h.hl
  have n1 : ix ≠ mh := h.blk.ty.nem hl2.mp
  have n2 : ix ≠ mr := by obtain ⟨r, _, hr2, _⟩ := h.rl; exact h.blk.ty.nem hr2.mp
  obtain ⟨ls, hls⟩ : ∃ ls, (lookM has id).getD [] = ls := ⟨_, rfl⟩
  rw [hls]
  obtain ⟨vl, hvl, hv⟩ : ∃ vl, (lookM (l.map fun t => (t.1, t.2.2)) id).getD (.slice none 0 0) = vl ∧ SlL M w vl ls := by
    have e1 := lookM_map (fun a : List Lab × Value => a.1) id l
    have e2 := lookM_map (fun a : List Lab × Value => a.2) id l
    rw [hl1] at e1
    rw [e1] at hls
    rw [e2]
    cases hh : lookM l id with
    | none => rw [hh] at hls; simp at hls; subst hls; exact ⟨_, rfl, Sl.nil _ _ _ _ _⟩
    | some a => rw [hh] at hls; simp at hls; subst hls; exact ⟨_, rfl, hl3 _ (lookM_mem hh)⟩
  have hsome : (lookM (l.map fun t => (t.1, t.2.2)) id).isSome = (lookM has id).isSome := by
    have e1 := lookM_map (fun a : List Lab × Value => a.1) id l
    have e2 := lookM_map (fun a : List Lab × Value => a.2) id l
    rw [hl1] at e1
    rw [e1, e2]; simp
  obtain ⟨ad, c, rfl⟩ := hv.shape
  have hbig := hv.big
  refine enter Tryz.func52 rfl rfl rfl _ (Pick.sub (l := [0, 1]) (.cons rfl (.cons rfl .nil))) ?_
  refine RK.seq ?_
  refine RK.region ?_
  refine RL.p rfl rfl ?_
  refine RL.done ?_
  refine RK.seq ?_
  refine RK.region ?_
  iterate 2 refine RL.p rfl rfl ?_
  refine RL.q (.free rfl) rfl rfl (Yld.fieldAddr fo144_0 rfl) ?_
  refine RL.q (.free rfl) rfl rfl (Yld.load p141 rfl (at1 (h.blk.cell rfl))) ?_
  refine RL.p rfl rfl ?_
  refine RL.q (.free rfl) rfl rfl (Yld.lookup Tryz.underlying141 key3 i26 rfl rfl (fun w' e => e ▸ hl2)) ?_
  refine RL.re (d := 15) rfl rfl (show _ = Value.tuple #[.slice ad ls.length c, .bool (lookM has id).isSome] by rw [hvl, hsome]; rfl) ?_
  iterate 5 refine RL.p rfl rfl ?_
  refine RL.done ?_
  iterate 2 refine RK.seq ?_
  refine RK.region ?_
  refine RL.p rfl rfl ?_
  refine RL.q (.free rfl) rfl rfl (Yld.lenSl u26 rfl) ?_
  refine RL.p rfl rfl ?_
  refine RL.done ?_
  refine RK.block ?_
  refine RK.loop (fun k : Nat => [(0, pp ix), (1, .int .i64 id), (18, .slice ad ls.length c), (19, .int .i64 ls.length), (20, .int .i64 k), (6, .bool (lookM has id).isSome)]) (fun k w' => IdxAt M w' ix mh mr has (dropRows rows id (ls.take k)) ∧ Mod (fun b => b = mh ∨ b = mr) w w' ∧ k ≤ ls.length) (fun k => ls.length - k) 0 ⟨rfl, rfl, rfl, rfl, rfl, rfl, trivial⟩ ⟨by simpa [dropRows] using h, Mod.refl _ _, by omega⟩ (fun k w' hI ih => ?_)
  obtain ⟨hi, hmod, hk⟩ := hI
  refine RK.seq ?_
  refine RK.region ?_
  refine RL.p rfl rfl ?_
  refine RL.done ?_
  refine RK.seq ?_
  first | refine RK.condD rfl (fun h21 => ?_) (fun h21 => ?_) | refine RK.condN rfl (fun h21 => ?_) (fun h21 => ?_) | refine RK.cond rfl (fun h21 => ?_) (fun h21 => ?_)
  · obtain ⟨x, hx⟩ : ∃ x, ls[k]? = some x := ⟨ls[k]'(by omega), List.getElem?_eq_getElem (by omega)⟩
    obtain ⟨bx, ox, cx, he, hbM, hkl, hcell⟩ := hv.elem labC_len hx
    cases he
    obtain ⟨r, hr1, hr2, hr3⟩ := hi.rl
    have hmodM : Mod M w w' := hmod.mono fun b _ e => by rcases e with rfl | rfl <;> assumption
    have htk : ls.take (k + 1) = ls.take k ++ [x] := by rw [List.take_succ_eq_append_getElem (by omega)]; congr 2; exact (List.getElem?_eq_some_iff.1 hx).2
    have hbnd : ((lookM (dropRows rows id (ls.take k)) (labK x)).getD []).length ≤ 1000000000000 := look_bound (dropRows_bound hB id (ls.take k)) (labK x)
    obtain ⟨row0, hrow0⟩ : ∃ row0, (lookM (dropRows rows id (ls.take k)) (labK x)).getD [] = row0 := ⟨_, rfl⟩
    rw [hrow0] at hbnd
    obtain ⟨vv, hval, hsl⟩ : ∃ vv, (lookM (r.map fun t => (t.1, t.2.2)) (labK x)).getD (.slice none 0 0) = vv ∧ Sl M w' vv 1 row0.length (ints row0) := by
        rw [← hrow0]
        have e1 := lookM_map (fun a : List Int × Value => a.1) (labK x) r
        have e2 := lookM_map (fun a : List Int × Value => a.2) (labK x) r
        rw [hr1] at e1
        rw [e1, e2]
        cases hh : lookM r (labK x) with
        | none => exact ⟨_, rfl, Sl.nil _ _ _ _ _⟩
        | some a => exact ⟨_, rfl, hr3 _ (lookM_mem hh)⟩
    refine RK.skip ?_
    refine RK.seq ?_
    refine RK.block ?_
    refine RK.seq ?_
    refine RK.region ?_
    refine RL.q (.free rfl) rfl rfl (Yld.indexAddrN u26 i46 rfl rfl (by omega)) ?_
    refine RL.q (.free rfl) rfl rfl (Yld.loadN (cs := [.string x.name, .string x.value]) a46 rfl (atN (fun j u hj => hmodM.cell (hcell j u hj) hbM))) ?_
    refine RL.op (.free rfl) rfl rfl (Does.alloc i46) ?_
    rintro _ w5 ⟨b1, rfl, hn1⟩
    refine RL.op' (.free rfl) rfl (Does.storeN i46 rfl rfl rfl rfl hn1.blk (Nat.le_refl 2)) ?_
    rintro _ w6 ⟨hb6, hm6, _⟩
    have hB6 : Blk w6 b1 46 [.string x.name, .string x.value] := hb6
    have hg6 : Grow w' w6 := hn1.grow.then hm6 (fun y hy e => by have e' : y = b1 := e; have := hn1.at_; omega)
    refine RL.done ?_
    refine RK.seq ?_
    refine RK.drawM No [(0, false), (1, false), (2, false), (3, false), (4, false), (5, false), (6, false), (7, false), (8, false), (9, false), (10, false), (11, false), (12, true), (13, true)] [13] mixed (by kernel_rfl) ?_
    iterate 2 refine DL.p rfl rfl rfl ?_
    refine DL.qf rfl (.free rfl) rfl rfl (Yld.fieldAddr fo144_1 rfl) ?_
    refine DL.q rfl (.free rfl) rfl rfl rfl (Yld.load p142 rfl (atM ((hi.blk.mod hg6 (fun h => h)).cell rfl) (fun h => h))) (Mod.drew _ _) ?_
    refine DL.q rfl (.free rfl) rfl rfl rfl (Yld.loadN (cs := [.string x.name, .string x.value]) a46 rfl (atNM (fun j u hj => by rw [Nat.zero_add]; exact hB6.cell' hj) (fun h => h))) (Mod.drew _ _) ?_
    iterate 2 refine DL.p rfl rfl rfl ?_
    refine DL.qf rfl (.free rfl) rfl rfl (Yld.fieldAddr fo144_1 rfl) ?_
    refine DL.q rfl (.free rfl) rfl rfl rfl (Yld.load p142 rfl (atM ((hi.blk.mod hg6 (fun h => h)).cell rfl) (fun h => h))) (Mod.drew _ _) ?_
    refine DL.q rfl (.free rfl) rfl rfl rfl (Yld.loadN (cs := [.string x.name, .string x.value]) a46 rfl (atNM (fun j u hj => by rw [Nat.zero_add]; exact hB6.cell' hj) (fun h => h))) (Mod.drew _ _) ?_
    refine DL.q rfl (.free rfl) rfl rfl rfl (Yld.lookup Tryz.underlying142 key46 i22 (k := labK x) rfl rfl (fun w' hm => (hr2.mod hg6 (fun h => h)).mod hm (fun h => h))) (Mod.drew _ _) ?_
    refine DL.re (d := 34) rfl rfl (hval) ?_
    refine DL.p rfl rfl rfl ?_
    refine DL.op rfl (.free rfl) rfl rfl (Does.call rfl e108 (cut_ok M row0 id vv _ ((hsl.mod (Mod.any' hg6)).mod (Mod.drew M _)) (by omega))) ?_
    rintro u7 w7 ⟨hr7, hf7, hg7⟩
    refine ⟨(Mod.drew _ _).trans hg7, ?_⟩
    have hg07 : Grow w' w7 := (hg6.trans (Mod.drew _ _)).trans hg7
    refine DL.opT rfl (.free rfl) rfl rfl (Does.mapUpdate Tryz.underlying142 key46 (k := labK x) rfl rfl rfl (hr2.mod hg07 (fun h => h))) ?_
    rintro _ w8 ⟨hm8, hmod8, hs8⟩
    obtain ⟨ad7, c7, rfl⟩ := hr7.slice
    have hmodk : Mod (· = mr) w' w8 := (Mod.any' hg07).trans hmod8
    have hb1r : b1 ≠ mr := hB6.ty.nem (hr2.mod hg6 (fun h => h)).mp
    have hB8 : Blk w8 b1 46 [.string x.name, .string x.value] := (hB6.mod ((Mod.drew No _).trans hg7) (fun h => h)).mod hmod8 hb1r
    have hu7 : Sl M w8 (.slice ad7 (cutRow row0 id).length c7) 1 (cutRow row0 id).length (ints (cutRow row0 id)) := (Sl.own hr7 (fun b e hb => by have h1 := hf7 b e; have h2 := hM b hb; have h3 := hg6.size; have h4 := hmod.size; simp only [World.drew] at h1; omega)).mod (hmod8.mono fun b _ e => e ▸ hMr)
    have hI8 : ∀ w9, Mod (· = mr) w8 w9 → ∀ r9 : List (LabK × (List Int × Value)), (∀ t ∈ r9, t ∈ putM r (labK x) (cutRow row0 id, .slice ad7 (cutRow row0 id).length c7)) → MapAt pairV w9 mr (r9.map fun t => (t.1, t.2.2)) → r9.map (fun t => (t.1, t.2.1)) = dropRows rows id (ls.take (k + 1)) → IdxAt M w9 ix mh mr has (dropRows rows id (ls.take (k + 1))) := by
        intro w9 h9 r9 hsub hmap hrows
        obtain ⟨l', hl1', hl2', hl3'⟩ := hi.hl
        have hm9 := hmodk.trans h9
        refine ⟨hi.blk.mod hm9 n2, hi.ne, ⟨l', hl1', hl2'.mod hm9 hi.ne, fun t ht => (hl3' t ht).mod (hm9.mono fun b _ e => e ▸ hMr)⟩, ⟨r9, hrows, hmap, fun t ht => ?_⟩⟩
        rcases mem_putM (hsub t ht) with h1 | rfl
        · exact (hr3 t h1).mod (hm9.mono fun b _ e => e ▸ hMr)
        · exact hu7.mod (h9.mono fun b _ e => e ▸ hMr)
    have hput : (putM r (labK x) (cutRow row0 id, Value.slice ad7 (cutRow row0 id).length c7)).map (fun t => (t.1, t.2.1)) = putM (dropRows rows id (ls.take k)) (labK x) (cutRow row0 id) := by
        rw [← hr1]; exact (putM_map (fun a : List Int × Value => a.1) (labK x) (_, Value.slice ad7 (cutRow row0 id).length c7) r).symm
    have hput2 : MapAt pairV w8 mr ((putM r (labK x) (cutRow row0 id, Value.slice ad7 (cutRow row0 id).length c7)).map fun t => (t.1, t.2.2)) := by
        rw [← putM_map (fun a : List Int × Value => a.2) (labK x) (_, Value.slice ad7 (cutRow row0 id).length c7) r]; exact hm8
    have hlk8 : (lookM ((putM r (labK x) (cutRow row0 id, Value.slice ad7 (cutRow row0 id).length c7)).map fun t => (t.1, t.2.2)) (labK x)).getD (.slice none 0 0) = .slice ad7 (cutRow row0 id).length c7 := by
        rw [lookM_map (fun a : List Int × Value => a.2), lookM_putM]; simp
    refine DL.done ?_
    refine RK.seq ?_
    refine RK.drawM No [(0, false), (1, false), (2, false), (3, false), (4, false), (5, false), (6, false), (7, false)] [] mixed (by kernel_rfl) ?_
    iterate 2 refine DL.p rfl rfl rfl ?_
    refine DL.qf rfl (.free rfl) rfl rfl (Yld.fieldAddr fo144_1 rfl) ?_
    refine DL.q rfl (.free rfl) rfl rfl rfl (Yld.load p142 rfl (atM ((hi.blk.mod hmodk n2).cell rfl) (fun h => h))) (Mod.drew _ _) ?_
    refine DL.q rfl (.free rfl) rfl rfl rfl (Yld.loadN (cs := [.string x.name, .string x.value]) a46 rfl (atNM (fun j u hj => by rw [Nat.zero_add]; exact hB8.cell' hj) (fun h => h))) (Mod.drew _ _) ?_
    refine DL.q rfl (.free rfl) rfl rfl rfl (Yld.lookup Tryz.underlying142 key46 i22 (k := labK x) rfl rfl (fun w' hm => hput2.mod hm (fun h => h))) (Mod.drew _ _) ?_
    refine DL.re (d := 42) rfl rfl (hlk8) ?_
    refine DL.q rfl (.free rfl) rfl rfl rfl (Yld.lenSl u22 rfl) (Mod.drew _ _) ?_
    refine DL.p rfl rfl rfl ?_
    refine DL.done ?_
    first | refine RK.condD rfl (fun h44 => ?_) (fun h44 => ?_) | refine RK.condN rfl (fun h44 => ?_) (fun h44 => ?_) | refine RK.cond rfl (fun h44 => ?_) (fun h44 => ?_)
    · have hemp : cutRow row0 id = [] := List.eq_nil_of_length_eq_zero (by omega)
      have hstep : cutM (putM (dropRows rows id (ls.take k)) (labK x) (cutRow row0 id)) (labK x) = dropRows rows id (ls.take (k + 1)) := by rw [htk, dropRows_snoc, cutRow1, hrow0, if_pos hemp]
      have hput3 := hput2.mod (Mod.drew No w8) (fun h => h)
      refine RK.drawM No [(0, false), (1, false), (2, false), (3, false), (4, false), (5, true)] [5] mixed (by kernel_rfl) ?_
      iterate 2 refine DL.p rfl rfl rfl ?_
      refine DL.qf rfl (.free rfl) rfl rfl (Yld.fieldAddr fo144_1 rfl) ?_
      refine DL.q rfl (.free rfl) rfl rfl rfl (Yld.load p142 rfl (atM ((hi.blk.mod (hmodk.trans (Mod.drew _ _)) n2).cell rfl) (fun h => h))) (Mod.drew _ _) ?_
      refine DL.q rfl (.free rfl) rfl rfl rfl (Yld.loadN (cs := [.string x.name, .string x.value]) a46 rfl (atNM (fun j u hj => by rw [Nat.zero_add]; exact (hB8.mod (Mod.drew No _) (fun h => h)).cell' hj) (fun h => h))) (Mod.drew _ _) ?_
      refine DL.opT rfl (.free rfl) rfl rfl (Does.delete Tryz.underlying142 key46 (k := labK x) rfl rfl ((hput2.mod (Mod.drew No w8) (fun h => h)).mod (Mod.drew No _) (fun h => h))) ?_
      rintro _ w9 ⟨hm9, hmod9, hs9⟩
      have hmod89 : Mod (· = mr) w8 w9 := ((Mod.drew _ _).trans (Mod.drew _ _)).trans hmod9
      have hidx9 := hI8 w9 hmod89 (cutM (putM r (labK x) (cutRow row0 id, Value.slice ad7 (cutRow row0 id).length c7)) (labK x)) (fun t ht => mem_cutM' ht) (by rw [← cutM_map (fun a : List Int × Value => a.2) (labK x)]; exact hm9) (by rw [← hstep, ← hput]; exact (cutM_map (fun a : List Int × Value => a.1) (labK x) _).symm)
      refine DL.done ?_
      refine RK.inBlock ?_
      refine RK.region ?_
      refine RL.p rfl rfl ?_
      refine RL.re (d := 50) rfl rfl (succ_i64 (by omega)) ?_
      refine RL.p rfl rfl ?_
      refine RL.done ?_
      exact RK.back (ih (k + 1) _ ⟨hidx9, hmod.trans ((hmodk.trans hmod89).mono fun b _ e => .inr e), by omega⟩ (by omega)) ⟨rfl, rfl, rfl, rfl, rfl, rfl, trivial⟩
    · have hemp : ¬ cutRow row0 id = [] := fun e => h44 (by rw [e]; rfl)
      have hstep : putM (dropRows rows id (ls.take k)) (labK x) (cutRow row0 id) = dropRows rows id (ls.take (k + 1)) := by rw [htk, dropRows_snoc, cutRow1, hrow0, if_neg hemp]
      have hidx9 := hI8 w8.drew (Mod.drew _ _) _ (fun t ht => ht) (hput2.mod (Mod.drew No _) (fun h => h)) (hput.trans hstep)
      refine RK.skip ?_
      refine RK.inBlock ?_
      refine RK.region ?_
      refine RL.p rfl rfl ?_
      refine RL.re (d := 50) rfl rfl (succ_i64 (by omega)) ?_
      refine RL.p rfl rfl ?_
      refine RL.done ?_
      exact RK.back (ih (k + 1) _ ⟨hidx9, hmod.trans ((hmodk.trans (Mod.drew _ _)).mono fun b _ e => .inr e), by omega⟩ (by omega)) ⟨rfl, rfl, rfl, rfl, rfl, rfl, trivial⟩
  · have ek : ls.take k = ls := List.take_of_length_le (by omega)
    rw [ek] at hi
    obtain ⟨l', hl1', hl2', hl3'⟩ := hi.hl
    refine RK.exit rfl ?_
    refine RK.seq ?_
    refine RK.region ?_
    iterate 2 refine RL.p rfl rfl ?_
    refine RL.q (.free rfl) rfl rfl (Yld.fieldAddr fo144_0 rfl) ?_
    refine RL.q (.free rfl) rfl rfl (Yld.load p141 rfl (at1 (hi.blk.cell rfl))) ?_
    refine RL.p rfl rfl ?_
    refine RL.op' (.free rfl) rfl (Does.delete Tryz.underlying141 key3 (k := id) rfl rfl hl2') ?_
    rintro _ w9 ⟨hm9, hmod9, hs9⟩
    refine RL.done ?_
    refine RK.seq ?_
    refine RK.region ?_
    iterate 2 refine RL.p rfl rfl ?_
    refine RL.done ?_
    refine RK.ret_of Tryz.func52 (res1 rfl rfl) ?_ _
    exact ⟨_, rfl, rfl, by
        obtain ⟨r, hr1, hr2, hr3⟩ := hi.rl
        refine ⟨hi.blk.mod hmod9 n1, hi.ne, ⟨cutM l' id, ?_, ?_, fun t ht => ?_⟩, ⟨r, hr1, hr2.mod hmod9 hi.ne.symm, fun t ht => (hr3 t ht).mod (hmod9.mono fun b _ e => e ▸ hMh)⟩⟩
        · rw [← hl1']; exact (cutM_map (fun a : List Lab × Value => a.1) id l').symm
        · rw [← cutM_map (fun a : List Lab × Value => a.2) id l']; exact hm9
        · exact (hl3' t (mem_cutM' ht)).mod (hmod9.mono fun b _ e => e ▸ hMh)
      , hmod.trans (hmod9.mono fun b _ e => .inl e)⟩
end Go.Proofs.YtffbcfcoddacmaaGreat

/- A pool given back to; alerts searched by their numbers, deleted. -/
set_option linter.unusedVariables false
set_option linter.unusedSimpArgs false
set_option maxHeartbeats 400000
set_option maxRecDepth 100000
namespace Go.Proofs.YtffbcfcoddacmaaGreat
open Go Go.X

theorem poolHas_ok (w : World) (p : Nat) (most last : Int) (out : List Int) (v : Value) (id : Int) (hp : PoolAt w p most last out v) (hs : Ris out) (hb : out.length ≤ 1000000) :
    Fx Tryz.prog 129 [pp p, .int .i64 id] w (fun u w' => u = .bool (out.contains id) ∧ Grow w w') := by
  have hsl := Sl.own (M := No) hp.row (fun _ _ h => h)
  have hcall : Fx Tryz.prog 162 [v, .int .i64 id] w (fun u w' => ∃ i : Int, u = .tuple #[.int .i64 i, .bool (out.contains id)] ∧ Grow w w') := by
    obtain ⟨ad, c, b, o, rfl, hf⟩ := hsl.open
    by_cases h0 : out.length = 0
    · have : out = [] := List.eq_nil_of_length_eq_zero h0
      subst this
      refine Calls.mono (Tryz.slices_BinarySearch_int_empty ad c id w) ?_
      rintro e w' ⟨rfl, rfl⟩
      exact ⟨_, rfl, 0, rfl, Mod.refl _ _⟩
    · obtain ⟨rfl, _, hc⟩ := hf (by omega)
      refine Calls.mono (Tryz.slices_BinarySearch_int b o out.length c out id w (Nat.le_refl _) (by omega) (fun j hj => hc j _ (by simp [hj])) (by rw [List.take_length]; exact hs.imp fun h => by omega)) ?_
      rintro e w' ⟨rfl, q, rfl⟩
      exact ⟨_, rfl, _, by rw [List.take_length], Mod.drewN _ _ _⟩
  obtain ⟨ad, c, rfl⟩ := hp.row.slice
  refine enter Tryz.func129 rfl rfl rfl _ (Pick.sub (l := [0, 1]) (.cons rfl (.cons rfl .nil))) ?_
  refine RK.seq ?_
  refine RK.region ?_
  refine RL.p rfl rfl ?_
  refine RL.done ?_
  refine RK.seq ?_
  refine RK.region ?_
  iterate 2 refine RL.p rfl rfl ?_
  refine RL.q (.free rfl) rfl rfl (Yld.fieldAddr fo173_2 rfl) ?_
  refine RL.q (.free rfl) rfl rfl (Yld.load p22 rfl (at1 (hp.blk.cell rfl))) ?_
  refine RL.p rfl rfl ?_
  refine RL.op (.free rfl) rfl rfl (Does.call rfl e162 (hcall)) ?_
  rintro _ w2 ⟨i, rfl, hg2⟩
  iterate 5 refine RL.p rfl rfl ?_
  refine RL.done ?_
  refine RK.seq ?_
  refine RK.region ?_
  iterate 2 refine RL.p rfl rfl ?_
  refine RL.done ?_
  refine RK.ret_of Tryz.func129 (res1 rfl rfl) ?_ _
  exact ⟨_, rfl, rfl, hg2⟩
def giveS (out : List Int) (id : Int) : List Int := if out.contains id then cutRow out id else out
theorem give_ok (w : World) (p : Nat) (most last : Int) (out : List Int) (v : Value) (id : Int) (hp : PoolAt w p most last out v) (hs : Ris out) (hb : out.length ≤ 1000000) :
    Fx Tryz.prog 84 [pp p, .int .i64 id] w (fun u w' => u = .bool (out.contains id) ∧ ∃ v', PoolAt w' p most last (giveS out id) v' ∧ Mod (· = p) w w' ∧ (∀ b, v'.ownBlock = some b → v.ownBlock = some b ∨ w.heap.size ≤ b)) := by
  have hcall := poolHas_ok w p most last out v id hp hs hb
  cases hc : out.contains id with
  | false =>
    have e : giveS out id = out := by unfold giveS; rw [hc]; rfl
    rw [hc] at hcall
    refine enter Tryz.func84 rfl rfl rfl _ (Pick.sub (l := [0, 1]) (.cons rfl (.cons rfl .nil))) ?_
    refine RK.seq ?_
    refine RK.region ?_
    refine RL.p rfl rfl ?_
    refine RL.done ?_
    iterate 2 refine RK.seq ?_
    refine RK.region ?_
    iterate 2 refine RL.p rfl rfl ?_
    refine RL.op (.free rfl) rfl rfl (Does.call rfl e129 (hcall)) ?_
    rintro _ w2 ⟨rfl, hg2⟩
    refine RL.p rfl rfl ?_
    refine RL.done ?_
    refine RK.condT (hcT rfl (rfl)) ?_
    refine RK.seq ?_
    refine RK.region ?_
    refine RL.p rfl rfl ?_
    refine RL.done ?_
    refine RK.ret_of Tryz.func84 (res1 rfl rfl) ?_ _
    exact ⟨_, rfl, rfl, v, e.symm ▸ ⟨hp.blk.mod hg2 (fun h => h), hp.row.mod hg2 (fun _ _ h => h), hp.ne⟩, Mod.any' hg2, fun b h => .inl h⟩
  | true =>
    have e : giveS out id = cutRow out id := by unfold giveS; rw [hc]; rfl
    rw [hc] at hcall
    obtain ⟨ad, c, rfl⟩ := hp.row.slice
    refine enter Tryz.func84 rfl rfl rfl _ (Pick.sub (l := [0, 1]) (.cons rfl (.cons rfl .nil))) ?_
    refine RK.seq ?_
    refine RK.region ?_
    refine RL.p rfl rfl ?_
    refine RL.done ?_
    iterate 2 refine RK.seq ?_
    refine RK.region ?_
    iterate 2 refine RL.p rfl rfl ?_
    refine RL.op (.free rfl) rfl rfl (Does.call rfl e129 (hcall)) ?_
    rintro _ w2 ⟨rfl, hg2⟩
    refine RL.p rfl rfl ?_
    refine RL.done ?_
    refine RK.condF (hcF rfl (rfl)) ?_
    refine RK.skip ?_
    refine RK.seq ?_
    refine RK.region ?_
    iterate 3 refine RL.p rfl rfl ?_
    refine RL.q (.free rfl) rfl rfl (Yld.fieldAddr fo173_2 rfl) ?_
    refine RL.q (.free rfl) rfl rfl (Yld.load p22 rfl (at1 ((hp.blk.mod hg2 (fun h => h)).cell rfl))) ?_
    refine RL.p rfl rfl ?_
    refine RL.op (.free rfl) rfl rfl (Does.call rfl e108 (cut_ok No out id _ _ (Sl.own (hp.row.mod hg2 (fun _ _ h => h)) (fun _ _ h => h)) (by omega))) ?_
    rintro u3 w3 ⟨hr3, hf3, hg3⟩
    obtain ⟨ad3, c3, rfl⟩ := hr3.slice
    have hg03 := hg2.trans hg3
    have hlt := hp.blk.lt
    have hs2 := hg2.size
    refine RL.p rfl rfl ?_
    refine RL.q (.free rfl) rfl rfl (Yld.fieldAddr fo173_2 rfl) ?_
    refine RL.op' (.free rfl) rfl (Does.store i22 rfl rfl rfl (hp.blk.mod hg03 (fun h => h)) (.s (.s .z))) ?_
    rintro _ w4 ⟨hb4, hm4, _⟩
    refine RL.done ?_
    refine RK.seq ?_
    refine RK.region ?_
    refine RL.p rfl rfl ?_
    refine RL.done ?_
    refine RK.ret_of Tryz.func84 (res1 rfl rfl) ?_ _
    exact ⟨_, rfl, rfl, .slice ad3 (cutRow out id).length c3, by rw [e]; exact ⟨hb4, hr3.mod hm4 (fun b h e' => by have e' : b = p := e'; have := hf3 b h; omega), fun h => by have := hf3 p h; omega⟩, (Mod.any' hg03).trans hm4, fun b h => .inr (by have := hf3 b h; omega)⟩
/-! ### alerts searched -/
theorem cmpInt_ok (x y : Int) (w : World) : Fx Tryz.prog 128 [.int .i64 x, .int .i64 y] w (fun u w' => u = .int .i64 (Lib.compareInt x y) ∧ w = w') := by
  refine Calls.mono (Tryz.cmp_Compare_int x y w) ?_
  rintro e w' ⟨rfl, rfl⟩
  exact ⟨_, rfl, rfl, rfl⟩
theorem find1_ok (a : Al) (ad : Option Addr) (n c : Nat) (ha : a.v = .slice ad n c) (id : Int) (w : World) : Fx Tryz.prog 127 [.agg #[.int .i64 a.id, a.v, .float .f64 a.val], .int .i64 id] w (fun u w' => u = .int .i64 (Lib.compareInt a.id id) ∧ Grow w w') := by
  obtain ⟨aid, als, val, va⟩ := a
  simp only at ha
  subst ha
  refine enter Tryz.func127 rfl rfl rfl _ (Pick.sub (l := [0, 1]) (.cons rfl (.cons rfl .nil))) ?_
  refine RK.seq ?_
  refine RK.region ?_
  refine RL.op (.free rfl) rfl rfl (Does.box rfl) ?_
  rintro _ w1 ⟨bx, rfl, hbx⟩
  refine RL.p rfl rfl ?_
  refine RL.done ?_
  refine RK.seq ?_
  refine RK.region ?_
  refine RL.q (.free rfl) rfl rfl (Yld.fieldAddr fo32_0 rfl) ?_
  refine RL.q (.free rfl) rfl rfl (Yld.load p3 rfl (at1 (hbx.blk.cell rfl))) ?_
  refine RL.p rfl rfl ?_
  refine RL.op (.free rfl) rfl rfl (Does.call rfl e128 (cmpInt_ok _ _ _)) ?_
  rintro _ _ ⟨rfl, rfl⟩
  refine RL.p rfl rfl ?_
  refine RL.done ?_
  refine RK.ret_of Tryz.func127 (res1 rfl rfl) ?_ _
  exact ⟨_, rfl, rfl, hbx.grow⟩
theorem cmp_lt (x y : Int) : Lib.compareInt x y < 0 ↔ x < y := by unfold Lib.compareInt; split <;> (try split) <;> omega
theorem cmp_eq (x y : Int) : Lib.compareInt x y = 0 ↔ x = y := by unfold Lib.compareInt; split <;> (try split) <;> omega
theorem bsFunc_ok (al : List Al) (id : Int) (v : Value) (w : World) (hv : Sl No w v 3 al.length (al.flatMap alC)) (hsh : ∀ a ∈ al, ∃ ad n c, a.v = .slice ad n c) (hs : Ris (al.map (·.id))) (hb : al.length ≤ 1000000) :
    Fx Tryz.prog 126 [v, .int .i64 id, .func (.func 127) #[] #[]] w (fun u w' => (∃ i : Nat, i ≤ al.length ∧ (∀ t a, t < i → al[t]? = some a → a.id < id) ∧ (∀ t a, i ≤ t → al[t]? = some a → id ≤ a.id) ∧ u = .tuple #[.int .i64 i, .bool ((al.map (·.id))[i]? == some id)]) ∧ Grow w w') := by
  obtain ⟨ad, c, rfl⟩ := hv.shape
  have hris : ∀ (t t' : Nat) (a a' : Al), t < t' → al[t]? = some a → al[t']? = some a' → a.id < a'.id := fun t t' a a' h h1 h2 => by
    have h3 := (List.getElem?_eq_some_iff.1 h1).1
    have h4 := (List.getElem?_eq_some_iff.1 h2).1
    have := List.pairwise_iff_getElem.1 hs t t' (by simpa using h3) (by simpa using h4) h
    simp only [List.getElem_map, (List.getElem?_eq_some_iff.1 h1).2, (List.getElem?_eq_some_iff.1 h2).2] at this
    exact this
  refine enter Tryz.func126 rfl rfl rfl _ (Pick.sub (l := [0, 1, 2]) (.cons rfl (.cons rfl (.cons rfl .nil)))) ?_
  refine RK.seq ?_
  refine RK.region ?_
  iterate 2 refine RL.p rfl rfl ?_
  refine RL.done ?_
  refine RK.seq ?_
  refine RK.region ?_
  refine RL.p rfl rfl ?_
  refine RL.q (.free rfl) rfl rfl (Yld.lenSl u58 rfl) ?_
  refine RL.p rfl rfl ?_
  refine RL.done ?_
  refine RK.seq ?_
  refine RK.region ?_
  iterate 3 refine RL.p rfl rfl ?_
  refine RL.done ?_
  refine RK.seq ?_
  refine RK.block ?_
  refine RK.loop (fun s : Nat × Nat => [(0, .slice ad al.length c), (1, .int .i64 id), (2, .func (.func 127) #[] #[]), (8, .int .i64 al.length), (9, .int .i64 (s.1 : Int)), (10, .int .i64 (s.2 : Int))]) (fun s w' => Grow w w' ∧ s.1 ≤ s.2 ∧ s.2 ≤ al.length ∧ (∀ t a, t < s.1 → al[t]? = some a → a.id < id) ∧ (∀ t a, s.2 ≤ t → al[t]? = some a → id ≤ a.id)) (fun s => s.2 - s.1) (0, al.length) ⟨rfl, rfl, rfl, rfl, rfl, rfl, trivial⟩ ⟨Mod.refl _ _, by simp, by simp, fun t a h => by simp only at h; omega, fun t a h h1 => by have := (List.getElem?_eq_some_iff.1 h1).1; simp only at h; omega⟩ (fun s w' hI ih => ?_)
  obtain ⟨i, j⟩ := s
  obtain ⟨hg, hij, hj, hlo, hhi⟩ := hI
  simp only at hij hj hlo hhi
  iterate 2 refine RK.seq ?_
  refine RK.region ?_
  iterate 3 refine RL.p rfl rfl ?_
  refine RL.done ?_
  first | refine RK.condD rfl (fun h17 => ?_) (fun h17 => ?_) | refine RK.condN rfl (fun h17 => ?_) (fun h17 => ?_) | refine RK.cond rfl (fun h17 => ?_) (fun h17 => ?_)
  · obtain ⟨m, hm⟩ : ∃ m, m = (i + j) >>> 1 := ⟨_, rfl⟩
    have hm2 : m = (i + j) / 2 := by rw [hm, Nat.shiftRight_eq_div_pow]
    obtain ⟨a, ha⟩ : ∃ a, al[m]? = some a := ⟨al[m]'(by omega), List.getElem?_eq_getElem (by omega)⟩
    obtain ⟨ada, na, ca, hsa⟩ := hsh a (List.mem_of_getElem? ha)
    obtain ⟨b1, o1, c1', he1, _, _, hc1⟩ := hv.elem alC_len ha
    cases he1
    refine RK.skip ?_
    refine RK.block ?_
    refine RK.seq ?_
    refine RK.region ?_
    iterate 3 refine RL.p rfl rfl ?_
    refine RL.re (d := 20) rfl rfl (add_i64 (z := ((i + j : Nat) : Int)) (by simp) (by omega) (by omega)) ?_
    refine RL.q (.free rfl) rfl rfl (Yld.convI Tryz.underlying3 Tryz.underlying193 rfl) ?_
    refine RL.re (d := 21) rfl rfl (congrArg (Value.int .u64) (wrap_u64 (x := i + j) (by omega))) ?_
    refine RL.q (.free rfl) rfl rfl (Yld.shr (a := i + j) (s := 1) rfl rfl (by decide)) ?_
    refine RL.q (.free rfl) rfl rfl (Yld.convI Tryz.underlying193 Tryz.underlying3 rfl) ?_
    refine RL.re (d := 23) rfl rfl ((congrArg (Value.int .i64) (wrap_i64 (x := (((i + j) >>> 1 : Nat) : Int)) (by omega) (by rw [← hm]; omega))).trans (by rw [← hm])) ?_
    refine RL.p rfl rfl ?_
    refine RL.done ?_
    refine RK.seq ?_
    refine RK.region ?_
    iterate 3 refine RL.p rfl rfl ?_
    refine RL.q (.free rfl) rfl rfl (Yld.indexAddrN u58 i32 rfl rfl (by omega)) ?_
    refine RL.q (.free rfl) rfl rfl (Yld.loadN (cs := [.int .i64 a.id, a.v, .float .f64 a.val]) a32 rfl (atN (fun q u hq => hg.cell (hc1 q u hq) (fun h => h)))) ?_
    refine RL.p rfl rfl ?_
    refine RL.op (.free rfl) rfl rfl (Does.callv rfl rfl e127 (find1_ok a ada na ca hsa id _)) ?_
    rintro _ w2 ⟨rfl, hg2⟩
    refine RL.p rfl rfl ?_
    refine RL.done ?_
    first | refine RK.condD rfl (fun h31 => ?_) (fun h31 => ?_) | refine RK.condN rfl (fun h31 => ?_) (fun h31 => ?_) | refine RK.cond rfl (fun h31 => ?_) (fun h31 => ?_)
    · have hlt := (cmp_lt _ _).1 h31
      refine RK.region ?_
      iterate 2 refine RL.p rfl rfl ?_
      refine RL.re (d := 33) rfl rfl (succ_i64 (by omega)) ?_
      refine RL.p rfl rfl ?_
      refine RL.done ?_
      refine RK.inBlock ?_
      exact RK.back (ih (m + 1, j) _ ⟨hg.trans hg2, by simp only; omega, hj, fun t a' ht hta => by simp only at ht; by_cases e : t = m; (subst e; rw [ha] at hta; cases hta; exact hlt); have := hris t m a' a (by omega) hta ha; omega, hhi⟩ (by simp only; omega)) ⟨rfl, rfl, rfl, rfl, rfl, rfl, trivial⟩
    · have hge : ¬ a.id < id := fun h => h31 ((cmp_lt _ _).2 h)
      refine RK.region ?_
      iterate 2 refine RL.p rfl rfl ?_
      refine RL.done ?_
      refine RK.inBlock ?_
      exact RK.back (ih (i, m) _ ⟨hg.trans hg2, by simp only; omega, by simp only; omega, hlo, fun t a' ht hta => by simp only at ht; by_cases e : t = m; (subst e; rw [ha] at hta; cases hta; omega); have := hris m t a a' (by omega) ha hta; omega⟩ (by simp only; omega)) ⟨rfl, rfl, rfl, rfl, rfl, rfl, trivial⟩
  · have hije : i = j := by omega
    refine RK.exit rfl ?_
    refine RK.seq ?_
    refine RK.region ?_
    iterate 5 refine RL.p rfl rfl ?_
    first | refine RL.splitD (d := 39) rfl rfl (fun h39 => ?_) (fun h39 => ?_) | refine RL.splitN (d := 39) rfl rfl (fun h39 => ?_) (fun h39 => ?_) | refine RL.split (d := 39) rfl rfl (fun h39 => ?_) (fun h39 => ?_)
    · obtain ⟨a, ha⟩ : ∃ a, al[i]? = some a := ⟨al[i]'(by omega), List.getElem?_eq_getElem (by omega)⟩
      obtain ⟨ada, na, ca, hsa⟩ := hsh a (List.mem_of_getElem? ha)
      obtain ⟨b1, o1, c1', he1, _, _, hc1⟩ := hv.elem alC_len ha
      cases he1
      iterate 3 refine RL.q (.yes rfl rfl rfl) rfl rfl (Yld.pure rfl) ?_
      refine RL.q (.yes rfl rfl rfl) rfl rfl (Yld.indexAddrN u58 i32 rfl rfl (by omega)) ?_
      refine RL.q (.yes rfl rfl rfl) rfl rfl (Yld.loadN (cs := [.int .i64 a.id, a.v, .float .f64 a.val]) a32 rfl (atN (fun q u hq => hg.cell (hc1 q u hq) (fun h => h)))) ?_
      refine RL.q (.yes rfl rfl rfl) rfl rfl (Yld.pure rfl) ?_
      refine RL.op (.yes rfl rfl rfl) rfl rfl (Does.callv rfl rfl e127 (find1_ok a ada na ca hsa id _)) ?_
      rintro _ w2 ⟨rfl, hg2⟩
      refine RL.q (.yes rfl rfl rfl) rfl rfl (Yld.pure rfl) ?_
      iterate 3 refine RL.p rfl rfl ?_
      refine RL.done ?_
      refine RK.ret_of Tryz.func126 (res2 rfl rfl rfl) ?_ _
      exact ⟨_, rfl, ⟨i, by omega, hlo, by subst hije; exact hhi, by
          have e1 : ((al.map (·.id))[i]? == some id) = decide (Lib.compareInt a.id id = 0) := by
            rw [List.getElem?_map, ha, Bool.eq_iff_iff]
            simp [cmp_eq]
          rw [e1]⟩, hg.trans hg2⟩
    · iterate 8 refine RL.no (.no rfl rfl rfl rfl) rfl rfl ?_
      iterate 3 refine RL.p rfl rfl ?_
      refine RL.done ?_
      refine RK.ret_of Tryz.func126 (res2 rfl rfl rfl) ?_ _
      exact ⟨_, rfl, ⟨i, by omega, hlo, by subst hije; exact hhi, by
          have e1 : (al.map (·.id))[i]? = none := by rw [List.getElem?_eq_none_iff]; simp; omega
          rw [e1]; rfl⟩, hg⟩
end Go.Proofs.YtffbcfcoddacmaaGreat

/- Alerts deleted, resolved, told. -/
set_option linter.unusedVariables false
set_option linter.unusedSimpArgs false
set_option maxHeartbeats 800000
set_option maxRecDepth 100000
namespace Go.Proofs.YtffbcfcoddacmaaGreat
open Go Go.X

theorem allOne_als {al : List Al} (h : ∀ a ∈ al, ∃ ad n c, a.v = .slice ad n c) : (al.flatMap alC).all (·.oneCell') = true := by
  rw [List.all_eq_true]
  intro u hu
  obtain ⟨a, ha, hu⟩ := List.mem_flatMap.1 hu
  obtain ⟨ad, n, c, e⟩ := h a ha
  simp only [alC, List.mem_cons, List.not_mem_nil, or_false] at hu
  rcases hu with rfl | rfl | rfl
  · rfl
  · rw [e]; rfl
  · rfl
theorem deleteA_ok (al : List Al) (i : Nat) (v : Value) (w : World) (hv : Row w 32 3 v al.length (al.flatMap alC)) (hsh : ∀ a ∈ al, ∃ ad n c, a.v = .slice ad n c) (hi : i < al.length) (hb : al.length ≤ 1000000) :
    Fx Tryz.prog 83 [v, .int .i64 (i : Int), .int .i64 ((i + 1 : Nat) : Int)] w (fun u w' => Row w' 32 3 u (al.eraseIdx i).length ((al.eraseIdx i).flatMap alC) ∧ u.ownBlock = v.ownBlock ∧ Mod (fun b => v.ownBlock = some b) w w') := by
  obtain ⟨gb, cp, cs, rfl, hbk, hl, hkc, hcm, htk⟩ := hv.whole (by omega)
  have hmax : maxLen ≤ 9223372036854775807 := by decide
  have hnews : (cs.drop ((i + 1) * 3)).take ((al.length - (i + 1)) * 3) = (al.drop (i + 1)).flatMap alC := by
    rw [← flat_drop alC 3 alC_len, ← htk, List.drop_take]
    congr 1
    omega
  have hpre : cs.take (i * 3) = (al.take i).flatMap alC := by
    rw [← flat_take alC 3 alC_len, ← htk, List.take_take, Nat.min_eq_left (by omega)]
  have herase : (al.take i).flatMap alC ++ (al.drop (i + 1)).flatMap alC = (al.eraseIdx i).flatMap alC := by
    rw [List.eraseIdx_eq_take_drop_succ, List.flatMap_append]
  have hlen : (al.eraseIdx i).length = i + (al.length - (i + 1)) := by rw [List.length_eraseIdx]; simp [hi]; omega
  have hone : ((cs.drop ((i + 1) * 3)).take ((al.length - (i + 1)) * 3)).all (·.oneCell') = true := by
    rw [hnews]
    exact allOne_als fun a ha => hsh a (List.mem_of_mem_drop ha)
  have hbd : ∀ w', Grow w w' → Blk w' gb 32 cs := fun w' h => hbk.mod h (fun h => h)
  refine enter Tryz.func83 rfl rfl rfl _ (Pick.sub (l := [0, 1, 2]) (.cons rfl (.cons rfl (.cons rfl .nil)))) ?_
  refine RK.seq ?_
  refine RK.region ?_
  refine RL.p rfl rfl ?_
  refine RL.done ?_
  refine RK.seq ?_
  refine RK.region ?_
  iterate 4 refine RL.p rfl rfl ?_
  refine RL.q (.free rfl) rfl rfl (Yld.lenSl u58 rfl) ?_
  refine RL.q (.free rfl) rfl rfl (Yld.slice3 u58 i32 (lo := i) (hi := i + 1) (mx := al.length) rfl rfl rfl rfl (by omega) (by omega) hkc) ?_
  refine RL.done ?_
  iterate 2 refine RK.seq ?_
  refine RK.region ?_
  iterate 3 refine RL.p rfl rfl ?_
  refine RL.done ?_
  refine RK.condF (hcF rfl (decide_eq_false (by omega))) ?_
  refine RK.skip ?_
  refine RK.seq ?_
  refine RK.region ?_
  refine RL.p rfl rfl ?_
  refine RL.q (.free rfl) rfl rfl (Yld.lenSl u58 rfl) ?_
  refine RL.p rfl rfl ?_
  refine RL.done ?_
  refine RK.seq ?_
  refine RK.drawM (· = gb) [(0, false), (1, false), (2, false), (3, false), (4, false), (5, false), (6, true), (7, false)] [] mixed (by kernel_rfl) ?_
  iterate 2 refine DL.p rfl rfl rfl ?_
  refine DL.qf rfl (.free rfl) rfl rfl (Yld.sliceHi u58 i32 (m := i) rfl rfl (by omega)) ?_
  iterate 2 refine DL.p rfl rfl rfl ?_
  refine DL.qf rfl (.free rfl) rfl rfl (Yld.sliceFrom u58 i32 (m := i + 1) rfl rfl (by omega)) ?_
  refine DL.op rfl (.free rfl) rfl rfl (Does.appendIn u58 i32 (m := al.length - (i + 1)) rfl rfl (hbd _ (Mod.drew No _)) hl (Sl.ofBlk (hbd _ (Mod.drew No _)) hl (by omega) (fun h => h) (by omega)) hone (by omega)) ?_
  rintro _ w3 ⟨rfl, ⟨cs3, hb3, hl3, ht3⟩, hm3, hs3⟩
  refine ⟨(Mod.drew _ _).trans hm3, ?_⟩
  refine DL.p rfl rfl rfl ?_
  refine DL.done ?_
  refine RK.seq ?_
  refine RK.region ?_
  iterate 2 refine RL.p rfl rfl ?_
  refine RL.q (.free rfl) rfl rfl (Yld.lenSl u58 rfl) ?_
  refine RL.p rfl rfl ?_
  refine RL.q (.free rfl) rfl rfl (Yld.sliceLH u58 i32 (lo := i + (al.length - (i + 1))) (hi := al.length) rfl rfl rfl (by omega) (by omega)) ?_
  refine RL.op' (.free rfl) rfl (Does.clear u58 i32 (cap := cp) (lo := i + (al.length - (i + 1))) (m := al.length - (i + (al.length - (i + 1)))) rfl (by simp [Value.cells, Value.oneCell']) rfl hb3 (by rw [hl3, hl]) (by omega)) ?_
  rintro _ w4 ⟨⟨cs4, hb4, hl4, ht4⟩, hm4, hs4⟩
  refine RL.done ?_
  refine RK.seq ?_
  refine RK.region ?_
  iterate 2 refine RL.p rfl rfl ?_
  refine RL.done ?_
  refine RK.ret_of Tryz.func83 (res1 rfl rfl) ?_ _
  exact ⟨_, rfl, by
      rw [ht3, hpre, hnews, herase] at ht4
      rw [← ht4, hlen]
      exact Row.shut hb4 (by rw [hl4, hl3, hl]) (by omega) hcm, rfl, (((Mod.drew _ _).trans hm3).trans hm4).mono fun b _ e => congrArg some e.symm⟩
end Go.Proofs.YtffbcfcoddacmaaGreat

/- Alerts resolved, told. -/
set_option linter.unusedVariables false
set_option linter.unusedSimpArgs false
set_option maxHeartbeats 800000
set_option maxRecDepth 100000
namespace Go.Proofs.YtffbcfcoddacmaaGreat
open Go Go.X

def placeS (s : St) (id : Int) : Option Nat := s.al.findIdx? fun a => decide (a.1 = id)
def resolveS (s : St) (id : Int) : St × Int :=
  match placeS s id with
  | none => (s, 5)
  | some i => ({ s with al := s.al.eraseIdx i, out := giveS s.out id, has := cutM s.has id, rows := dropRows s.rows id ((lookM s.has id).getD []) }, 0)
theorem placeS_eq (s : St) (id : Int) (i : Nat) (hs : Ris (s.al.map (·.1))) (hlo : ∀ (t : Nat) (x : Int), t < i → (s.al.map (·.1))[t]? = some x → x < id) (hhi : ∀ (t : Nat) (x : Int), i ≤ t → (s.al.map (·.1))[t]? = some x → id ≤ x) : placeS s id = if (s.al.map (·.1))[i]? = some id then some i else none := by
  have hget : ∀ t (ht : t < s.al.length), (s.al.map (·.1))[t]? = some s.al[t].1 := fun t ht => by rw [List.getElem?_map, List.getElem?_eq_getElem ht]; rfl
  unfold placeS
  split
  · rename_i he
    have hil : i < s.al.length := by simpa using (List.getElem?_eq_some_iff.1 he).1
    rw [List.findIdx?_eq_some_iff_getElem]
    refine ⟨hil, ?_, fun j hj => ?_⟩
    · rw [hget i hil] at he
      simpa using he
    · have := hlo j _ hj (hget j (by omega))
      simp only [decide_eq_true_eq]
      omega
  · rename_i he
    rw [List.findIdx?_eq_none_iff]
    intro x hx
    obtain ⟨t, ht, rfl⟩ := List.getElem_of_mem hx
    simp only [decide_eq_false_iff_not]
    intro e
    rcases Nat.lt_trichotomy t i with h1 | h1 | h1
    · have := hlo t _ h1 (hget t ht); omega
    · subst h1; exact he (by rw [hget t ht, e])
    · have h2 := hhi i _ (Nat.le_refl _) (hget i (by omega))
      have h3 := List.pairwise_iff_getElem.1 hs i t (by simp; omega) (by simp; omega) h1
      simp only [List.getElem_map] at h3
      omega
theorem find_ok (w : World) (p : Nat) (s : St) (M : Nat → Prop) (q ix mh mr : Nat) (vo vl : Value) (al : List Al) (h : SA w p s M q ix mh mr vo vl al) (hs : Ris (s.al.map (·.1))) (hb : s.al.length ≤ 1000000) (id : Int) :
    Fx Tryz.prog 81 [pp p, .int .i64 id] w (fun u w' => (∃ i : Nat, i ≤ al.length ∧ u = .tuple #[.int .i64 i, .bool (placeS s id).isSome] ∧ (∀ j, placeS s id = some j → j = i ∧ i < al.length)) ∧ Grow w w') := by
  have hal : al.map (·.id) = s.al.map (·.1) := by rw [← h.als]; simp [pub]
  have hlen : al.length = s.al.length := by rw [← h.als]; simp
  obtain ⟨ad, c, rfl⟩ := h.row.slice
  have hcall := bsFunc_ok al id _ w (Sl.own h.row (fun _ _ h => h)) (fun a ha => by obtain ⟨ad, c, e⟩ := (h.sls a ha).shape; exact ⟨ad, _, c, e⟩) (by rw [hal]; exact hs) (by omega)
  refine enter Tryz.func81 rfl rfl rfl _ (Pick.sub (l := [0, 1]) (.cons rfl (.cons rfl .nil))) ?_
  refine RK.seq ?_
  refine RK.region ?_
  iterate 2 refine RL.p rfl rfl ?_
  refine RL.done ?_
  refine RK.seq ?_
  refine RK.region ?_
  iterate 2 refine RL.p rfl rfl ?_
  refine RL.q (.free rfl) rfl rfl (Yld.fieldAddr fo124_2 rfl) ?_
  refine RL.q (.free rfl) rfl rfl (Yld.load p58 rfl (at1 (h.blk.cell rfl))) ?_
  refine RL.p rfl rfl ?_
  refine RL.op (.free rfl) rfl rfl (Does.call rfl e126 (hcall)) ?_
  rintro _ w2 ⟨⟨i, hi, hlo, hhi, rfl⟩, hg2⟩
  have hp := placeS_eq s id i hs (fun t x ht hx => by
      rw [← hal, List.getElem?_map] at hx
      cases ha : al[t]? with
      | none => rw [ha] at hx; cases hx
      | some a => rw [ha] at hx; cases hx; exact hlo t a ht ha) (fun t x ht hx => by
      rw [← hal, List.getElem?_map] at hx
      cases ha : al[t]? with
      | none => rw [ha] at hx; cases hx
      | some a => rw [ha] at hx; cases hx; exact hhi t a ht ha)
  rw [hal]
  iterate 4 refine RL.p rfl rfl ?_
  refine RL.done ?_
  refine RK.ret_of Tryz.func81 (res2 rfl rfl rfl) ?_ _
  exact ⟨_, rfl, ⟨i, hi, by
      rw [hp]
      by_cases he : (s.al.map (·.1))[i]? = some id
      · rw [if_pos he, he]; simp
      · rw [if_neg he, beq_eq_false_iff_ne.2 he]; rfl
    , fun j hj => by
      rw [hp] at hj
      split at hj
      · rename_i he
        cases hj
        have := (List.getElem?_eq_some_iff.1 he).1
        exact ⟨rfl, by rw [hlen]; simpa using this⟩
      · cases hj
    ⟩, hg2⟩
theorem resolveX_ok (w : World) (p : Nat) (s : St) (O M : Nat → Prop) (h : StoreX O M w p s) (hs : Ris (s.al.map (·.1))) (ho : Ris s.out) (hb : s.al.length ≤ 1000000) (hbo : s.out.length ≤ 1000000) (hrows : ∀ t ∈ s.rows, t.2.length ≤ 1000000000000) (id : Int) :
    Fx Tryz.prog 24 [pp p, .int .i64 id] w (fun u w' => ∃ O', u = .int .i64 (resolveS s id).2 ∧ StoreX O' (fun b => M b ∨ O' b) w' p (resolveS s id).1 ∧ Mod O w w' ∧ ∀ b, O' b → O b ∨ w.heap.size ≤ b) := by
  have hself := h
  have hOM : ∀ b, O b → M b := fun b e => h.sub e
  obtain ⟨q, ix, mh, mr, vo, vl, al, hO, h⟩ := h
  have hlen : al.length = s.al.length := by rw [← h.als]; simp
  have hfind := find_ok w p s M q ix mh mr vo vl al h hs hb id
  cases hpl : placeS s id with
  | none =>
    have e : resolveS s id = (s, 5) := by unfold resolveS; rw [hpl]
    rw [hpl] at hfind
    rw [e]
    refine enter Tryz.func24 rfl rfl rfl _ (Pick.sub (l := [0, 1]) (.cons rfl (.cons rfl .nil))) ?_
    refine RK.seq ?_
    refine RK.region ?_
    refine RL.p rfl rfl ?_
    refine RL.done ?_
    refine RK.seq ?_
    refine RK.region ?_
    iterate 2 refine RL.p rfl rfl ?_
    refine RL.op (.free rfl) rfl rfl (Does.call rfl e81 (hfind)) ?_
    rintro _ w2 ⟨⟨i, hi, rfl, _⟩, hg2⟩
    iterate 5 refine RL.p rfl rfl ?_
    refine RL.done ?_
    iterate 2 refine RK.seq ?_
    refine RK.region ?_
    iterate 2 refine RL.p rfl rfl ?_
    refine RL.done ?_
    refine RK.condT (hcT rfl (rfl)) ?_
    refine RK.seq ?_
    refine RK.region ?_
    refine RL.p rfl rfl ?_
    refine RL.done ?_
    refine RK.ret_of Tryz.func24 (res1 rfl rfl) ?_ _
    exact ⟨_, rfl, O, rfl, (hself.grow hg2).off (fun b e => .inr e) (fun b e => e.elim (fun h => h) (hOM b)), Mod.any' hg2, fun b hb => .inl hb⟩
  | some j =>
    have e : resolveS s id = ({ s with al := s.al.eraseIdx j, out := giveS s.out id, has := cutM s.has id, rows := dropRows s.rows id ((lookM s.has id).getD []) }, 0) := by unfold resolveS; rw [hpl]
    rw [hpl] at hfind
    rw [e]
    obtain ⟨ad, c, rfl⟩ := h.row.slice
    have hsh : ∀ a ∈ al, ∃ ad n c, a.v = .slice ad n c := fun a ha => by obtain ⟨ad, c, e⟩ := (h.sls a ha).shape; exact ⟨ad, _, c, e⟩
    obtain ⟨hp1, hp2, hp3, hp4, hp5⟩ := apart4 h.blk h.pool h.idx h.row
    have hOp : O p := (hO p).2 (.inl rfl)
    have hOq : O q := (hO q).2 (.inr (.inl rfl))
    have hOh : O mh := (hO mh).2 (.inr (.inr (.inl rfl)))
    have hOr : O mr := (hO mr).2 (.inr (.inr (.inr (.inl rfl))))
    have hOx : O ix := (hO ix).2 (.inr (.inr (.inr (.inr (.inr (.inr rfl))))))
    have hOo : ∀ b, vo.ownBlock = some b → O b := fun b e => (hO b).2 (.inr (.inr (.inr (.inr (.inl e)))))
    have hOl : ∀ b, (Value.slice ad al.length c).ownBlock = some b → O b := fun b e => (hO b).2 (.inr (.inr (.inr (.inr (.inr (.inl e))))))
    have hMp := hOM p hOp
    have hMq := hOM q hOq
    have hMh := hOM mh hOh
    have hMr := hOM mr hOr
    have hMl : ∀ b, (Value.slice ad al.length c).ownBlock = some b → M b := fun b e => hOM b (hOl b e)
    have hMlt : ∀ b, M b → b < w.heap.size := fun b hb => h.lt hb
    refine enter Tryz.func24 rfl rfl rfl _ (Pick.sub (l := [0, 1]) (.cons rfl (.cons rfl .nil))) ?_
    refine RK.seq ?_
    refine RK.region ?_
    refine RL.p rfl rfl ?_
    refine RL.done ?_
    refine RK.seq ?_
    refine RK.region ?_
    iterate 2 refine RL.p rfl rfl ?_
    refine RL.op (.free rfl) rfl rfl (Does.call rfl e81 (hfind)) ?_
    rintro _ w2 ⟨⟨i, hi, rfl, hij⟩, hg2⟩
    obtain ⟨rfl, hil⟩ := hij j rfl
    iterate 5 refine RL.p rfl rfl ?_
    refine RL.done ?_
    iterate 2 refine RK.seq ?_
    refine RK.region ?_
    iterate 2 refine RL.p rfl rfl ?_
    refine RL.done ?_
    refine RK.condF (hcF rfl (rfl)) ?_
    refine RK.skip ?_
    refine RK.seq ?_
    refine RK.region ?_
    iterate 3 refine RL.p rfl rfl ?_
    refine RL.q (.free rfl) rfl rfl (Yld.fieldAddr fo124_2 rfl) ?_
    refine RL.q (.free rfl) rfl rfl (Yld.load p58 rfl (at1 ((h.blk.mod hg2 (fun h => h)).cell rfl))) ?_
    iterate 3 refine RL.p rfl rfl ?_
    refine RL.re (d := 22) rfl rfl (succ_i64 (by omega)) ?_
    refine RL.op (.free rfl) rfl rfl (Does.call rfl e83 (deleteA_ok al j _ _ (h.row.mod hg2 (fun _ _ h => h)) hsh hil (by omega))) ?_
    rintro u3 w3 ⟨hr3, hu3, hm3⟩
    have hm03 : Mod O w w3 := (Mod.any' hg2).trans (hm3.mono fun b _ e => hOl b e)
    have hB3 := (h.blk.mod hg2 (fun h => h)).mod hm3 (fun e => (hp5 p e).1 rfl)
    obtain ⟨ad3, c3, rfl⟩ := hr3.slice
    refine RL.p rfl rfl ?_
    refine RL.q (.free rfl) rfl rfl (Yld.fieldAddr fo124_2 rfl) ?_
    refine RL.op' (.free rfl) rfl (Does.store i58 rfl rfl rfl hB3 (.s (.s .z))) ?_
    rintro _ w4 ⟨hb4, hm4, hs4⟩
    have hm24 : Mod (fun b => (Value.slice ad al.length c).ownBlock = some b ∨ b = p) w2 w4 := (hm3.mono fun b _ e => .inl e).trans (hm4.mono fun b _ e => .inr e)
    have hm04 : Mod O w w4 := hm03.trans (hm4.mono fun b _ e => e ▸ hOp)
    have hI4 : IdxAt M w4 ix mh mr s.has s.rows := (h.idx.mod hg2 (fun _ _ h => h.elim) (fun h => h) (fun h => h) (fun h => h)).mod hm24 (fun b _ e => by rcases e with e | rfl; exact hMl b e; exact hMp) (by rintro (e | e); exact (hp5 ix e).2.2.1 rfl; exact hp1.2.1 e.symm) (by rintro (e | e); exact (hp5 mh e).2.2.2.1 rfl; exact hp1.2.2.1 e.symm) (by rintro (e | e); exact (hp5 mr e).2.2.2.2 rfl; exact hp1.2.2.2 e.symm)
    have hP4 : PoolAt w4 q s.most s.last s.out vo := (PoolAt.mod h.pool hg2 (fun h => h) (fun _ _ h => h)).mod hm24 (by rintro (e | e); exact (hp5 q e).2.1 rfl; exact hp1.1 e.symm) (fun b e => by rintro (e2 | e2); exact (hp4 b e).2.2.2.2.2 e2; exact (hp4 b e).1 e2)
    have hR4 : Row w4 32 3 (.slice ad3 (al.eraseIdx j).length c3) (al.eraseIdx j).length ((al.eraseIdx j).flatMap alC) := hr3.mod hm4 (fun b e e2 => (hp5 b (hu3 ▸ e)).1 e2)
    refine RL.done ?_
    refine RK.seq ?_
    refine RK.region ?_
    iterate 2 refine RL.p rfl rfl ?_
    refine RL.q (.free rfl) rfl rfl (Yld.fieldAddr fo124_1 rfl) ?_
    refine RL.q (.free rfl) rfl rfl (Yld.load p42 rfl (at1 (hb4.cell rfl))) ?_
    refine RL.p rfl rfl ?_
    refine RL.op (.free rfl) rfl rfl (Does.call rfl e52 (drop_ok M _ ix mh mr _ _ hI4 hMh hMr (fun b hb => by have := hMlt b hb; have := hm04.size; omega) id hrows)) ?_
    rintro _ w5 ⟨rfl, hI5, hm5⟩
    have hB5 := hb4.mod hm5 (by rintro (e | e); exact hp1.2.2.1 e; exact hp1.2.2.2 e)
    have hP5 := hP4.mod hm5 (by rintro (e | e); exact hp2.2.1 e; exact hp2.2.2 e) (fun b e => by rintro (e2 | e2); exact (hp4 b e).2.2.2.1 e2; exact (hp4 b e).2.2.2.2.1 e2)
    have hR5 := hR4.mod hm5 (fun b e => by rintro (e2 | e2); exact (hp5 b (hu3 ▸ e)).2.2.2.1 e2; exact (hp5 b (hu3 ▸ e)).2.2.2.2 e2)
    have hm05 : Mod O w w5 := hm04.trans (hm5.mono fun b _ e => by rcases e with rfl | rfl; exact hOh; exact hOr)
    refine RL.done ?_
    refine RK.seq ?_
    refine RK.region ?_
    iterate 2 refine RL.p rfl rfl ?_
    refine RL.q (.free rfl) rfl rfl (Yld.fieldAddr fo124_0 rfl) ?_
    refine RL.q (.free rfl) rfl rfl (Yld.load p121 rfl (at1 (hB5.cell rfl))) ?_
    refine RL.p rfl rfl ?_
    refine RL.op (.free rfl) rfl rfl (Does.call rfl e84 (give_ok _ q _ _ _ vo id hP5 ho hbo)) ?_
    rintro _ w6 ⟨rfl, vo', hP6, hm6, hvo'⟩
    have hs05 := hm05.size
    have hB6 := hB5.mod hm6 (fun e => hp1.1 e)
    have hR6 := hR5.mod hm6 (fun b e e2 => (hp5 b (hu3 ▸ e)).2.1 e2)
    have hm06 : Mod O w w6 := hm05.trans (hm6.mono fun b _ e => e ▸ hOq)
    have hown : ∀ b, own p q ix mh mr vo' (.slice ad3 (al.eraseIdx j).length c3) b → O b ∨ w5.heap.size ≤ b := fun b hb => by
        rcases hb with rfl | rfl | rfl | rfl | e | e | rfl
        · exact .inl hOp
        · exact .inl hOq
        · exact .inl hOh
        · exact .inl hOr
        · rcases hvo' b e with h1 | h1
          · exact .inl (hOo b h1)
          · exact .inr h1
        · exact .inl (hOl b (hu3 ▸ e))
        · exact .inl hOx
    have hoff : ∀ b, b < w5.heap.size → (M b ∨ own p q ix mh mr vo' (.slice ad3 (al.eraseIdx j).length c3) b) → M b := fun b hb e => by
        rcases e with e | e
        · exact e
        · rcases hown b e with h1 | h1
          · exact hOM b h1
          · omega
    have hI6 := (hI5.off hoff).mod hm6 (fun b _ e => e ▸ .inr (.inr (.inl rfl))) (fun e => hp2.1 e.symm) (fun e => hp2.2.1 e.symm) (fun e => hp2.2.2 e.symm)
    have hlt6 : ∀ b, (M b ∨ own p q ix mh mr vo' (.slice ad3 (al.eraseIdx j).length c3) b) → b < w6.heap.size := fun b hb => by
        rcases hb with e | e
        · have h1 := hMlt b e; have h2 := hm06.size; omega
        · exact own_lt hB6 hP6 hI6 hR6 b e
    refine RL.done ?_
    refine RK.seq ?_
    refine RK.region ?_
    refine RL.p rfl rfl ?_
    refine RL.done ?_
    refine RK.ret_of Tryz.func24 (res1 rfl rfl) ?_ _
    exact ⟨_, rfl, own p q ix mh mr vo' (.slice ad3 (al.eraseIdx j).length c3), rfl, ⟨q, ix, mh, mr, vo', _, al.eraseIdx j, fun _ => Iff.rfl, ⟨hB6, hP6, hI6, hR6, by rw [map_eraseIdx', h.als], fun a ha => (((h.sls a (List.mem_of_mem_eraseIdx ha)).mod (hm05.mono fun b _ e => hOM b e)).off (by omega) hoff).mod (hm6.mono fun b _ e => e ▸ .inr (.inr (.inl rfl))), fun _ e => .inr e, hlt6⟩⟩, hm06, fun b hb => by
        rcases hown b hb with h1 | h1
        · exact .inl h1
        · exact .inr (by omega)
      ⟩
theorem resolve_ok (w : World) (p : Nat) (s : St) (M : Nat → Prop) (h : StoreAt w p s M) (hs : Ris (s.al.map (·.1))) (ho : Ris s.out) (hb : s.al.length ≤ 1000000) (hbo : s.out.length ≤ 1000000) (hrows : ∀ t ∈ s.rows, t.2.length ≤ 1000000000000) (id : Int) :
    Fx Tryz.prog 24 [pp p, .int .i64 id] w (fun u w' => ∃ M', u = .int .i64 (resolveS s id).2 ∧ StoreAt w' p (resolveS s id).1 M' ∧ Mod M w w' ∧ ∀ b, M' b → M b ∨ w.heap.size ≤ b) :=
  Fx.mono (resolveX_ok w p s M M h hs ho hb hbo hrows id) fun u w' ⟨M', h1, h2, h3, h4⟩ => ⟨M', h1, h2.at_, h3, h4⟩
end Go.Proofs.YtffbcfcoddacmaaGreat

/- Alerts told. -/
set_option linter.unusedVariables false
set_option linter.unusedSimpArgs false
set_option maxHeartbeats 800000
set_option maxRecDepth 100000
namespace Go.Proofs.YtffbcfcoddacmaaGreat
open Go Go.X

theorem told_ok (M : Nat → Prop) (a : Al) (w : World) (ha : SlL M w a.v a.ls) (hb : a.ls.length ≤ 1000) :
    Fx Tryz.prog 82 [.agg #[.int .i64 a.id, a.v, .float .f64 a.val]] w (fun u w' => ∃ ad c, u = .agg #[.int .i64 a.id, .slice ad a.ls.length c, .float .f64 a.val] ∧ Row w' 46 2 (.slice ad a.ls.length c) a.ls.length (a.ls.flatMap labC) ∧ Fresh w.heap.size (.slice ad a.ls.length c) ∧ Grow w w') := by
  obtain ⟨ad, c, hva⟩ := ha.shape
  obtain ⟨aid, als, val, va⟩ := a
  simp only at hva ha hb
  subst hva
  refine enter Tryz.func82 rfl rfl rfl _ (Pick.sub (l := [0]) (.cons rfl .nil)) ?_
  refine RK.seq ?_
  refine RK.region ?_
  refine RL.op (.free rfl) rfl rfl (Does.box rfl) ?_
  rintro _ w1 ⟨b1, rfl, hn1⟩
  refine RL.op (.free rfl) rfl rfl (Does.alloc i32) ?_
  rintro _ w2 ⟨b2, rfl, hn2⟩
  have hg02 := hn1.grow.trans hn2.grow
  have h11 := hn1.at_
  have h12 := hn1.size
  have h21 := hn2.at_
  have h22 := hn2.size
  refine RL.done ?_
  refine RK.seq ?_
  refine RK.region ?_
  refine RL.q (.free rfl) rfl rfl (Yld.fieldAddr fo32_1 rfl) ?_
  refine RL.q (.free rfl) rfl rfl (Yld.load p26 rfl (at1 ((hn1.blk.mod hn2.grow (fun h => h)).cell rfl))) ?_
  refine RL.op (.free rfl) rfl rfl (Does.call rfl e80 (cloneL_ok M als _ _ (ha.mod (Mod.any' hg02)) hb)) ?_
  rintro u3 w3 ⟨hr3, hf3, hg3⟩
  obtain ⟨ad3, c3, rfl⟩ := hr3.slice
  refine RL.q (.free rfl) rfl rfl (Yld.fieldAddr fo32_1 rfl) ?_
  refine RL.op' (.free rfl) rfl (Does.store i26 rfl rfl rfl (hn1.blk.mod (hn2.grow.trans hg3) (fun h => h)) (.s .z)) ?_
  rintro _ w4 ⟨hb4, hm4, hs4⟩
  refine RL.done ?_
  refine RK.seq ?_
  refine RK.region ?_
  refine RL.q (.free rfl) rfl rfl (Yld.loadN (cs := [.int .i64 aid, .slice ad3 als.length c3, .float .f64 val]) a32 rfl (atN (fun j u hj => by rw [Nat.zero_add]; exact Blk.cell' hb4 hj))) ?_
  refine RL.op' (.free rfl) rfl (Does.storeN i32 rfl rfl rfl rfl ((hn2.blk.mod hg3 (fun h => h)).mod hm4 (by omega)) (Nat.le_refl 3)) ?_
  rintro _ w5 ⟨hb5, hm5, _⟩
  refine RL.done ?_
  refine RK.ret_of Tryz.func82 (resC (cs := [.int .i64 aid, .slice ad3 als.length c3, .float .f64 val]) rfl rfl a32 hb5) ?_ _
  exact ⟨_, rfl, ad3, c3, rfl, (hr3.mod hm4 (fun b e e2 => by have e2' : b = b1 := e2; have := hf3 b e; omega)).mod hm5 (fun b e e2 => by have e2' : b = b2 := e2; have := hf3 b e; omega), fun b e => by have := hf3 b e; omega, ((hg02.trans hg3).then hm4 (fun b hb e => by have e' : b = b1 := e; omega)).then hm5 (fun b hb e => by have e' : b = b2 := e; omega)⟩
def getS (s : St) (id : Int) : Option (Int × List Lab × Nat) := (placeS s id).bind fun i => s.al[i]?
theorem get_ok (w : World) (p : Nat) (s : St) (M : Nat → Prop) (h : StoreAt w p s M) (hs : Ris (s.al.map (·.1))) (hb : s.al.length ≤ 1000000) (hl : ∀ a ∈ s.al, a.2.1.length ≤ 1000) (id : Int) :
    Fx Tryz.prog 19 [pp p, .int .i64 id] w (fun u w' => ∃ ad c, u = .tuple #[.agg #[.int .i64 ((getS s id).getD (0, [], 0)).1, .slice ad ((getS s id).getD (0, [], 0)).2.1.length c, .float .f64 ((getS s id).getD (0, [], 0)).2.2], .bool (getS s id).isSome] ∧ Row w' 46 2 (.slice ad ((getS s id).getD (0, [], 0)).2.1.length c) ((getS s id).getD (0, [], 0)).2.1.length (((getS s id).getD (0, [], 0)).2.1.flatMap labC) ∧ Grow w w') := by
  obtain ⟨q, ix, mh, mr, vo, vl, al, hO, h⟩ := h
  have hlen : al.length = s.al.length := by rw [← h.als]; simp
  cases hpl : placeS s id with
  | none =>
    have e : getS s id = none := by unfold getS; rw [hpl]; rfl
    rw [e]
    refine enter Tryz.func19 rfl rfl rfl _ (Pick.sub (l := [0, 1]) (.cons rfl (.cons rfl .nil))) ?_
    refine RK.seq ?_
    refine RK.region ?_
    refine RL.op (.free rfl) rfl rfl (Does.alloc i32) ?_
    rintro _ w1 ⟨b1, rfl, hn1⟩
    have hfind := find_ok w1 p s M q ix mh mr vo vl al (h.grow hn1.grow) hs hb id
    rw [hpl] at hfind
    refine RL.p rfl rfl ?_
    refine RL.done ?_
    refine RK.seq ?_
    refine RK.region ?_
    iterate 2 refine RL.p rfl rfl ?_
    refine RL.op (.free rfl) rfl rfl (Does.call rfl e81 (hfind)) ?_
    rintro _ w2 ⟨⟨i, hi, rfl, _⟩, hg2⟩
    iterate 5 refine RL.p rfl rfl ?_
    refine RL.done ?_
    iterate 2 refine RK.seq ?_
    refine RK.region ?_
    iterate 2 refine RL.p rfl rfl ?_
    refine RL.done ?_
    refine RK.condT (hcT rfl (rfl)) ?_
    refine RK.seq ?_
    refine RK.region ?_
    refine RL.q (.free rfl) rfl rfl (Yld.build (v := .agg #[.int .i64 0, .slice none 0 0, .float .f64 0]) rfl (fun w => by kernel_rfl)) ?_
    refine RL.op' (.free rfl) rfl (Does.storeN i32 rfl rfl rfl rfl (hn1.blk.mod hg2 (fun h => h)) (Nat.le_refl 3)) ?_
    rintro _ w5 ⟨hb5, hm5, _⟩
    refine RL.p rfl rfl ?_
    refine RL.done ?_
    refine RK.ret_of Tryz.func19 (resCT (cs := [.int .i64 0, .slice none 0 0, .float .f64 0]) rfl rfl a32 hb5 rfl) ?_ _
    exact ⟨_, rfl, none, 0, rfl, Row.nil _ _ _, (hn1.grow.trans hg2).then hm5 (fun b hb e => by have e' : b = b1 := e; have := hn1.at_; omega)⟩
  | some j =>
    obtain ⟨ad, c, rfl⟩ := h.row.slice
    refine enter Tryz.func19 rfl rfl rfl _ (Pick.sub (l := [0, 1]) (.cons rfl (.cons rfl .nil))) ?_
    refine RK.seq ?_
    refine RK.region ?_
    refine RL.op (.free rfl) rfl rfl (Does.alloc i32) ?_
    rintro _ w1 ⟨b1, rfl, hn1⟩
    have hfind := find_ok w1 p s M q ix mh mr vo _ al (h.grow hn1.grow) hs hb id
    rw [hpl] at hfind
    refine RL.p rfl rfl ?_
    refine RL.done ?_
    refine RK.seq ?_
    refine RK.region ?_
    iterate 2 refine RL.p rfl rfl ?_
    refine RL.op (.free rfl) rfl rfl (Does.call rfl e81 (hfind)) ?_
    rintro _ w2 ⟨⟨i, hi, rfl, hij⟩, hg2⟩
    obtain ⟨rfl, hil⟩ := hij j rfl
    obtain ⟨a, hx⟩ : ∃ a, al[j]? = some a := ⟨al[j]'hil, List.getElem?_eq_getElem hil⟩
    have hsx : s.al[j]? = some (a.id, a.ls, a.val) := by rw [← h.als, List.getElem?_map, hx]; rfl
    have e : getS s id = some (a.id, a.ls, a.val) := by unfold getS; rw [hpl]; exact hsx
    rw [e]
    have hg02 := hn1.grow.trans hg2
    obtain ⟨ad', o1, c1', he1, _, _, hc1⟩ := (Sl.own (M := No) h.row (fun _ _ h => h)).elem alC_len hx
    cases he1
    have hsl := h.sls a (List.mem_of_getElem? hx)
    iterate 5 refine RL.p rfl rfl ?_
    refine RL.done ?_
    iterate 2 refine RK.seq ?_
    refine RK.region ?_
    iterate 2 refine RL.p rfl rfl ?_
    refine RL.done ?_
    refine RK.condF (hcF rfl (rfl)) ?_
    refine RK.skip ?_
    refine RK.seq ?_
    refine RK.region ?_
    iterate 2 refine RL.p rfl rfl ?_
    refine RL.q (.free rfl) rfl rfl (Yld.fieldAddr fo124_2 rfl) ?_
    refine RL.q (.free rfl) rfl rfl (Yld.load p58 rfl (at1 ((h.blk.mod hg02 (fun h => h)).cell rfl))) ?_
    refine RL.p rfl rfl ?_
    refine RL.q (.free rfl) rfl rfl (Yld.indexAddrN u58 i32 rfl rfl (hil)) ?_
    refine RL.q (.free rfl) rfl rfl (Yld.loadN (cs := [.int .i64 a.id, a.v, .float .f64 a.val]) a32 rfl (atN (fun q u hq => hg02.cell (hc1 q u hq) (fun h => h)))) ?_
    refine RL.op (.free rfl) rfl rfl (Does.call rfl e82 (told_ok M a _ (hsl.mod (Mod.any' hg02)) (hl _ (List.mem_of_getElem? hsx)))) ?_
    rintro _ w3 ⟨ad3, c3, rfl, hr3, hf3, hg3⟩
    refine RL.op' (.free rfl) rfl (Does.storeN i32 rfl rfl rfl rfl (hn1.blk.mod (hg2.trans hg3) (fun h => h)) (Nat.le_refl 3)) ?_
    rintro _ w5 ⟨hb5, hm5, _⟩
    refine RL.p rfl rfl ?_
    refine RL.done ?_
    refine RK.ret_of Tryz.func19 (resCT (cs := [.int .i64 a.id, .slice ad3 a.ls.length c3, .float .f64 a.val]) rfl rfl a32 hb5 rfl) ?_ _
    exact ⟨_, rfl, ad3, c3, rfl, hr3.mod hm5 (fun b e e2 => by have e2' : b = b1 := e2; have := hf3 b e; have := hg2.size; have := hn1.at_; have := hn1.size; omega), (hg02.trans hg3).then hm5 (fun b hb e => by have e' : b = b1 := e; have := hn1.at_; omega)⟩
theorem all_ok (w : World) (p : Nat) (s : St) (M : Nat → Prop) (h : StoreAt w p s M) (hb : s.al.length ≤ 1000000) (hl : ∀ a ∈ s.al, a.2.1.length ≤ 1000) :
    Fx Tryz.prog 36 [pp p] w (fun u w' => ∃ al' : List Al, Row w' 32 3 u al'.length (al'.flatMap alC) ∧ al'.map pub = s.al ∧ (∀ a ∈ al', SlL No w' a.v a.ls) ∧ Grow w w') := by
  obtain ⟨q, ix, mh, mr, vo, vl, al, hO, h⟩ := h
  have hlen : al.length = s.al.length := by rw [← h.als]; simp
  have hsl := Sl.own (M := No) h.row (fun _ _ h => h)
  obtain ⟨ad, c, rfl⟩ := h.row.slice
  refine enter Tryz.func36 rfl rfl rfl _ (Pick.sub (l := [0]) (.cons rfl .nil)) ?_
  refine RK.seq ?_
  refine RK.region ?_
  refine RL.p rfl rfl ?_
  refine RL.done ?_
  refine RK.seq ?_
  refine RK.region ?_
  refine RL.p rfl rfl ?_
  refine RL.done ?_
  iterate 2 refine RK.seq ?_
  refine RK.region ?_
  iterate 2 refine RL.p rfl rfl ?_
  refine RL.q (.free rfl) rfl rfl (Yld.fieldAddr fo124_2 rfl) ?_
  refine RL.q (.free rfl) rfl rfl (Yld.load p58 rfl (at1 (h.blk.cell rfl))) ?_
  refine RL.q (.free rfl) rfl rfl (Yld.lenSl u58 rfl) ?_
  refine RL.p rfl rfl ?_
  refine RL.done ?_
  refine RK.block ?_
  refine RK.loop (fun s : Nat × Value => [(9, .slice ad al.length c), (10, .int .i64 al.length), (11, .int .i64 (s.1 : Int)), (3, s.2)]) (fun s w' => (∃ al' : List Al, al'.length = s.1 ∧ Row w' 32 3 s.2 s.1 (al'.flatMap alC) ∧ al'.map pub = (al.take s.1).map pub ∧ ∀ a ∈ al', SlL (fun b => s.2.ownBlock = some b) w' a.v a.ls) ∧ Fresh w.heap.size s.2 ∧ Grow w w' ∧ s.1 ≤ al.length) (fun s => al.length - s.1) (0, .slice none 0 0) ⟨rfl, rfl, rfl, rfl, trivial⟩ ⟨⟨[], rfl, Row.nil _ _ _, rfl, by simp⟩, fun b hb => by simp [Value.ownBlock] at hb, Mod.refl _ _, by simp⟩ (fun s w' hI ih => ?_)
  obtain ⟨k, u⟩ := s
  obtain ⟨⟨al', hl', hr, hpub, hsls⟩, hf, hg, hk⟩ := hI
  simp only at hl' hr hpub hsls hf hk
  refine RK.seq ?_
  refine RK.region ?_
  refine RL.p rfl rfl ?_
  refine RL.done ?_
  refine RK.seq ?_
  first | refine RK.condD rfl (fun h12 => ?_) (fun h12 => ?_) | refine RK.condN rfl (fun h12 => ?_) (fun h12 => ?_) | refine RK.cond rfl (fun h12 => ?_) (fun h12 => ?_)
  · obtain ⟨a, hx⟩ : ∃ a, al[k]? = some a := ⟨al[k]'(by omega), List.getElem?_eq_getElem (by omega)⟩
    obtain ⟨b1, o1, c1', he1, _, _, hc1⟩ := hsl.elem alC_len hx
    cases he1
    have hsx : (a.id, a.ls, a.val) ∈ s.al := by rw [← h.als]; exact List.mem_map_of_mem (f := pub) (List.mem_of_getElem? hx)
    have hsla := h.sls a (List.mem_of_getElem? hx)
    obtain ⟨ada, ca, hva⟩ := hsla.shape
    obtain ⟨aid, als, aval, av⟩ := a
    simp only at hva hsx hsla
    subst hva
    refine RK.skip ?_
    refine RK.seq ?_
    refine RK.block ?_
    refine RK.seq ?_
    refine RK.region ?_
    refine RL.q (.free rfl) rfl rfl (Yld.indexAddrN u58 i32 rfl rfl (by omega)) ?_
    refine RL.q (.free rfl) rfl rfl (Yld.loadN (cs := [.int .i64 aid, .slice ada als.length ca, .float .f64 aval]) a32 rfl (atN (fun q u hq => hg.cell (hc1 q u hq) (fun h => h)))) ?_
    refine RL.op (.free rfl) rfl rfl (Does.alloc i32) ?_
    rintro _ w2 ⟨b2, rfl, hn2⟩
    refine RL.op' (.free rfl) rfl (Does.storeN i32 rfl rfl rfl rfl hn2.blk (Nat.le_refl 3)) ?_
    rintro _ w3 ⟨hb3, hm3, _⟩
    have hB3 : Blk w3 b2 32 [.int .i64 aid, .slice ada als.length ca, .float .f64 aval] := hb3
    have hg3 : Grow w' w3 := hn2.grow.then hm3 (fun y hy e => by have e' : y = b2 := e; have := hn2.at_; omega)
    refine RL.done ?_
    refine RK.region ?_
    refine RL.p rfl rfl ?_
    refine RL.q (.free rfl) rfl rfl (Yld.loadN (cs := [.int .i64 aid, .slice ada als.length ca, .float .f64 aval]) a32 rfl (atN (fun q u hq => by rw [Nat.zero_add]; exact hB3.cell' hq))) ?_
    refine RL.op (.free rfl) rfl rfl (Does.call rfl e82 (told_ok M ⟨aid, als, aval, .slice ada als.length ca⟩ _ (hsla.mod (Mod.any' (hg.trans hg3))) (hl _ hsx))) ?_
    rintro _ w4 ⟨ad4, c4, rfl, hr4, hf4, hg4⟩
    refine RL.op (.free rfl) rfl rfl (Does.slice1 u58 i32 rfl rfl rfl rfl rfl) ?_
    rintro _ w5 ⟨b5, rfl, hn5⟩
    have hg35 := (hg3.trans hg4).trans hn5.grow
    have hb5 : al'.length + 1 ≤ 1000001 := by omega
    refine RL.op (.free rfl) rfl rfl (Does.append u58 i32 rfl rfl rfl rfl rfl (hr.mod hg35 (fun _ _ h => h)) (Sl.new hn5 3 1 rfl (by omega) (fun h => h)) (rfl) (by omega)) ?_
    rintro u6 w6 ⟨hr6, hm6, hu6⟩
    have hs35 := hg35.size
    have hs3 := hg3.size
    have hs4 := hg4.size
    have hs5 := hn5.grow.size
    have hlt5 : ∀ b, u.ownBlock = some b → b < w'.heap.size := fun b e => hr.lt e
    have hoff : ∀ b, b < w5.heap.size → (u.ownBlock = some b ∨ u6.ownBlock = some b) → u.ownBlock = some b := fun b hb e => by
        rcases e with e | e
        · exact e
        · rcases hu6 with h1 | h1
          · rw [← h1]; exact e
          · rw [h1] at e; cases e; omega
    have hr4' := hr4.mod hn5.grow (fun _ _ h => h)
    have hslN : SlL (fun b => u.ownBlock = some b ∨ u6.ownBlock = some b) w5 (.slice ad4 als.length c4) als := Sl.own hr4' (fun b e hb => by have h1 := hr4'.lt e; have h2 := hf4 b e; have h3 := hlt5 b (hoff b h1 hb); omega)
    refine RL.p rfl rfl ?_
    refine RL.done ?_
    refine RK.inBlock ?_
    refine RK.region ?_
    refine RL.p rfl rfl ?_
    refine RL.re (d := 20) rfl rfl (succ_i64 (by omega)) ?_
    refine RL.p rfl rfl ?_
    refine RL.done ?_
    exact RK.back (ih (k + 1, u6) _ ⟨⟨al' ++ [⟨aid, als, aval, .slice ad4 als.length c4⟩], by simp [hl'], by
        have e1 : (al' ++ [(⟨aid, als, aval, .slice ad4 als.length c4⟩ : Al)]).flatMap alC = al'.flatMap alC ++ (Value.agg #[.int .i64 aid, .slice ad4 als.length c4, .float .f64 aval]).cells.toList := by simp [alC, Value.cells]
        rw [e1]; exact hr6, by
        rw [List.map_append, hpub, List.take_succ_eq_append_getElem (by omega), List.map_append, (List.getElem?_eq_some_iff.1 hx).2]
        rfl, fun a' ha' => by
        rcases List.mem_append.1 ha' with h1 | h1
        · exact ((((hsls a' h1).mod (Mod.any' hg35)).off (by omega) hoff).mod (hm6.mono fun b _ e => .inl e)).off (by omega) (fun b _ e => .inr e)
        · simp at h1; subst h1
          exact (hslN.mod (hm6.mono fun b _ e => .inl e)).off (by omega) (fun b _ e => .inr e)⟩, fun b e => by
        rcases hu6 with h1 | h1
        · exact hf b (h1 ▸ e)
        · simp only at e; rw [h1] at e; cases e; have := hg.size; omega, (hg.trans hg35).then hm6 (fun b hb e => by have := hf b e; omega), by simp only; omega⟩ (by simp only; omega)) ⟨rfl, rfl, rfl, rfl, trivial⟩
  · have ek : al.take k = al := List.take_of_length_le (by omega)
    rw [ek, h.als] at hpub
    refine RK.exit rfl ?_
    refine RK.seq ?_
    refine RK.region ?_
    iterate 2 refine RL.p rfl rfl ?_
    refine RL.done ?_
    refine RK.ret_of Tryz.func36 (res1 rfl rfl) ?_ _
    exact ⟨_, rfl, al', by rw [hl']; exact hr, hpub, fun a ha => (hsls a ha).noM, hg⟩
end Go.Proofs.YtffbcfcoddacmaaGreat

/- Stores of alerts as they are kept, whatever is posted and resolved. -/
set_option linter.unusedVariables false
set_option linter.unusedSimpArgs false
set_option maxHeartbeats 400000
set_option maxRecDepth 100000
namespace Go.Proofs.YtffbcfcoddacmaaGreat
open Go Go.X

abbrev AlS := Int × List Lab × Nat
def hasOf (al : List AlS) : List (Int × List Lab) := al.map fun a => (a.1, a.2.1)
structure Gd (s : St) : Prop where
  ids : Ris (s.al.map (·.1))
  out : s.out = s.al.map (·.1)
  has : s.has = hasOf s.al
  ix : IxI s.has s.rows
  le : ∀ a ∈ s.al, 1 ≤ a.1 ∧ a.1 ≤ s.last
  sets : ∀ a ∈ s.al, isS a.2.1 = true
theorem Gd.new (m : Int) : Gd (St.new m) := ⟨by simp [St.new], rfl, rfl, IxI.nil, by simp [St.new], by simp [St.new]⟩
theorem map_modify_same {α β : Type} (f : α → β) (g : α → α) (h : ∀ x, f (g x) = f x) (l : List α) (i : Nat) : (l.modify i g).map f = l.map f := by
  apply List.ext_getElem?
  intro j
  simp only [List.getElem?_map, List.getElem?_modify]
  cases l[j]? with
  | none => rfl
  | some x => by_cases hj : i = j <;> simp [hj, h]
theorem mem_modify_or {α : Type} {g : α → α} {l : List α} {i : Nat} {x : α} (h : x ∈ l.modify i g) : x ∈ l ∨ ∃ y ∈ l, x = g y := by
  obtain ⟨j, hj⟩ := List.getElem?_of_mem h
  simp only [List.getElem?_modify] at hj
  cases hl : l[j]? with
  | none => simp [hl] at hj
  | some y =>
    have hy := List.mem_of_getElem? hl
    simp only [hl, Option.map_some] at hj
    split at hj <;> (simp at hj; subst hj)
    · exact .inr ⟨y, hy, rfl⟩
    · exact .inl hy
theorem placeM_at {κ α : Type} [DecidableEq κ] {k : κ} {v : α} : ∀ {l : List (κ × α)} {i : Nat}, (l.map (·.1)).Nodup → l[i]? = some (k, v) → placeM k l = some (i, v)
  | [], i, _, h => by simp at h
  | (j, u) :: l, 0, _, h => by
    simp at h
    simp [placeM, h.1, h.2]
  | (j, u) :: l, i + 1, hn, h => by
    rw [List.map_cons, List.nodup_cons] at hn
    simp only [List.getElem?_cons_succ] at h
    have hne : ¬ k = j := fun e => hn.1 (by rw [← e]; exact List.mem_map.2 ⟨(k, v), List.mem_of_getElem? h, rfl⟩)
    simp [placeM, hne, placeM_at hn.2 h]
theorem Gd.fresh {s : St} (h : Gd s) : lookM s.has (s.last + 1) = none := by
  rw [lookM_none, h.has]
  intro hm
  simp only [hasOf, List.map_map, List.mem_map] at hm
  obtain ⟨a, ha, e⟩ := hm
  have := h.le a ha
  simp only [Function.comp] at e
  omega
theorem Gd.post {s : St} (h : Gd s) (h0 : 0 ≤ s.last) (ls : List Lab) (val : Nat) : Gd (postS s ls val).1 := by
  unfold postS
  by_cases his : isS ls = false
  · rw [if_pos his]; exact h
  · rw [if_neg his]
    split
    · rename_i i hi
      have e1 : (s.al.modify i fun a => (a.1, a.2.1, canS val)).map (·.1) = s.al.map (·.1) := map_modify_same (fun a : AlS => a.1) (fun a : AlS => (a.1, a.2.1, canS val)) (fun _ => rfl) _ _
      have e2 : hasOf (s.al.modify i fun a => (a.1, a.2.1, canS val)) = hasOf s.al := map_modify_same (fun a : AlS => (a.1, a.2.1)) (fun a : AlS => (a.1, a.2.1, canS val)) (fun _ => rfl) _ _
      refine ⟨by simp only; rw [e1]; exact h.ids, by simp only; rw [e1]; exact h.out, by simp only; rw [e2]; exact h.has, h.ix, fun a ha => ?_, fun a ha => ?_⟩
      · rcases mem_modify_or ha with h1 | ⟨y, hy, rfl⟩
        · exact h.le a h1
        · exact h.le y hy
      · rcases mem_modify_or ha with h1 | ⟨y, hy, rfl⟩
        · exact h.sets a h1
        · exact h.sets y hy
    · cases hf : fullS s.most s.last s.out with
      | true => simpa using h
      | false =>
        simp only [Bool.false_eq_true, if_false]
        have hfr := h.fresh
        refine ⟨?_, ?_, ?_, h.ix.add hfr ls, fun a ha => ?_, fun a ha => ?_⟩
        · rw [List.map_append]
          refine List.pairwise_append.2 ⟨h.ids, by simp, fun x hx y hy => ?_⟩
          simp at hy; subst hy
          obtain ⟨a, ha, rfl⟩ := List.mem_map.1 hx
          have := h.le a ha; omega
        · simp [h.out]
        · rw [putM_new hfr, h.has]; simp [hasOf]
        · rcases List.mem_append.1 ha with h1 | h1
          · have := h.le a h1; simp only; omega
          · simp at h1; subst h1; simp only; omega
        · rcases List.mem_append.1 ha with h1 | h1
          · exact h.sets a h1
          · simp at h1; subst h1; simpa using his
theorem place_at {s : St} (h : Gd s) {id : Int} {i : Nat} (hp : placeS s id = some i) : ∃ a, s.al[i]? = some a ∧ a.1 = id := by
  unfold placeS at hp
  obtain ⟨h1, h2, _⟩ := List.findIdx?_eq_some_iff_getElem.1 hp
  exact ⟨_, List.getElem?_eq_getElem h1, by simpa using h2⟩
theorem Gd.resolve {s : St} (h : Gd s) (id : Int) : Gd (resolveS s id).1 := by
  unfold resolveS
  split
  · exact h
  · rename_i i hp
    obtain ⟨a, ha, rfl⟩ := place_at h hp
    have hi : i < s.al.length := (List.getElem?_eq_some_iff.1 ha).1
    have hsub : (s.al.eraseIdx i).Sublist s.al := List.eraseIdx_sublist _ _
    have hids : Ris ((s.al.eraseIdx i).map (·.1)) := h.ids.sublist (hsub.map _)
    have hmem : a.1 ∈ s.out := by rw [h.out]; exact List.mem_map_of_mem (f := fun t : AlS => t.1) (List.mem_of_getElem? ha)
    have hout : giveS s.out a.1 = (s.al.eraseIdx i).map (·.1) := by
      unfold giveS
      rw [if_pos (by simpa using hmem)]
      refine ext_ris (cutRow_ris _ _) hids fun x => ?_
      rw [mem_cutRow, h.out, map_eraseIdx' (fun t : AlS => t.1), List.mem_eraseIdx_iff_getElem]
      have hg : ∀ j (hj : j < (s.al.map fun t : AlS => t.1).length), (s.al.map fun t : AlS => t.1)[j] = a.1 ↔ j = i := fun j hj => by
        have hii : (s.al.map fun t : AlS => t.1)[i]'(by simpa using hi) = a.1 := by
          simp [(List.getElem?_eq_some_iff.1 ha).2]
        constructor
        · intro e
          rw [← hii] at e
          exact (List.getElem_inj h.ids.nodup).1 e
        · rintro rfl; exact hii
      constructor
      · rintro ⟨h1, h2⟩
        obtain ⟨j, hj, rfl⟩ := List.getElem_of_mem h1
        exact ⟨j, hj, fun e => h2 ((hg j hj).2 e), rfl⟩
      · rintro ⟨j, hj, hne, rfl⟩
        exact ⟨List.getElem_mem _, fun e => hne ((hg j hj).1 e)⟩
    have hhas : cutM s.has a.1 = hasOf (s.al.eraseIdx i) := by
      have hp2 : placeM a.1 s.has = some (i, a.2.1) := placeM_at h.ix.nd (by rw [h.has, hasOf, List.getElem?_map, ha]; rfl)
      unfold cutM
      rw [hp2]
      simp only
      rw [h.has, hasOf, hasOf, map_eraseIdx']
    exact ⟨hids, hout, hhas, h.ix.drop a.1, fun b hb => h.le b (hsub.mem hb), fun b hb => h.sets b (hsub.mem hb)⟩
theorem Ok.resolve {s : St} (h : Ok s) (hg : Gd s) (id : Int) : Ok (resolveS s id).1 := by
  have hg' := hg.resolve id
  unfold resolveS at *
  split
  · exact h
  · rename_i i hp
    rw [hp] at hg'
    simp only at hg'
    have hsub : (s.al.eraseIdx i).Sublist s.al := List.eraseIdx_sublist _ _
    have hl := hg'.out
    simp only at hl
    have e1 := congrArg List.length hl
    rw [List.length_map] at e1
    have h1 := h.alOut
    have h2 := h.outLe
    have h3 := hsub.length_le
    refine ⟨h.last0, h.last1, h.most, ?_, e1.symm, fun t ht => h.has t (mem_cutM' ht), fun t ht => ?_, fun b hb => h.vals b (hsub.mem hb)⟩
    · simp only; omega
    · have := dropRows_bound (B := (6 * s.last).toNat) (fun t ht => by have := h.rows t ht; omega) id _ t ht
      have h4 := h.last0
      simp only
      omega
/-- A store that is kept, its blocks told. -/
structure KM (M : Nat → Prop) (w : World) (p : Nat) (s : St) : Prop where
  at_ : StoreAt w p s M
  ok : Ok s
  gd : Gd s
theorem Gd.labs {s : St} (h : Gd s) : ∀ a ∈ s.al, a.2.1.length ≤ 1000 := fun a ha => by have := isS_len (h.sets a ha); omega
theorem KM.len16 {M : Nat → Prop} {w : World} {p : Nat} {s : St} (h : KM M w p s) : s.al.length ≤ 16 ∧ s.out.length ≤ 16 := by
  have h1 := h.ok.most; have h2 := h.ok.outLe; have h3 := h.ok.alOut
  omega
theorem KM.lt {M : Nat → Prop} {w : World} {p : Nat} {s : St} (h : KM M w p s) {b : Nat} (hb : M b) : b < w.heap.size := h.at_.lt hb
theorem KM.grow {M : Nat → Prop} {w w' : World} {p : Nat} {s : St} (h : KM M w p s) (hg : Grow w w') : KM M w' p s := ⟨h.at_.grow hg, h.ok, h.gd⟩
theorem km_new (m : Int) (w : World) : Fx Tryz.prog 16 [.int .i64 m] w (fun u w' => ∃ p M, u = pp p ∧ KM M w' p (St.new m) ∧ (∀ b, M b → w.heap.size ≤ b) ∧ Grow w w') :=
  Fx.mono (alertNew_ok m w) fun u w' ⟨p, M, h1, h2, h3, h4⟩ => ⟨p, M, h1, ⟨h2, Ok.new m, Gd.new m⟩, h3, h4⟩
theorem KM.post {M : Nat → Prop} {w : World} {p : Nat} {s : St} (h : KM M w p s) {ls : List Lab} {v : Value} (hv : SlL M w v ls) {val : Nat} (hval : val < 18446744073709551616) :
    Fx Tryz.prog 18 [pp p, v, .float .f64 val] w (fun u w' => ∃ M', u = .tuple #[.int .i64 (postS s ls val).2.1, .bool (postS s ls val).2.2.1, .int .i64 (postS s ls val).2.2.2] ∧ KM M' w' p (postS s ls val).1 ∧ Mod M w w' ∧ ∀ b, M' b → M b ∨ w.heap.size ≤ b) :=
  Fx.mono (post_ok w p s M h.at_ h.ok ls v hv val) fun u w' ⟨M', h1, h2, h3, h4⟩ => ⟨M', h1, ⟨h2, h.ok.post ls hval, h.gd.post h.ok.last0 ls val⟩, h3, h4⟩
theorem KM.resolve {M : Nat → Prop} {w : World} {p : Nat} {s : St} (h : KM M w p s) (id : Int) :
    Fx Tryz.prog 24 [pp p, .int .i64 id] w (fun u w' => ∃ M', u = .int .i64 (resolveS s id).2 ∧ KM M' w' p (resolveS s id).1 ∧ Mod M w w' ∧ ∀ b, M' b → M b ∨ w.heap.size ≤ b) := by
  have h16 := h.len16
  refine Fx.mono (resolve_ok w p s M h.at_ h.gd.ids (by rw [h.gd.out]; exact h.gd.ids) (by omega) (by omega) (fun t ht => by have h1 := h.ok.rows t ht; have h2 := h.ok.last1; omega) id) ?_
  rintro u w' ⟨M', h1, h2, h3, h4⟩
  exact ⟨M', h1, ⟨h2, h.ok.resolve h.gd id, h.gd.resolve id⟩, h3, h4⟩
theorem KM.get {M : Nat → Prop} {w : World} {p : Nat} {s : St} (h : KM M w p s) (id : Int) : Fx Tryz.prog 19 [pp p, .int .i64 id] w (fun u w' => ∃ ad c, u = .tuple #[.agg #[.int .i64 ((getS s id).getD (0, [], 0)).1, .slice ad ((getS s id).getD (0, [], 0)).2.1.length c, .float .f64 ((getS s id).getD (0, [], 0)).2.2], .bool (getS s id).isSome] ∧ Row w' 46 2 (.slice ad ((getS s id).getD (0, [], 0)).2.1.length c) ((getS s id).getD (0, [], 0)).2.1.length (((getS s id).getD (0, [], 0)).2.1.flatMap labC) ∧ Grow w w') :=
  get_ok w p s M h.at_ h.gd.ids (by have := h.len16; omega) h.gd.labs id
theorem KM.all {M : Nat → Prop} {w : World} {p : Nat} {s : St} (h : KM M w p s) : Fx Tryz.prog 36 [pp p] w (fun u w' => ∃ al' : List Al, Row w' 32 3 u al'.length (al'.flatMap alC) ∧ al'.map pub = s.al ∧ (∀ a ∈ al', SlL No w' a.v a.ls) ∧ Grow w w') :=
  all_ok w p s M h.at_ (by have := h.len16; omega) h.gd.labs
theorem KM.rank {M : Nat → Prop} {w : World} {p : Nat} {s : St} (h : KM M w p s) : Fx Tryz.prog 37 [pp p] w (fun u w' => Row w' 3 1 u s.al.length (ints (rankIds s)) ∧ Fresh w.heap.size u ∧ Grow w w') :=
  alertRank_ok w p s M h.at_ h.ok.vals (by have := h.len16; omega)
theorem KM.size {M : Nat → Prop} {w : World} {p : Nat} {s : St} (h : KM M w p s) : Fx Tryz.prog 23 [pp p] w (fun u w' => u = .int .i64 s.al.length ∧ w = w') := alertLen_ok w p s M h.at_
theorem KM.posts {M : Nat → Prop} {w : World} {p : Nat} {s : St} (h : KM M w p s) : Fx Tryz.prog 25 [pp p] w (fun u w' => u = .int .i64 s.rows.length ∧ w = w') := alertPosts_ok w p s M h.at_
/-- The same, its blocks being O, its labels off all of M. -/
structure KX (O M : Nat → Prop) (w : World) (p : Nat) (s : St) : Prop where
  at_ : StoreX O M w p s
  ok : Ok s
  gd : Gd s
theorem KX.km {O M : Nat → Prop} {w : World} {p : Nat} {s : St} (h : KX O M w p s) : KM O w p s := ⟨h.at_.at_, h.ok, h.gd⟩
theorem KX.grow {O M : Nat → Prop} {w w' : World} {p : Nat} {s : St} (h : KX O M w p s) (hg : Grow w w') : KX O M w' p s := ⟨h.at_.grow hg, h.ok, h.gd⟩
theorem KX.off {O M M' : Nat → Prop} {w : World} {p : Nat} {s : St} (h : KX O M w p s) (h1 : ∀ b, O b → M' b) (h2 : ∀ b, M' b → M b) : KX O M' w p s := ⟨h.at_.off h1 h2, h.ok, h.gd⟩
theorem KX.mod {O M N : Nat → Prop} {w w' : World} {p : Nat} {s : St} (h : KX O M w p s) (hm : Mod N w w') (h1 : ∀ b, O b → ¬ N b) (h2 : ∀ b, N b → b < w.heap.size → M b) : KX O M w' p s := ⟨h.at_.mod hm h1 h2, h.ok, h.gd⟩
theorem KX.post {O M : Nat → Prop} {w : World} {p : Nat} {s : St} (h : KX O M w p s) {ls : List Lab} {v : Value} (hv : SlL M w v ls) {val : Nat} (hval : val < 18446744073709551616) :
    Fx Tryz.prog 18 [pp p, v, .float .f64 val] w (fun u w' => ∃ O', u = .tuple #[.int .i64 (postS s ls val).2.1, .bool (postS s ls val).2.2.1, .int .i64 (postS s ls val).2.2.2] ∧ KX O' (fun b => M b ∨ O' b) w' p (postS s ls val).1 ∧ Mod O w w' ∧ ∀ b, O' b → O b ∨ w.heap.size ≤ b) :=
  Fx.mono (postX_ok w p s O M h.at_ h.ok ls v hv val) fun u w' ⟨O', h1, h2, h3, h4⟩ => ⟨O', h1, ⟨h2, h.ok.post ls hval, h.gd.post h.ok.last0 ls val⟩, h3, h4⟩
theorem KX.resolve {O M : Nat → Prop} {w : World} {p : Nat} {s : St} (h : KX O M w p s) (id : Int) :
    Fx Tryz.prog 24 [pp p, .int .i64 id] w (fun u w' => ∃ O', u = .int .i64 (resolveS s id).2 ∧ KX O' (fun b => M b ∨ O' b) w' p (resolveS s id).1 ∧ Mod O w w' ∧ ∀ b, O' b → O b ∨ w.heap.size ≤ b) := by
  have h16 := h.km.len16
  refine Fx.mono (resolveX_ok w p s O M h.at_ h.gd.ids (by rw [h.gd.out]; exact h.gd.ids) (by omega) (by omega) (fun t ht => by have h1 := h.ok.rows t ht; have h2 := h.ok.last1; omega) id) ?_
  rintro u w' ⟨O', h1, h2, h3, h4⟩
  exact ⟨O', h1, ⟨h2, h.ok.resolve h.gd id, h.gd.resolve id⟩, h3, h4⟩
end Go.Proofs.YtffbcfcoddacmaaGreat

