/- Rows of numbers: those that are kept; one cut out. -/
import Derived.Test.YtffbcfcoddacmaaGreatDb
import Derived.Test.YtffbcfcoddacmaaGreatXB
set_option linter.unusedVariables false
set_option linter.unusedSimpArgs false
set_option maxHeartbeats 400000
set_option maxRecDepth 100000
namespace Go.Proofs.YtffbcfcoddacmaaGreat
open Go Go.X

/-- A function value that tells of numbers whether they are so. -/
def PredI (w : World) (fv : Value) (p : Int → Bool) : Prop := ∃ g cap, fv = .func (.func g) #[] cap ∧ Go.Proofs.Enters Tryz.prog g ∧ ∀ (n : Int) w', Grow w w' → Fx Tryz.prog g ([.int .i64 n] ++ cap.toList) w' (fun u w'' => u = .bool (p n) ∧ Grow w' w'')
theorem PredI.grow {w w' : World} {fv : Value} {p : Int → Bool} (h : PredI w fv p) (hg : Grow w w') : PredI w' fv p := by
  obtain ⟨g, cap, h1, h2, h3⟩ := h
  exact ⟨g, cap, h1, h2, fun n w'' h => h3 n w'' (hg.trans h)⟩
def ixF (p : Int → Bool) (xs : List Int) : Int := optI (xs.findIdx? p)
theorem indexFuncI_ok (M : Nat → Prop) (xs : List Int) (v fv : Value) (p : Int → Bool) (w : World) (hv : Sl M w v 1 xs.length (ints xs)) (hp : PredI w fv p) :
    Fx Tryz.prog 130 [v, fv] w (fun u w' => u = .int .i64 (ixF p xs) ∧ Grow w w') := by
  obtain ⟨ad, c, rfl⟩ := hv.shape
  obtain ⟨g, cap, rfl, hE, hp⟩ := hp
  have hbig := hv.big
  refine enter Tryz.func130 rfl rfl rfl _ (Pick.sub (l := [0, 1]) (.cons rfl (.cons rfl .nil))) ?_
  refine RK.seq ?_
  refine RK.region ?_
  refine RL.p rfl rfl ?_
  refine RL.done ?_
  iterate 2 refine RK.seq ?_
  refine RK.region ?_
  refine RL.p rfl rfl ?_
  refine RL.q (.free rfl) rfl rfl (Yld.lenSl u22 rfl) ?_
  refine RL.p rfl rfl ?_
  refine RL.done ?_
  refine RK.block ?_
  refine RK.loop (fun k : Nat => [(0, .slice ad xs.length c), (1, .func (.func g) #[] cap), (7, .int .i64 xs.length), (8, .int .i64 k)]) (fun k w' => Grow w w' ∧ k ≤ xs.length ∧ ∀ i a, i < k → xs[i]? = some a → p a = false) (fun k => xs.length - k) 0 ⟨rfl, rfl, rfl, rfl, trivial⟩ ⟨Mod.refl _ _, by omega, fun i a h => by omega⟩ (fun k w' hI ih => ?_)
  obtain ⟨hg, hk, hno⟩ := hI
  refine RK.seq ?_
  refine RK.region ?_
  refine RL.p rfl rfl ?_
  refine RL.done ?_
  refine RK.seq ?_
  first | refine RK.condD rfl (fun h9 => ?_) (fun h9 => ?_) | refine RK.condN rfl (fun h9 => ?_) (fun h9 => ?_) | refine RK.cond rfl (fun h9 => ?_) (fun h9 => ?_)
  · obtain ⟨x, hx⟩ : ∃ x, xs[k]? = some x := ⟨xs[k]'(by omega), List.getElem?_eq_getElem (by omega)⟩
    obtain ⟨b1, o1, c1', he1, _, _, hc1⟩ := hv.elem1 (k := k) (u := .int .i64 x) (by simp [hx])
    cases he1
    refine RK.skip ?_
    refine RK.seq ?_
    refine RK.block ?_
    refine RK.seq ?_
    refine RK.region ?_
    iterate 2 refine RL.p rfl rfl ?_
    refine RL.done ?_
    refine RK.seq ?_
    refine RK.region ?_
    iterate 3 refine RL.p rfl rfl ?_
    refine RL.q (.free rfl) rfl rfl (Yld.indexAddrN u22 i3 rfl rfl (by omega)) ?_
    refine RL.q (.free rfl) rfl rfl (Yld.load p3 rfl (at1 (hg.cell (hc1 k (.int .i64 x) (by simp [hx])) (fun h => h)))) ?_
    refine RL.op (.free rfl) rfl rfl (Does.callv rfl rfl (by assumption) (hp x _ hg)) ?_
    rintro _ w2 ⟨rfl, hg2⟩
    refine RL.done ?_
    first | refine RK.condD rfl (fun h16 => ?_) (fun h16 => ?_) | refine RK.condN rfl (fun h16 => ?_) (fun h16 => ?_) | refine RK.cond rfl (fun h16 => ?_) (fun h16 => ?_)
    · refine RK.seq ?_
      refine RK.region ?_
      iterate 2 refine RL.p rfl rfl ?_
      refine RL.done ?_
      refine RK.ret_of Tryz.func130 (res1 rfl rfl) ?_ _
      exact ⟨_, rfl, congrArg _ (by
          have : xs.findIdx? p = some k := by
            rw [List.findIdx?_eq_some_iff_getElem]
            refine ⟨by omega, ?_, ?_⟩
            · rw [(List.getElem?_eq_some_iff.1 hx).2]; exact h16
            · intro j hj
              simpa using hno j (xs[j]'(by omega)) hj (List.getElem?_eq_getElem (by omega))
          unfold ixF; rw [this]; rfl), hg.trans hg2⟩
    · refine RK.skip ?_
      refine RK.inBlock ?_
      refine RK.region ?_
      refine RL.p rfl rfl ?_
      refine RL.re (d := 18) rfl rfl (succ_i64 (by omega)) ?_
      refine RL.p rfl rfl ?_
      refine RL.done ?_
      exact RK.back (ih (k + 1) _ ⟨hg.trans hg2, by omega, fun i a' hi ha' => by by_cases e : i = k; (subst e; rw [hx] at ha'; cases ha'; exact h16); exact hno i a' (by omega) ha'⟩ (by omega)) ⟨rfl, rfl, rfl, rfl, trivial⟩
  · refine RK.exit rfl ?_
    refine RK.seq ?_
    refine RK.region ?_
    refine RL.p rfl rfl ?_
    refine RL.done ?_
    refine RK.ret_of Tryz.func130 (res1 rfl rfl) ?_ _
    exact ⟨_, rfl, congrArg _ (by
        have : xs.findIdx? p = none := by
          rw [List.findIdx?_eq_none_iff]
          intro x hx
          obtain ⟨i, hi⟩ := List.getElem?_of_mem hx
          have hil := (List.getElem?_eq_some_iff.1 hi).1
          exact hno i x (by omega) hi
        unfold ixF; rw [this]; rfl), hg⟩
/-- Those that are not so. -/
def keepI (p : Int → Bool) (xs : List Int) : List Int := xs.filter fun x => !p x
theorem keep_snoc (p : Int → Bool) {xs : List Int} {k : Nat} {x : Int} (hx : xs[k]? = some x) : keepI p (xs.take (k + 1)) = keepI p (xs.take k) ++ (if p x then [] else [x]) := by
  have hk := (List.getElem?_eq_some_iff.1 hx).1
  unfold keepI
  rw [List.take_succ_eq_append_getElem hk, (List.getElem?_eq_some_iff.1 hx).2, List.filter_append]
  cases h : p x <;> simp [h]
theorem keep_le (p : Int → Bool) (xs : List Int) : (keepI p xs).length ≤ xs.length := List.length_filter_le _ _
theorem set_snoc {cs : List Value} {i : Nat} {ys : List Int} {x : Int} (h : cs.take i = ints ys) (hi : i < cs.length) : (cs.set i (.int .i64 x)).take (i + 1) = ints (ys ++ [x]) := by
  have e : (cs.set i (.int .i64 x)).length = cs.length := List.length_set
  rw [List.take_succ_eq_append_getElem (by omega), List.getElem_set_self]
  have : (cs.set i (Value.int .i64 x)).take i = cs.take i := by
    apply List.ext_getElem?
    intro j
    simp only [List.getElem?_take]
    split
    · rw [List.getElem?_set_ne (by omega)]
    · rfl
  rw [this, h]
  simp [ints]
theorem deleteFuncI_ok (w0 : World) (xs : List Int) (v fv : Value) (p : Int → Bool) (w : World) (hv : Row w 3 1 v xs.length (ints xs)) (hf : Fresh w0.heap.size v) (hg0 : Grow w0 w) (hp : PredI w0 fv p) :
    Fx Tryz.prog 88 [v, fv] w (fun u w' => Row w' 3 1 u (keepI p xs).length (ints (keepI p xs)) ∧ u.ownBlock = v.ownBlock ∧ Mod (fun b => v.ownBlock = some b) w w') := by
  have hcall := indexFuncI_ok No xs v fv p w (Sl.own hv (fun _ _ h => h)) (hp.grow hg0)
  obtain ⟨g, cap, rfl, hE, hp⟩ := hp
  have hbig : xs.length ≤ 9223372036854775807 := (Sl.own (M := No) hv (fun _ _ h => h)).big
  by_cases hn : xs.findIdx? p = none
  · have hix : ixF p xs = -1 := by unfold ixF; rw [hn]; rfl
    rw [hix] at hcall
    have hkeep : keepI p xs = xs := List.filter_eq_self.2 fun x hx => by simp [List.findIdx?_eq_none_iff.1 hn x hx]
    refine enter Tryz.func88 rfl rfl rfl _ (Pick.sub (l := [0, 1]) (.cons rfl (.cons rfl .nil))) ?_
    refine RK.seq ?_
    refine RK.region ?_
    refine RL.p rfl rfl ?_
    refine RL.done ?_
    refine RK.seq ?_
    refine RK.region ?_
    iterate 2 refine RL.p rfl rfl ?_
    refine RL.op (.free rfl) rfl rfl (Does.call rfl e130 (hcall)) ?_
    rintro _ w2 ⟨rfl, hg2⟩
    refine RL.p rfl rfl ?_
    refine RL.done ?_
    iterate 2 refine RK.seq ?_
    refine RK.region ?_
    iterate 2 refine RL.p rfl rfl ?_
    refine RL.done ?_
    refine RK.condT (hcT rfl (decide_eq_true rfl)) ?_
    refine RK.seq ?_
    refine RK.region ?_
    iterate 2 refine RL.p rfl rfl ?_
    refine RL.done ?_
    refine RK.ret_of Tryz.func88 (res1 rfl rfl) ?_ _
    exact ⟨_, rfl, by rw [hkeep]; exact hv.mod hg2 (fun _ _ h => h), rfl, Mod.any' hg2⟩
  · obtain ⟨i0, hi0⟩ : ∃ i, xs.findIdx? p = some i := by cases h : xs.findIdx? p with | none => exact absurd h hn | some i => exact ⟨i, rfl⟩
    have hix : ixF p xs = (i0 : Int) := by unfold ixF; rw [hi0]; rfl
    rw [hix] at hcall
    obtain ⟨hi0l, hpi0, hlt0⟩ := List.findIdx?_eq_some_iff_getElem.1 hi0
    have hx0 : xs[i0]? = some xs[i0] := List.getElem?_eq_getElem hi0l
    have hk0 : keepI p (xs.take i0) = xs.take i0 := List.filter_eq_self.2 fun x hx => by
      obtain ⟨j, hj, rfl⟩ := List.getElem_of_mem hx
      simp at hj
      rw [List.getElem_take]
      simpa using hlt0 j (by omega)
    have hk1 : keepI p (xs.take (i0 + 1)) = xs.take i0 := by rw [keep_snoc p hx0, hk0]; simp [hpi0]
    obtain ⟨gb, cp, cs, rfl, hb, hl, hkc, hcm, htk⟩ := hv.whole (by omega)
    rw [Nat.mul_one] at hl htk
    have hgb : w0.heap.size ≤ gb := hf gb rfl
    refine enter Tryz.func88 rfl rfl rfl _ (Pick.sub (l := [0, 1]) (.cons rfl (.cons rfl .nil))) ?_
    refine RK.seq ?_
    refine RK.region ?_
    refine RL.p rfl rfl ?_
    refine RL.done ?_
    refine RK.seq ?_
    refine RK.region ?_
    iterate 2 refine RL.p rfl rfl ?_
    refine RL.op (.free rfl) rfl rfl (Does.call rfl e130 (hcall)) ?_
    rintro _ w2 ⟨rfl, hg2⟩
    refine RL.p rfl rfl ?_
    refine RL.done ?_
    iterate 2 refine RK.seq ?_
    refine RK.region ?_
    iterate 2 refine RL.p rfl rfl ?_
    refine RL.done ?_
    refine RK.condF (hcF rfl (decide_eq_false (by omega))) ?_
    refine RK.skip ?_
    iterate 2 refine RK.seq ?_
    refine RK.region ?_
    iterate 2 refine RL.p rfl rfl ?_
    refine RL.re (d := 15) rfl rfl (add_i64 (z := ((i0 + 1 : Nat) : Int)) (by simp) (by omega) (by omega)) ?_
    refine RL.p rfl rfl ?_
    refine RL.done ?_
    refine RK.block ?_
    refine RK.loop (fun s : Nat × Nat => [(0, .slice (some ⟨gb, 0, none⟩) xs.length cp), (1, .func (.func g) #[] cap), (5, .int .i64 (s.1 : Int)), (6, .int .i64 (s.2 : Int))]) (fun s w' => Mod (· = gb) w w' ∧ s.1 < s.2 ∧ s.2 ≤ xs.length ∧ s.1 = (keepI p (xs.take s.2)).length ∧ ∃ cs', Blk w' gb 3 cs' ∧ cs'.length = cp ∧ cs'.take s.1 = ints (keepI p (xs.take s.2)) ∧ ∀ t x, s.2 ≤ t → xs[t]? = some x → cs'[t]? = some (.int .i64 x)) (fun s => xs.length - s.2) (i0, i0 + 1) ⟨rfl, rfl, rfl, rfl, trivial⟩ ⟨Mod.any' hg2, by omega, by simp only; omega, by rw [hk1]; simp; omega, cs, hb.mod hg2 (fun h => h), hl, by rw [hk1]; simp only; have := congrArg (List.take i0) htk; rw [List.take_take, Nat.min_eq_left (by omega)] at this; rw [this]; simp [ints, List.map_take], fun t x ht hx => by have hxl := (List.getElem?_eq_some_iff.1 hx).1; have := congrArg (fun l => l[t]?) htk; simp only [List.getElem?_take, if_pos hxl] at this; rw [this]; simp [hx]⟩ (fun s w' hI ih => ?_)
    obtain ⟨i, j⟩ := s
    obtain ⟨hm, hij, hj, hic, cs1, hb1, hl1, ht1, hr1⟩ := hI
    simp only at hm hij hj hic ht1 hr1
    iterate 2 refine RK.seq ?_
    refine RK.region ?_
    iterate 2 refine RL.p rfl rfl ?_
    refine RL.q (.free rfl) rfl rfl (Yld.lenSl u22 rfl) ?_
    refine RL.p rfl rfl ?_
    refine RL.done ?_
    first | refine RK.condD rfl (fun h19 => ?_) (fun h19 => ?_) | refine RK.condN rfl (fun h19 => ?_) (fun h19 => ?_) | refine RK.cond rfl (fun h19 => ?_) (fun h19 => ?_)
    · obtain ⟨x, hx⟩ : ∃ x, xs[j]? = some x := ⟨xs[j]'(by omega), List.getElem?_eq_getElem (by omega)⟩
      have hks := keep_snoc p hx
      refine RK.skip ?_
      refine RK.seq ?_
      refine RK.block ?_
      refine RK.seq ?_
      refine RK.region ?_
      iterate 2 refine RL.p rfl rfl ?_
      refine RL.q (.free rfl) rfl rfl (Yld.indexAddrN u22 i3 rfl rfl (by omega)) ?_
      refine RL.q (.free rfl) rfl rfl (Yld.load p3 rfl (at1 (hb1.at1 (hr1 j x (Nat.le_refl _) hx)))) ?_
      refine RL.p rfl rfl ?_
      refine RL.done ?_
      refine RK.seq ?_
      refine RK.region ?_
      iterate 2 refine RL.p rfl rfl ?_
      refine RL.op (.free rfl) rfl rfl (Does.callv rfl rfl (by assumption) (hp x _ (hg0.then hm (fun b hb e => by have e' : b = gb := e; omega)))) ?_
      rintro _ w3 ⟨rfl, hg3⟩
      have hm3 : Mod (· = gb) w w3 := hm.trans (Mod.any' hg3)
      have hb3 := hb1.mod hg3 (fun h => h)
      refine RL.p rfl rfl ?_
      refine RL.done ?_
      first | refine RK.condD rfl (fun h29 => ?_) (fun h29 => ?_) | refine RK.condN rfl (fun h29 => ?_) (fun h29 => ?_) | refine RK.cond rfl (fun h29 => ?_) (fun h29 => ?_)
      · have hpx : p x = false := by simpa using h29
        refine RK.seq ?_
        refine RK.region ?_
        iterate 3 refine RL.p rfl rfl ?_
        refine RL.q (.free rfl) rfl rfl (Yld.indexAddrN u22 i3 rfl rfl (by omega)) ?_
        refine RL.op' (.free rfl) rfl (Does.store i3 rfl rfl rfl hb3 (SetAt.of (by omega))) ?_
        rintro _ w4 ⟨hb4, hm4, _⟩
        have hil : i < cs1.length := by omega
        have e0 : 0 + i * 1 = i := by omega
        rw [e0] at hb4
        refine RL.done ?_
        refine RK.region ?_
        iterate 2 refine RL.p rfl rfl ?_
        refine RL.re (d := 35) rfl rfl (succ_i64 (by omega)) ?_
        refine RL.p rfl rfl ?_
        refine RL.done ?_
        refine RK.inBlock ?_
        refine RK.region ?_
        iterate 2 refine RL.p rfl rfl ?_
        refine RL.re (d := 21) rfl rfl (succ_i64 (by omega)) ?_
        refine RL.p rfl rfl ?_
        refine RL.done ?_
        exact RK.back (ih (i + 1, j + 1) _ ⟨hm3.trans hm4, by omega, by simp only; omega, by rw [hks, hpx]; simpa using hic, _, hb4, by simpa using hl1, by rw [hks, hpx]; simp only [Bool.false_eq_true, if_false]; exact set_snoc ht1 hil, fun t y ht hy => by rw [List.getElem?_set_ne (by simp only at ht; omega)]; exact hr1 t y (by simp only at ht; omega) hy⟩ (by simp only; omega)) ⟨rfl, rfl, rfl, rfl, trivial⟩
      · have hpx : p x = true := by simpa using h29
        refine RK.skip ?_
        refine RK.inBlock ?_
        refine RK.region ?_
        iterate 2 refine RL.p rfl rfl ?_
        refine RL.re (d := 21) rfl rfl (succ_i64 (by omega)) ?_
        refine RL.p rfl rfl ?_
        refine RL.done ?_
        exact RK.back (ih (i, j + 1) _ ⟨hm3, by omega, by simp only; omega, by rw [hks, hpx]; simpa using hic, cs1, hb3, hl1, by rw [hks, hpx]; simpa using ht1, fun t y ht hy => hr1 t y (by simp only at ht; omega) hy⟩ (by simp only; omega)) ⟨rfl, rfl, rfl, rfl, trivial⟩
    · have ek : xs.take j = xs := List.take_of_length_le (by omega)
      rw [ek] at hic ht1
      refine RK.exit rfl ?_
      refine RK.seq ?_
      refine RK.region ?_
      iterate 2 refine RL.p rfl rfl ?_
      refine RL.q (.free rfl) rfl rfl (Yld.sliceFrom u22 i3 rfl rfl (by omega)) ?_
      refine RL.op' (.free rfl) rfl (Does.clear u22 i3 (cap := cp) (lo := i) (m := xs.length - i) rfl (by simp [Value.cells, Value.oneCell']) rfl hb1 (by rw [Nat.mul_one]; exact hl1) (by omega)) ?_
      rintro _ w5 ⟨⟨cs5, hb5, hl5, ht5⟩, hm5, hs5⟩
      refine RL.done ?_
      refine RK.seq ?_
      refine RK.region ?_
      iterate 2 refine RL.p rfl rfl ?_
      refine RL.q (.free rfl) rfl rfl (Yld.sliceHi u22 i3 rfl rfl (by omega)) ?_
      refine RL.p rfl rfl ?_
      refine RL.done ?_
      refine RK.ret_of Tryz.func88 (res1 rfl rfl) ?_ _
      exact ⟨_, rfl, by have h9 := Row.shut (sz := 1) (k := i) hb5 (by rw [hl5, hl1, Nat.mul_one]) (by omega) hcm; rw [ht5] at h9; rw [Nat.mul_one, ht1] at h9; rw [← hic]; exact h9, rfl, (hm.trans hm5).mono fun b _ e => congrArg some e.symm⟩
/-- The whole of it: kept, Not, Cut, And. -/
theorem kept1_ok (w : World) (b : Nat) (fv : Value) (p : Int → Bool) (hb : Blk w b 82 [fv]) (hp : PredI w fv p) (n : Int) : Fx Tryz.prog 145 [.int .i64 n, pp b] w (fun u w' => u = .bool (!p n) ∧ Grow w w') := by
  obtain ⟨g, cap, rfl, hE, hp⟩ := hp
  refine enter Tryz.func145 rfl rfl rfl _ (Pick.sub (l := [0, 1]) (.cons rfl (.cons rfl .nil))) ?_
  refine RK.seq ?_
  refine RK.region ?_
  refine RL.p rfl rfl ?_
  refine RL.done ?_
  refine RK.seq ?_
  refine RK.region ?_
  refine RL.q (.free rfl) rfl rfl (Yld.load p82 rfl (at1 (hb.cell rfl))) ?_
  refine RL.p rfl rfl ?_
  refine RL.op (.free rfl) rfl rfl (Does.callv rfl rfl (by assumption) (hp n _ (Mod.refl _ _))) ?_
  rintro _ w2 ⟨rfl, hg2⟩
  iterate 2 refine RL.p rfl rfl ?_
  refine RL.done ?_
  refine RK.ret_of Tryz.func145 (res1 rfl rfl) ?_ _
  exact ⟨_, rfl, rfl, hg2⟩
theorem kept_ok (M : Nat → Prop) (xs : List Int) (v fv : Value) (p : Int → Bool) (w : World) (hv : Sl M w v 1 xs.length (ints xs)) (hb : xs.length * 8 ≤ 140737488355328) (hp : PredI w fv p) :
    Fx Tryz.prog 103 [v, fv] w (fun u w' => Row w' 3 1 u ((mkRow xs).filter p).length (ints ((mkRow xs).filter p)) ∧ Fresh w.heap.size u ∧ Grow w w') := by
  obtain ⟨g, cap, rfl, hE, hp0⟩ := id hp
  have he : keepI (fun n => !p n) (mkRow xs) = (mkRow xs).filter p := by unfold keepI; simp
  refine enter Tryz.func103 rfl rfl rfl _ (Pick.sub (l := [0, 1]) (.cons rfl (.cons rfl .nil))) ?_
  refine RK.seq ?_
  refine RK.region ?_
  refine RL.op (.free rfl) rfl rfl (Does.box rfl) ?_
  rintro _ w1 ⟨b1, rfl, hn1⟩
  refine RL.p rfl rfl ?_
  refine RL.done ?_
  refine RK.seq ?_
  refine RK.region ?_
  refine RL.p rfl rfl ?_
  refine RL.op (.free rfl) rfl rfl (Does.call rfl e112 (make_ok No xs v _ (hv.mod (Mod.any' hn1.grow)).noM hb)) ?_
  rintro u2 w2 ⟨hr2, hf2, hg2⟩
  refine RL.p rfl rfl ?_
  refine RL.op (.free rfl) rfl rfl (Does.call rfl e88 (deleteFuncI_ok w1 (mkRow xs) u2 _ (fun n => !p n) _ hr2 hf2 hg2 ⟨_, _, rfl, e145, fun n w' hg => kept1_ok w' b1 _ p (hn1.blk.mod hg (fun h => h)) (hp.grow (hn1.grow.trans hg)) n⟩)) ?_
  rintro u3 w3 ⟨hr3, hu3, hm3⟩
  refine RL.p rfl rfl ?_
  refine RL.done ?_
  refine RK.ret_of Tryz.func103 (res1 rfl rfl) ?_ _
  exact ⟨_, rfl, he ▸ hr3, fun b hb => by rw [hu3] at hb; have := hf2 b hb; have := hn1.grow.size; omega, (hn1.grow.trans hg2).then hm3 (fun x hx e => by have := hf2 x e; have := hn1.grow.size; omega)⟩
theorem contains_ok (M : Nat → Prop) (xs : List Int) (v : Value) (x : Int) (w : World) (hv : Sl M w v 1 xs.length (ints xs)) : Fx Tryz.prog 146 [v, .int .i64 x] w (fun u w' => u = .bool (xs.contains x) ∧ w = w') := by
  obtain ⟨ad, c, b, o, rfl, hf⟩ := hv.open
  by_cases h0 : xs.length = 0
  · have : xs = [] := List.eq_nil_of_length_eq_zero h0
    subst this
    refine Calls.mono (Tryz.slices_Contains_int_empty ad c x w) ?_
    rintro e w' ⟨rfl, rfl⟩
    exact ⟨_, rfl, rfl, rfl⟩
  · obtain ⟨rfl, _, hc⟩ := hf (by omega)
    refine Calls.mono (Tryz.slices_Contains_int b o xs.length c xs x w (Nat.le_refl _) hv.big (fun j hj => hc j _ (by simp [hj]))) ?_
    rintro e w' ⟨rfl, rfl⟩
    exact ⟨_, rfl, by rw [List.take_length], rfl⟩
theorem has_ok (M : Nat → Prop) (xs : List Int) (v : Value) (x : Int) (w : World) (hv : Sl M w v 1 xs.length (ints xs)) : Fx Tryz.prog 105 [v, .int .i64 x] w (fun u w' => u = .bool (xs.contains x) ∧ w = w') := by
  refine enter Tryz.func105 rfl rfl rfl _ (Pick.sub (l := [0, 1]) (.cons rfl (.cons rfl .nil))) ?_
  refine RK.seq ?_
  refine RK.region ?_
  refine RL.p rfl rfl ?_
  refine RL.done ?_
  refine RK.seq ?_
  refine RK.region ?_
  iterate 2 refine RL.p rfl rfl ?_
  refine RL.op (.free rfl) rfl rfl (Does.call rfl e146 (contains_ok M xs v x _ hv)) ?_
  rintro _ _ ⟨rfl, rfl⟩
  refine RL.p rfl rfl ?_
  refine RL.done ?_
  refine RK.ret_of Tryz.func105 (res1 rfl rfl) ?_ _
  exact ⟨_, rfl, rfl, rfl⟩
theorem not1_ok (M : Nat → Prop) (w : World) (b : Nat) (ys : List Int) (vb : Value) (hb : Blk w b 22 [vb]) (hv : Sl M w vb 1 ys.length (ints ys)) (n : Int) : Fx Tryz.prog 178 [.int .i64 n, pp b] w (fun u w' => u = .bool (!ys.contains n) ∧ Grow w w') := by
  refine enter Tryz.func178 rfl rfl rfl _ (Pick.sub (l := [0, 1]) (.cons rfl (.cons rfl .nil))) ?_
  refine RK.seq ?_
  refine RK.region ?_
  refine RL.p rfl rfl ?_
  refine RL.done ?_
  refine RK.seq ?_
  refine RK.region ?_
  refine RL.q (.free rfl) rfl rfl (Yld.load p22 rfl (at1 (hb.cell rfl))) ?_
  refine RL.p rfl rfl ?_
  refine RL.op (.free rfl) rfl rfl (Does.call rfl e105 (has_ok M ys vb n _ hv)) ?_
  rintro _ _ ⟨rfl, rfl⟩
  iterate 2 refine RL.p rfl rfl ?_
  refine RL.done ?_
  refine RK.ret_of Tryz.func178 (res1 rfl rfl) ?_ _
  exact ⟨_, rfl, rfl, Mod.refl _ _⟩
theorem not_ok (M : Nat → Prop) (xs ys : List Int) (va vb : Value) (w : World) (ha : Sl M w va 1 xs.length (ints xs)) (hvb : Sl M w vb 1 ys.length (ints ys)) (hb : xs.length * 8 ≤ 140737488355328) :
    Fx Tryz.prog 147 [va, vb] w (fun u w' => Row w' 3 1 u ((mkRow xs).filter fun n => !ys.contains n).length (ints ((mkRow xs).filter fun n => !ys.contains n)) ∧ Fresh w.heap.size u ∧ Grow w w') := by
  obtain ⟨ad', c', rfl⟩ := hvb.shape
  refine enter Tryz.func147 rfl rfl rfl _ (Pick.sub (l := [0, 1]) (.cons rfl (.cons rfl .nil))) ?_
  refine RK.seq ?_
  refine RK.region ?_
  refine RL.op (.free rfl) rfl rfl (Does.box rfl) ?_
  rintro _ w1 ⟨b1, rfl, hn1⟩
  refine RL.p rfl rfl ?_
  refine RL.done ?_
  refine RK.seq ?_
  refine RK.region ?_
  iterate 2 refine RL.p rfl rfl ?_
  refine RL.op (.free rfl) rfl rfl (Does.call rfl e103 (kept_ok No xs va _ (fun n => !ys.contains n) _ (ha.mod (Mod.any' hn1.grow)).noM hb ⟨_, _, rfl, e178, fun n w' hg => not1_ok No w' b1 ys _ (hn1.blk.mod hg (fun h => h)) (hvb.noM.mod (hn1.grow.trans hg)) n⟩)) ?_
  rintro u2 w2 ⟨hr2, hf2, hg2⟩
  refine RL.p rfl rfl ?_
  refine RL.done ?_
  refine RK.ret_of Tryz.func147 (res1 rfl rfl) ?_ _
  exact ⟨_, rfl, hr2, fun b hb => by have := hf2 b hb; have := hn1.grow.size; omega, hn1.grow.trans hg2⟩
theorem cut_ok (M : Nat → Prop) (xs : List Int) (x : Int) (v : Value) (w : World) (hv : Sl M w v 1 xs.length (ints xs)) (hb : xs.length * 8 ≤ 140737488355328) :
    Fx Tryz.prog 108 [v, .int .i64 x] w (fun u w' => Row w' 3 1 u (cutRow xs x).length (ints (cutRow xs x)) ∧ Fresh w.heap.size u ∧ Grow w w') := by
  have he : (mkRow xs).filter (fun n => ![x].contains n) = cutRow xs x := by
    unfold cutRow
    apply List.filter_congr
    intro y _
    by_cases h : y = x <;> simp [h]
  refine enter Tryz.func108 rfl rfl rfl _ (Pick.sub (l := [0, 1]) (.cons rfl (.cons rfl .nil))) ?_
  refine RK.seq ?_
  refine RK.region ?_
  refine RL.p rfl rfl ?_
  refine RL.done ?_
  refine RK.seq ?_
  refine RK.region ?_
  iterate 2 refine RL.p rfl rfl ?_
  refine RL.op (.free rfl) rfl rfl (Does.slice1 u22 i3 rfl rfl rfl rfl rfl) ?_
  rintro _ w1 ⟨b1, rfl, hn1⟩
  refine RL.op (.free rfl) rfl rfl (Does.call rfl e147 (not_ok No xs [x] v _ _ (hv.mod (Mod.any' hn1.grow)).noM (Sl.new hn1 1 1 rfl (by omega) (fun h => h)) hb)) ?_
  rintro u2 w2 ⟨hr2, hf2, hg2⟩
  refine RL.p rfl rfl ?_
  refine RL.done ?_
  refine RK.ret_of Tryz.func108 (res1 rfl rfl) ?_ _
  exact ⟨_, rfl, by rw [he] at hr2; exact hr2, fun b hb => by have := hf2 b hb; have := hn1.grow.size; omega, hn1.grow.trans hg2⟩
theorem and1_ok (M : Nat → Prop) (w : World) (b : Nat) (ys : List Int) (vb : Value) (hb : Blk w b 22 [vb]) (hv : Sl M w vb 1 ys.length (ints ys)) (n : Int) : Fx Tryz.prog 104 [.int .i64 n, pp b] w (fun u w' => u = .bool (ys.contains n) ∧ Grow w w') := by
  refine enter Tryz.func104 rfl rfl rfl _ (Pick.sub (l := [0, 1]) (.cons rfl (.cons rfl .nil))) ?_
  refine RK.seq ?_
  refine RK.region ?_
  refine RL.p rfl rfl ?_
  refine RL.done ?_
  refine RK.seq ?_
  refine RK.region ?_
  refine RL.q (.free rfl) rfl rfl (Yld.load p22 rfl (at1 (hb.cell rfl))) ?_
  refine RL.p rfl rfl ?_
  refine RL.op (.free rfl) rfl rfl (Does.call rfl e105 (has_ok M ys vb n _ hv)) ?_
  rintro _ _ ⟨rfl, rfl⟩
  refine RL.p rfl rfl ?_
  refine RL.done ?_
  refine RK.ret_of Tryz.func104 (res1 rfl rfl) ?_ _
  exact ⟨_, rfl, rfl, Mod.refl _ _⟩
theorem and_ok (M : Nat → Prop) (xs ys : List Int) (va vb : Value) (w : World) (ha : Sl M w va 1 xs.length (ints xs)) (hvb : Sl M w vb 1 ys.length (ints ys)) (hb : xs.length * 8 ≤ 140737488355328) :
    Fx Tryz.prog 48 [va, vb] w (fun u w' => Row w' 3 1 u ((mkRow xs).filter fun n => ys.contains n).length (ints ((mkRow xs).filter fun n => ys.contains n)) ∧ Fresh w.heap.size u ∧ Grow w w') := by
  obtain ⟨ad', c', rfl⟩ := hvb.shape
  refine enter Tryz.func48 rfl rfl rfl _ (Pick.sub (l := [0, 1]) (.cons rfl (.cons rfl .nil))) ?_
  refine RK.seq ?_
  refine RK.region ?_
  refine RL.op (.free rfl) rfl rfl (Does.box rfl) ?_
  rintro _ w1 ⟨b1, rfl, hn1⟩
  refine RL.p rfl rfl ?_
  refine RL.done ?_
  refine RK.seq ?_
  refine RK.region ?_
  iterate 2 refine RL.p rfl rfl ?_
  refine RL.op (.free rfl) rfl rfl (Does.call rfl e103 (kept_ok No xs va _ (fun n => ys.contains n) _ (ha.mod (Mod.any' hn1.grow)).noM hb ⟨_, _, rfl, e104, fun n w' hg => and1_ok No w' b1 ys _ (hn1.blk.mod hg (fun h => h)) (hvb.noM.mod (hn1.grow.trans hg)) n⟩)) ?_
  rintro u2 w2 ⟨hr2, hf2, hg2⟩
  refine RL.p rfl rfl ?_
  refine RL.done ?_
  refine RK.ret_of Tryz.func48 (res1 rfl rfl) ?_ _
  exact ⟨_, rfl, hr2, fun b hb => by have := hf2 b hb; have := hn1.grow.size; omega, hn1.grow.trans hg2⟩
end Go.Proofs.YtffbcfcoddacmaaGreat

