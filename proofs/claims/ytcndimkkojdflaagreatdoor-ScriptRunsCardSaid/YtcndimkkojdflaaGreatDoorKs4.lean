/- What the claim stands on, part 4. Of own lemmas only those that it reaches. -/
import Derived.Test.YtcndimkkojdflaaGreatDoorKs3
set_option linter.unusedVariables false
set_option linter.unusedSimpArgs false
set_option maxHeartbeats 400000
set_option maxRecDepth 100000
namespace Go.Proofs.YtcndimkkojdflaaGreatDoor
open Go Go.X
def PredI (w : World) (fv : Value) (p : Int → Bool) : Prop := ∃ g cap, fv = .func (.func g) #[] cap ∧ Go.Proofs.Enters Tryz.prog g ∧ ∀ (n : Int) w', Grow w w' → Fx Tryz.prog g ([.int .i64 n] ++ cap.toList) w' (fun u w'' => u = .bool (p n) ∧ Grow w' w'')
theorem PredI.grow {w w' : World} {fv : Value} {p : Int → Bool} (h : PredI w fv p) (hg : Grow w w') : PredI w' fv p := by
  obtain ⟨g, cap, h1, h2, h3⟩ := h
  exact ⟨g, cap, h1, h2, fun n w'' h => h3 n w'' (hg.trans h)⟩
def ixF (p : Int → Bool) (xs : List Int) : Int := optI (xs.findIdx? p)
theorem indexFuncI_ok (M : Nat → Prop) (xs : List Int) (v fv : Value) (p : Int → Bool) (w : World) (hv : Sl M w v 1 xs.length (ints xs)) (hp : PredI w fv p) :
    Fx Tryz.prog 279 [v, fv] w (fun u w' => u = .int .i64 (ixF p xs) ∧ Grow w w') := by
  obtain ⟨ad, c, rfl⟩ := hv.shape
  obtain ⟨g, cap, rfl, hE, hp⟩ := hp
  have hbig := hv.big
  refine enter Tryz.func279 rfl rfl rfl _ (Pick.sub (l := [0, 1]) (.cons rfl (.cons rfl .nil))) ?_
  refine RK.seq ?_
  refine RK.region ?_
  refine RL.p rfl rfl ?_
  refine RL.done ?_
  iterate 2 refine RK.seq ?_
  refine RK.region ?_
  refine RL.p rfl rfl ?_
  refine RL.q (.free rfl) rfl rfl (Yld.lenSl u63 rfl) ?_
  refine RL.p rfl rfl ?_
  refine RL.done ?_
  refine RK.block ?_
  refine RK.loop (fun k : Nat => [(0, .slice ad xs.length c), (1, .func (.func g) #[] cap), (7, .int .i64 xs.length), (8, .int .i64 k)]) (fun k w' => Grow w w' ∧ k ≤ xs.length ∧ ∀ i a, i < k → xs[i]? = some a → p a = false) (fun k => xs.length - k) 0 ⟨rfl, rfl, rfl, rfl, trivial⟩ ⟨Mod.refl _ _, by omega, fun i a h => by omega⟩ (fun k w' hI ih => ?_)
  obtain ⟨hg, hk, hno⟩ := hI
  refine RK.seq ?_
  refine RK.region ?_
  refine RL.p rfl rfl ?_
  refine RL.done ?_
  refine RK.seq ?_
  first | refine RK.condD rfl (fun h9 => ?_) (fun h9 => ?_) | refine RK.condN rfl (fun h9 => ?_) (fun h9 => ?_) | refine RK.cond rfl (fun h9 => ?_) (fun h9 => ?_)
  · obtain ⟨x, hx⟩ : ∃ x, xs[k]? = some x := ⟨xs[k]'(by omega), List.getElem?_eq_getElem (by omega)⟩
    obtain ⟨b1, o1, c1', he1, _, _, hc1⟩ := hv.elem1 (k := k) (u := .int .i64 x) (by simp [hx])
    cases he1
    refine RK.skip ?_
    refine RK.seq ?_
    refine RK.block ?_
    refine RK.seq ?_
    refine RK.region ?_
    iterate 2 refine RL.p rfl rfl ?_
    refine RL.done ?_
    refine RK.seq ?_
    refine RK.region ?_
    iterate 3 refine RL.p rfl rfl ?_
    refine RL.q (.free rfl) rfl rfl (Yld.indexAddrN u63 i3 rfl rfl (by omega)) ?_
    refine RL.q (.free rfl) rfl rfl (Yld.load p3 rfl (at1 (hg.cell (hc1 k (.int .i64 x) (by simp [hx])) (fun h => h)))) ?_
    refine RL.op (.free rfl) rfl rfl (Does.callv rfl rfl (by assumption) (hp x _ hg)) ?_
    rintro _ w2 ⟨rfl, hg2⟩
    refine RL.done ?_
    first | refine RK.condD rfl (fun h16 => ?_) (fun h16 => ?_) | refine RK.condN rfl (fun h16 => ?_) (fun h16 => ?_) | refine RK.cond rfl (fun h16 => ?_) (fun h16 => ?_)
    · refine RK.seq ?_
      refine RK.region ?_
      iterate 2 refine RL.p rfl rfl ?_
      refine RL.done ?_
      refine RK.ret_of Tryz.func279 (res1 rfl rfl) ?_ _
      exact ⟨_, rfl, congrArg _ (by
          have : xs.findIdx? p = some k := by
            rw [List.findIdx?_eq_some_iff_getElem]
            refine ⟨by omega, ?_, ?_⟩
            · rw [(List.getElem?_eq_some_iff.1 hx).2]; exact h16
            · intro j hj
              simpa using hno j (xs[j]'(by omega)) hj (List.getElem?_eq_getElem (by omega))
          unfold ixF; rw [this]; rfl), hg.trans hg2⟩
    · refine RK.skip ?_
      refine RK.inBlock ?_
      refine RK.region ?_
      refine RL.p rfl rfl ?_
      refine RL.re (d := 18) rfl rfl (succ_i64 (by omega)) ?_
      refine RL.p rfl rfl ?_
      refine RL.done ?_
      exact RK.back (ih (k + 1) _ ⟨hg.trans hg2, by omega, fun i a' hi ha' => by by_cases e : i = k; (subst e; rw [hx] at ha'; cases ha'; exact h16); exact hno i a' (by omega) ha'⟩ (by omega)) ⟨rfl, rfl, rfl, rfl, trivial⟩
  · refine RK.exit rfl ?_
    refine RK.seq ?_
    refine RK.region ?_
    refine RL.p rfl rfl ?_
    refine RL.done ?_
    refine RK.ret_of Tryz.func279 (res1 rfl rfl) ?_ _
    exact ⟨_, rfl, congrArg _ (by
        have : xs.findIdx? p = none := by
          rw [List.findIdx?_eq_none_iff]
          intro x hx
          obtain ⟨i, hi⟩ := List.getElem?_of_mem hx
          have hil := (List.getElem?_eq_some_iff.1 hi).1
          exact hno i x (by omega) hi
        unfold ixF; rw [this]; rfl), hg⟩
def keepI (p : Int → Bool) (xs : List Int) : List Int := xs.filter fun x => !p x
theorem keep_snoc (p : Int → Bool) {xs : List Int} {k : Nat} {x : Int} (hx : xs[k]? = some x) : keepI p (xs.take (k + 1)) = keepI p (xs.take k) ++ (if p x then [] else [x]) := by
  have hk := (List.getElem?_eq_some_iff.1 hx).1
  unfold keepI
  rw [List.take_succ_eq_append_getElem hk, (List.getElem?_eq_some_iff.1 hx).2, List.filter_append]
  cases h : p x <;> simp [h]
theorem set_snoc {cs : List Value} {i : Nat} {ys : List Int} {x : Int} (h : cs.take i = ints ys) (hi : i < cs.length) : (cs.set i (.int .i64 x)).take (i + 1) = ints (ys ++ [x]) := by
  have e : (cs.set i (.int .i64 x)).length = cs.length := List.length_set
  rw [List.take_succ_eq_append_getElem (by omega), List.getElem_set_self]
  have : (cs.set i (Value.int .i64 x)).take i = cs.take i := by
    apply List.ext_getElem?
    intro j
    simp only [List.getElem?_take]
    split
    · rw [List.getElem?_set_ne (by omega)]
    · rfl
  rw [this, h]
  simp [ints]
theorem deleteFuncI_ok (w0 : World) (xs : List Int) (v fv : Value) (p : Int → Bool) (w : World) (hv : Row w 3 1 v xs.length (ints xs)) (hf : Fresh w0.heap.size v) (hg0 : Grow w0 w) (hp : PredI w0 fv p) :
    Fx Tryz.prog 326 [v, fv] w (fun u w' => Row w' 3 1 u (keepI p xs).length (ints (keepI p xs)) ∧ u.ownBlock = v.ownBlock ∧ Mod (fun b => v.ownBlock = some b) w w') := by
  have hcall := indexFuncI_ok No xs v fv p w (Sl.own hv (fun _ _ h => h)) (hp.grow hg0)
  obtain ⟨g, cap, rfl, hE, hp⟩ := hp
  have hbig : xs.length ≤ 9223372036854775807 := (Sl.own (M := No) hv (fun _ _ h => h)).big
  by_cases hn : xs.findIdx? p = none
  · have hix : ixF p xs = -1 := by unfold ixF; rw [hn]; rfl
    rw [hix] at hcall
    have hkeep : keepI p xs = xs := List.filter_eq_self.2 fun x hx => by simp [List.findIdx?_eq_none_iff.1 hn x hx]
    refine enter Tryz.func326 rfl rfl rfl _ (Pick.sub (l := [0, 1]) (.cons rfl (.cons rfl .nil))) ?_
    refine RK.seq ?_
    refine RK.region ?_
    refine RL.p rfl rfl ?_
    refine RL.done ?_
    refine RK.seq ?_
    refine RK.region ?_
    iterate 2 refine RL.p rfl rfl ?_
    refine RL.op (.free rfl) rfl rfl (Does.call rfl e279 (hcall)) ?_
    rintro _ w2 ⟨rfl, hg2⟩
    refine RL.p rfl rfl ?_
    refine RL.done ?_
    iterate 2 refine RK.seq ?_
    refine RK.region ?_
    iterate 2 refine RL.p rfl rfl ?_
    refine RL.done ?_
    refine RK.condT (hcT rfl (decide_eq_true rfl)) ?_
    refine RK.seq ?_
    refine RK.region ?_
    iterate 2 refine RL.p rfl rfl ?_
    refine RL.done ?_
    refine RK.ret_of Tryz.func326 (res1 rfl rfl) ?_ _
    exact ⟨_, rfl, by rw [hkeep]; exact hv.mod hg2 (fun _ _ h => h), rfl, Mod.any' hg2⟩
  · obtain ⟨i0, hi0⟩ : ∃ i, xs.findIdx? p = some i := by cases h : xs.findIdx? p with | none => exact absurd h hn | some i => exact ⟨i, rfl⟩
    have hix : ixF p xs = (i0 : Int) := by unfold ixF; rw [hi0]; rfl
    rw [hix] at hcall
    obtain ⟨hi0l, hpi0, hlt0⟩ := List.findIdx?_eq_some_iff_getElem.1 hi0
    have hx0 : xs[i0]? = some xs[i0] := List.getElem?_eq_getElem hi0l
    have hk0 : keepI p (xs.take i0) = xs.take i0 := List.filter_eq_self.2 fun x hx => by
      obtain ⟨j, hj, rfl⟩ := List.getElem_of_mem hx
      simp at hj
      rw [List.getElem_take]
      simpa using hlt0 j (by omega)
    have hk1 : keepI p (xs.take (i0 + 1)) = xs.take i0 := by rw [keep_snoc p hx0, hk0]; simp [hpi0]
    obtain ⟨gb, cp, cs, rfl, hb, hl, hkc, hcm, htk⟩ := hv.whole (by omega)
    rw [Nat.mul_one] at hl htk
    have hgb : w0.heap.size ≤ gb := hf gb rfl
    refine enter Tryz.func326 rfl rfl rfl _ (Pick.sub (l := [0, 1]) (.cons rfl (.cons rfl .nil))) ?_
    refine RK.seq ?_
    refine RK.region ?_
    refine RL.p rfl rfl ?_
    refine RL.done ?_
    refine RK.seq ?_
    refine RK.region ?_
    iterate 2 refine RL.p rfl rfl ?_
    refine RL.op (.free rfl) rfl rfl (Does.call rfl e279 (hcall)) ?_
    rintro _ w2 ⟨rfl, hg2⟩
    refine RL.p rfl rfl ?_
    refine RL.done ?_
    iterate 2 refine RK.seq ?_
    refine RK.region ?_
    iterate 2 refine RL.p rfl rfl ?_
    refine RL.done ?_
    refine RK.condF (hcF rfl (decide_eq_false (by omega))) ?_
    refine RK.skip ?_
    iterate 2 refine RK.seq ?_
    refine RK.region ?_
    iterate 2 refine RL.p rfl rfl ?_
    refine RL.re (d := 15) rfl rfl (add_i64 (z := ((i0 + 1 : Nat) : Int)) (by simp) (by omega) (by omega)) ?_
    refine RL.p rfl rfl ?_
    refine RL.done ?_
    refine RK.block ?_
    refine RK.loop (fun s : Nat × Nat => [(0, .slice (some ⟨gb, 0, none⟩) xs.length cp), (1, .func (.func g) #[] cap), (5, .int .i64 (s.1 : Int)), (6, .int .i64 (s.2 : Int))]) (fun s w' => Mod (· = gb) w w' ∧ s.1 < s.2 ∧ s.2 ≤ xs.length ∧ s.1 = (keepI p (xs.take s.2)).length ∧ ∃ cs', Blk w' gb 3 cs' ∧ cs'.length = cp ∧ cs'.take s.1 = ints (keepI p (xs.take s.2)) ∧ ∀ t x, s.2 ≤ t → xs[t]? = some x → cs'[t]? = some (.int .i64 x)) (fun s => xs.length - s.2) (i0, i0 + 1) ⟨rfl, rfl, rfl, rfl, trivial⟩ ⟨Mod.any' hg2, by omega, by simp only; omega, by rw [hk1]; simp; omega, cs, hb.mod hg2 (fun h => h), hl, by rw [hk1]; simp only; have := congrArg (List.take i0) htk; rw [List.take_take, Nat.min_eq_left (by omega)] at this; rw [this]; simp [ints, List.map_take], fun t x ht hx => by have hxl := (List.getElem?_eq_some_iff.1 hx).1; have := congrArg (fun l => l[t]?) htk; simp only [List.getElem?_take, if_pos hxl] at this; rw [this]; simp [hx]⟩ (fun s w' hI ih => ?_)
    obtain ⟨i, j⟩ := s
    obtain ⟨hm, hij, hj, hic, cs1, hb1, hl1, ht1, hr1⟩ := hI
    simp only at hm hij hj hic ht1 hr1
    iterate 2 refine RK.seq ?_
    refine RK.region ?_
    iterate 2 refine RL.p rfl rfl ?_
    refine RL.q (.free rfl) rfl rfl (Yld.lenSl u63 rfl) ?_
    refine RL.p rfl rfl ?_
    refine RL.done ?_
    first | refine RK.condD rfl (fun h19 => ?_) (fun h19 => ?_) | refine RK.condN rfl (fun h19 => ?_) (fun h19 => ?_) | refine RK.cond rfl (fun h19 => ?_) (fun h19 => ?_)
    · obtain ⟨x, hx⟩ : ∃ x, xs[j]? = some x := ⟨xs[j]'(by omega), List.getElem?_eq_getElem (by omega)⟩
      have hks := keep_snoc p hx
      refine RK.skip ?_
      refine RK.seq ?_
      refine RK.block ?_
      refine RK.seq ?_
      refine RK.region ?_
      iterate 2 refine RL.p rfl rfl ?_
      refine RL.q (.free rfl) rfl rfl (Yld.indexAddrN u63 i3 rfl rfl (by omega)) ?_
      refine RL.q (.free rfl) rfl rfl (Yld.load p3 rfl (at1 (hb1.at1 (hr1 j x (Nat.le_refl _) hx)))) ?_
      refine RL.p rfl rfl ?_
      refine RL.done ?_
      refine RK.seq ?_
      refine RK.region ?_
      iterate 2 refine RL.p rfl rfl ?_
      refine RL.op (.free rfl) rfl rfl (Does.callv rfl rfl (by assumption) (hp x _ (hg0.then hm (fun b hb e => by have e' : b = gb := e; omega)))) ?_
      rintro _ w3 ⟨rfl, hg3⟩
      have hm3 : Mod (· = gb) w w3 := hm.trans (Mod.any' hg3)
      have hb3 := hb1.mod hg3 (fun h => h)
      refine RL.p rfl rfl ?_
      refine RL.done ?_
      first | refine RK.condD rfl (fun h29 => ?_) (fun h29 => ?_) | refine RK.condN rfl (fun h29 => ?_) (fun h29 => ?_) | refine RK.cond rfl (fun h29 => ?_) (fun h29 => ?_)
      · have hpx : p x = false := by simpa using h29
        refine RK.seq ?_
        refine RK.region ?_
        iterate 3 refine RL.p rfl rfl ?_
        refine RL.q (.free rfl) rfl rfl (Yld.indexAddrN u63 i3 rfl rfl (by omega)) ?_
        refine RL.op' (.free rfl) rfl (Does.store i3 rfl rfl rfl hb3 (SetAt.of (by omega))) ?_
        rintro _ w4 ⟨hb4, hm4, _⟩
        have hil : i < cs1.length := by omega
        have e0 : 0 + i * 1 = i := by omega
        rw [e0] at hb4
        refine RL.done ?_
        refine RK.region ?_
        iterate 2 refine RL.p rfl rfl ?_
        refine RL.re (d := 35) rfl rfl (succ_i64 (by omega)) ?_
        refine RL.p rfl rfl ?_
        refine RL.done ?_
        refine RK.inBlock ?_
        refine RK.region ?_
        iterate 2 refine RL.p rfl rfl ?_
        refine RL.re (d := 21) rfl rfl (succ_i64 (by omega)) ?_
        refine RL.p rfl rfl ?_
        refine RL.done ?_
        exact RK.back (ih (i + 1, j + 1) _ ⟨hm3.trans hm4, by omega, by simp only; omega, by rw [hks, hpx]; simpa using hic, _, hb4, by simpa using hl1, by rw [hks, hpx]; simp only [Bool.false_eq_true, if_false]; exact set_snoc ht1 hil, fun t y ht hy => by rw [List.getElem?_set_ne (by simp only at ht; omega)]; exact hr1 t y (by simp only at ht; omega) hy⟩ (by simp only; omega)) ⟨rfl, rfl, rfl, rfl, trivial⟩
      · have hpx : p x = true := by simpa using h29
        refine RK.skip ?_
        refine RK.inBlock ?_
        refine RK.region ?_
        iterate 2 refine RL.p rfl rfl ?_
        refine RL.re (d := 21) rfl rfl (succ_i64 (by omega)) ?_
        refine RL.p rfl rfl ?_
        refine RL.done ?_
        exact RK.back (ih (i, j + 1) _ ⟨hm3, by omega, by simp only; omega, by rw [hks, hpx]; simpa using hic, cs1, hb3, hl1, by rw [hks, hpx]; simpa using ht1, fun t y ht hy => hr1 t y (by simp only at ht; omega) hy⟩ (by simp only; omega)) ⟨rfl, rfl, rfl, rfl, trivial⟩
    · have ek : xs.take j = xs := List.take_of_length_le (by omega)
      rw [ek] at hic ht1
      refine RK.exit rfl ?_
      refine RK.seq ?_
      refine RK.region ?_
      iterate 2 refine RL.p rfl rfl ?_
      refine RL.q (.free rfl) rfl rfl (Yld.sliceFrom u63 i3 rfl rfl (by omega)) ?_
      refine RL.op' (.free rfl) rfl (Does.clear u63 i3 (cap := cp) (lo := i) (m := xs.length - i) rfl (by simp [Value.cells, Value.oneCell']) rfl hb1 (by rw [Nat.mul_one]; exact hl1) (by omega)) ?_
      rintro _ w5 ⟨⟨cs5, hb5, hl5, ht5⟩, hm5, hs5⟩
      refine RL.done ?_
      refine RK.seq ?_
      refine RK.region ?_
      iterate 2 refine RL.p rfl rfl ?_
      refine RL.q (.free rfl) rfl rfl (Yld.sliceHi u63 i3 rfl rfl (by omega)) ?_
      refine RL.p rfl rfl ?_
      refine RL.done ?_
      refine RK.ret_of Tryz.func326 (res1 rfl rfl) ?_ _
      exact ⟨_, rfl, by have h9 := Row.shut (sz := 1) (k := i) hb5 (by rw [hl5, hl1, Nat.mul_one]) (by omega) hcm; rw [ht5] at h9; rw [Nat.mul_one, ht1] at h9; rw [← hic]; exact h9, rfl, (hm.trans hm5).mono fun b _ e => congrArg some e.symm⟩
theorem kept1_ok (w : World) (b : Nat) (fv : Value) (p : Int → Bool) (hb : Blk w b 129 [fv]) (hp : PredI w fv p) (n : Int) : Fx Tryz.prog 372 [.int .i64 n, pp b] w (fun u w' => u = .bool (!p n) ∧ Grow w w') := by
  obtain ⟨g, cap, rfl, hE, hp⟩ := hp
  refine enter Tryz.func372 rfl rfl rfl _ (Pick.sub (l := [0, 1]) (.cons rfl (.cons rfl .nil))) ?_
  refine RK.seq ?_
  refine RK.region ?_
  refine RL.p rfl rfl ?_
  refine RL.done ?_
  refine RK.seq ?_
  refine RK.region ?_
  refine RL.q (.free rfl) rfl rfl (Yld.load p129 rfl (at1 (hb.cell rfl))) ?_
  refine RL.p rfl rfl ?_
  refine RL.op (.free rfl) rfl rfl (Does.callv rfl rfl (by assumption) (hp n _ (Mod.refl _ _))) ?_
  rintro _ w2 ⟨rfl, hg2⟩
  iterate 2 refine RL.p rfl rfl ?_
  refine RL.done ?_
  refine RK.ret_of Tryz.func372 (res1 rfl rfl) ?_ _
  exact ⟨_, rfl, rfl, hg2⟩
theorem kept_ok (M : Nat → Prop) (xs : List Int) (v fv : Value) (p : Int → Bool) (w : World) (hv : Sl M w v 1 xs.length (ints xs)) (hb : xs.length * 8 ≤ 140737488355328) (hp : PredI w fv p) :
    Fx Tryz.prog 341 [v, fv] w (fun u w' => Row w' 3 1 u ((mkRow xs).filter p).length (ints ((mkRow xs).filter p)) ∧ Fresh w.heap.size u ∧ Grow w w') := by
  obtain ⟨g, cap, rfl, hE, hp0⟩ := id hp
  have he : keepI (fun n => !p n) (mkRow xs) = (mkRow xs).filter p := by unfold keepI; simp
  refine enter Tryz.func341 rfl rfl rfl _ (Pick.sub (l := [0, 1]) (.cons rfl (.cons rfl .nil))) ?_
  refine RK.seq ?_
  refine RK.region ?_
  refine RL.op (.free rfl) rfl rfl (Does.box rfl) ?_
  rintro _ w1 ⟨b1, rfl, hn1⟩
  refine RL.p rfl rfl ?_
  refine RL.done ?_
  refine RK.seq ?_
  refine RK.region ?_
  refine RL.p rfl rfl ?_
  refine RL.op (.free rfl) rfl rfl (Does.call rfl e215 (make_ok No xs v _ (hv.mod (Mod.any' hn1.grow)).noM hb)) ?_
  rintro u2 w2 ⟨hr2, hf2, hg2⟩
  refine RL.p rfl rfl ?_
  refine RL.op (.free rfl) rfl rfl (Does.call rfl e326 (deleteFuncI_ok w1 (mkRow xs) u2 _ (fun n => !p n) _ hr2 hf2 hg2 ⟨_, _, rfl, e372, fun n w' hg => kept1_ok w' b1 _ p (hn1.blk.mod hg (fun h => h)) (hp.grow (hn1.grow.trans hg)) n⟩)) ?_
  rintro u3 w3 ⟨hr3, hu3, hm3⟩
  refine RL.p rfl rfl ?_
  refine RL.done ?_
  refine RK.ret_of Tryz.func341 (res1 rfl rfl) ?_ _
  exact ⟨_, rfl, he ▸ hr3, fun b hb => by rw [hu3] at hb; have := hf2 b hb; have := hn1.grow.size; omega, (hn1.grow.trans hg2).then hm3 (fun x hx e => by have := hf2 x e; have := hn1.grow.size; omega)⟩
theorem contains_ok (M : Nat → Prop) (xs : List Int) (v : Value) (x : Int) (w : World) (hv : Sl M w v 1 xs.length (ints xs)) : Fx Tryz.prog 373 [v, .int .i64 x] w (fun u w' => u = .bool (xs.contains x) ∧ w = w') := by
  obtain ⟨ad, c, b, o, rfl, hf⟩ := hv.open
  by_cases h0 : xs.length = 0
  · have : xs = [] := List.eq_nil_of_length_eq_zero h0
    subst this
    refine Calls.mono (Tryz.slices_Contains_int_empty ad c x w) ?_
    rintro e w' ⟨rfl, rfl⟩
    exact ⟨_, rfl, rfl, rfl⟩
  · obtain ⟨rfl, _, hc⟩ := hf (by omega)
    refine Calls.mono (Tryz.slices_Contains_int b o xs.length c xs x w (Nat.le_refl _) hv.big (fun j hj => hc j _ (by simp [hj]))) ?_
    rintro e w' ⟨rfl, rfl⟩
    exact ⟨_, rfl, by rw [List.take_length], rfl⟩
theorem has_ok (M : Nat → Prop) (xs : List Int) (v : Value) (x : Int) (w : World) (hv : Sl M w v 1 xs.length (ints xs)) : Fx Tryz.prog 343 [v, .int .i64 x] w (fun u w' => u = .bool (xs.contains x) ∧ w = w') := by
  refine enter Tryz.func343 rfl rfl rfl _ (Pick.sub (l := [0, 1]) (.cons rfl (.cons rfl .nil))) ?_
  refine RK.seq ?_
  refine RK.region ?_
  refine RL.p rfl rfl ?_
  refine RL.done ?_
  refine RK.seq ?_
  refine RK.region ?_
  iterate 2 refine RL.p rfl rfl ?_
  refine RL.op (.free rfl) rfl rfl (Does.call rfl e373 (contains_ok M xs v x _ hv)) ?_
  rintro _ _ ⟨rfl, rfl⟩
  refine RL.p rfl rfl ?_
  refine RL.done ?_
  refine RK.ret_of Tryz.func343 (res1 rfl rfl) ?_ _
  exact ⟨_, rfl, rfl, rfl⟩
theorem not1_ok (M : Nat → Prop) (w : World) (b : Nat) (ys : List Int) (vb : Value) (hb : Blk w b 63 [vb]) (hv : Sl M w vb 1 ys.length (ints ys)) (n : Int) : Fx Tryz.prog 342 [.int .i64 n, pp b] w (fun u w' => u = .bool (!ys.contains n) ∧ Grow w w') := by
  refine enter Tryz.func342 rfl rfl rfl _ (Pick.sub (l := [0, 1]) (.cons rfl (.cons rfl .nil))) ?_
  refine RK.seq ?_
  refine RK.region ?_
  refine RL.p rfl rfl ?_
  refine RL.done ?_
  refine RK.seq ?_
  refine RK.region ?_
  refine RL.q (.free rfl) rfl rfl (Yld.load p63 rfl (at1 (hb.cell rfl))) ?_
  refine RL.p rfl rfl ?_
  refine RL.op (.free rfl) rfl rfl (Does.call rfl e343 (has_ok M ys vb n _ hv)) ?_
  rintro _ _ ⟨rfl, rfl⟩
  iterate 2 refine RL.p rfl rfl ?_
  refine RL.done ?_
  refine RK.ret_of Tryz.func342 (res1 rfl rfl) ?_ _
  exact ⟨_, rfl, rfl, Mod.refl _ _⟩
theorem not_ok (M : Nat → Prop) (xs ys : List Int) (va vb : Value) (w : World) (ha : Sl M w va 1 xs.length (ints xs)) (hvb : Sl M w vb 1 ys.length (ints ys)) (hb : xs.length * 8 ≤ 140737488355328) :
    Fx Tryz.prog 278 [va, vb] w (fun u w' => Row w' 3 1 u ((mkRow xs).filter fun n => !ys.contains n).length (ints ((mkRow xs).filter fun n => !ys.contains n)) ∧ Fresh w.heap.size u ∧ Grow w w') := by
  obtain ⟨ad', c', rfl⟩ := hvb.shape
  refine enter Tryz.func278 rfl rfl rfl _ (Pick.sub (l := [0, 1]) (.cons rfl (.cons rfl .nil))) ?_
  refine RK.seq ?_
  refine RK.region ?_
  refine RL.op (.free rfl) rfl rfl (Does.box rfl) ?_
  rintro _ w1 ⟨b1, rfl, hn1⟩
  refine RL.p rfl rfl ?_
  refine RL.done ?_
  refine RK.seq ?_
  refine RK.region ?_
  iterate 2 refine RL.p rfl rfl ?_
  refine RL.op (.free rfl) rfl rfl (Does.call rfl e341 (kept_ok No xs va _ (fun n => !ys.contains n) _ (ha.mod (Mod.any' hn1.grow)).noM hb ⟨_, _, rfl, e342, fun n w' hg => not1_ok No w' b1 ys _ (hn1.blk.mod hg (fun h => h)) (hvb.noM.mod (hn1.grow.trans hg)) n⟩)) ?_
  rintro u2 w2 ⟨hr2, hf2, hg2⟩
  refine RL.p rfl rfl ?_
  refine RL.done ?_
  refine RK.ret_of Tryz.func278 (res1 rfl rfl) ?_ _
  exact ⟨_, rfl, hr2, fun b hb => by have := hf2 b hb; have := hn1.grow.size; omega, hn1.grow.trans hg2⟩
theorem cut_ok (M : Nat → Prop) (xs : List Int) (x : Int) (v : Value) (w : World) (hv : Sl M w v 1 xs.length (ints xs)) (hb : xs.length * 8 ≤ 140737488355328) :
    Fx Tryz.prog 211 [v, .int .i64 x] w (fun u w' => Row w' 3 1 u (cutRow xs x).length (ints (cutRow xs x)) ∧ Fresh w.heap.size u ∧ Grow w w') := by
  have he : (mkRow xs).filter (fun n => ![x].contains n) = cutRow xs x := by
    unfold cutRow
    apply List.filter_congr
    intro y _
    by_cases h : y = x <;> simp [h]
  refine enter Tryz.func211 rfl rfl rfl _ (Pick.sub (l := [0, 1]) (.cons rfl (.cons rfl .nil))) ?_
  refine RK.seq ?_
  refine RK.region ?_
  refine RL.p rfl rfl ?_
  refine RL.done ?_
  refine RK.seq ?_
  refine RK.region ?_
  iterate 2 refine RL.p rfl rfl ?_
  refine RL.op (.free rfl) rfl rfl (Does.slice1 u63 i3 rfl rfl rfl rfl rfl) ?_
  rintro _ w1 ⟨b1, rfl, hn1⟩
  refine RL.op (.free rfl) rfl rfl (Does.call rfl e278 (not_ok No xs [x] v _ _ (hv.mod (Mod.any' hn1.grow)).noM (Sl.new hn1 1 1 rfl (by omega) (fun h => h)) hb)) ?_
  rintro u2 w2 ⟨hr2, hf2, hg2⟩
  refine RL.p rfl rfl ?_
  refine RL.done ?_
  refine RK.ret_of Tryz.func211 (res1 rfl rfl) ?_ _
  exact ⟨_, rfl, by rw [he] at hr2; exact hr2, fun b hb => by have := hf2 b hb; have := hn1.grow.size; omega, hn1.grow.trans hg2⟩
theorem and1_ok (M : Nat → Prop) (w : World) (b : Nat) (ys : List Int) (vb : Value) (hb : Blk w b 63 [vb]) (hv : Sl M w vb 1 ys.length (ints ys)) (n : Int) : Fx Tryz.prog 366 [.int .i64 n, pp b] w (fun u w' => u = .bool (ys.contains n) ∧ Grow w w') := by
  refine enter Tryz.func366 rfl rfl rfl _ (Pick.sub (l := [0, 1]) (.cons rfl (.cons rfl .nil))) ?_
  refine RK.seq ?_
  refine RK.region ?_
  refine RL.p rfl rfl ?_
  refine RL.done ?_
  refine RK.seq ?_
  refine RK.region ?_
  refine RL.q (.free rfl) rfl rfl (Yld.load p63 rfl (at1 (hb.cell rfl))) ?_
  refine RL.p rfl rfl ?_
  refine RL.op (.free rfl) rfl rfl (Does.call rfl e343 (has_ok M ys vb n _ hv)) ?_
  rintro _ _ ⟨rfl, rfl⟩
  refine RL.p rfl rfl ?_
  refine RL.done ?_
  refine RK.ret_of Tryz.func366 (res1 rfl rfl) ?_ _
  exact ⟨_, rfl, rfl, Mod.refl _ _⟩
theorem and_ok (M : Nat → Prop) (xs ys : List Int) (va vb : Value) (w : World) (ha : Sl M w va 1 xs.length (ints xs)) (hvb : Sl M w vb 1 ys.length (ints ys)) (hb : xs.length * 8 ≤ 140737488355328) :
    Fx Tryz.prog 324 [va, vb] w (fun u w' => Row w' 3 1 u ((mkRow xs).filter fun n => ys.contains n).length (ints ((mkRow xs).filter fun n => ys.contains n)) ∧ Fresh w.heap.size u ∧ Grow w w') := by
  obtain ⟨ad', c', rfl⟩ := hvb.shape
  refine enter Tryz.func324 rfl rfl rfl _ (Pick.sub (l := [0, 1]) (.cons rfl (.cons rfl .nil))) ?_
  refine RK.seq ?_
  refine RK.region ?_
  refine RL.op (.free rfl) rfl rfl (Does.box rfl) ?_
  rintro _ w1 ⟨b1, rfl, hn1⟩
  refine RL.p rfl rfl ?_
  refine RL.done ?_
  refine RK.seq ?_
  refine RK.region ?_
  iterate 2 refine RL.p rfl rfl ?_
  refine RL.op (.free rfl) rfl rfl (Does.call rfl e341 (kept_ok No xs va _ (fun n => ys.contains n) _ (ha.mod (Mod.any' hn1.grow)).noM hb ⟨_, _, rfl, e366, fun n w' hg => and1_ok No w' b1 ys _ (hn1.blk.mod hg (fun h => h)) (hvb.noM.mod (hn1.grow.trans hg)) n⟩)) ?_
  rintro u2 w2 ⟨hr2, hf2, hg2⟩
  refine RL.p rfl rfl ?_
  refine RL.done ?_
  refine RK.ret_of Tryz.func324 (res1 rfl rfl) ?_ _
  exact ⟨_, rfl, hr2, fun b hb => by have := hf2 b hb; have := hn1.grow.size; omega, hn1.grow.trans hg2⟩
end Go.Proofs.YtcndimkkojdflaaGreatDoor
set_option linter.unusedVariables false
set_option linter.unusedSimpArgs false
set_option maxHeartbeats 800000
set_option maxRecDepth 100000
namespace Go.Proofs.YtcndimkkojdflaaGreatDoor
open Go Go.X
theorem drop_ok (M : Nat → Prop) (w : World) (ix mh mr : Nat) (has : List (Int × List Lab)) (rows : List (LabK × List Int)) (h : IdxAt M w ix mh mr has rows) (hMh : M mh) (hMr : M mr) (hM : ∀ b, M b → b < w.heap.size) (id : Int)
    (hB : ∀ t ∈ rows, t.2.length ≤ 1000000000000) :
    Fx Tryz.prog 320 [pp ix, .int .i64 id] w (fun u w' => u = .bool (lookM has id).isSome ∧ IdxAt M w' ix mh mr (cutM has id) (dropRows rows id ((lookM has id).getD [])) ∧ Mod (fun b => b = mh ∨ b = mr) w w') := by
  obtain ⟨l, hl1, hl2, hl3⟩ := h.hl
  have n1 : ix ≠ mh := h.blk.ty.nem hl2.mp
  have n2 : ix ≠ mr := by obtain ⟨r, _, hr2, _⟩ := h.rl; exact h.blk.ty.nem hr2.mp
  obtain ⟨ls, hls⟩ : ∃ ls, (lookM has id).getD [] = ls := ⟨_, rfl⟩
  rw [hls]
  obtain ⟨vl, hvl, hv⟩ : ∃ vl, (lookM (l.map fun t => (t.1, t.2.2)) id).getD (.slice none 0 0) = vl ∧ SlL M w vl ls := by
    have e1 := lookM_map (fun a : List Lab × Value => a.1) id l
    have e2 := lookM_map (fun a : List Lab × Value => a.2) id l
    rw [hl1] at e1
    rw [e1] at hls
    rw [e2]
    cases hh : lookM l id with
    | none => rw [hh] at hls; simp at hls; subst hls; exact ⟨_, rfl, Sl.nil _ _ _ _ _⟩
    | some a => rw [hh] at hls; simp at hls; subst hls; exact ⟨_, rfl, hl3 _ (lookM_mem hh)⟩
  have hsome : (lookM (l.map fun t => (t.1, t.2.2)) id).isSome = (lookM has id).isSome := by
    have e1 := lookM_map (fun a : List Lab × Value => a.1) id l
    have e2 := lookM_map (fun a : List Lab × Value => a.2) id l
    rw [hl1] at e1
    rw [e1, e2]; simp
  obtain ⟨ad, c, rfl⟩ := hv.shape
  have hbig := hv.big
  refine enter Tryz.func320 rfl rfl rfl _ (Pick.sub (l := [0, 1]) (.cons rfl (.cons rfl .nil))) ?_
  refine RK.seq ?_
  refine RK.region ?_
  refine RL.p rfl rfl ?_
  refine RL.done ?_
  refine RK.seq ?_
  refine RK.region ?_
  iterate 2 refine RL.p rfl rfl ?_
  refine RL.q (.free rfl) rfl rfl (Yld.fieldAddr fo376_0 rfl) ?_
  refine RL.q (.free rfl) rfl rfl (Yld.load p373 rfl (at1 (h.blk.cell rfl))) ?_
  refine RL.p rfl rfl ?_
  refine RL.q (.free rfl) rfl rfl (Yld.lookup Tryz.underlying373 key3 i122 rfl rfl (fun w' e => e ▸ hl2)) ?_
  refine RL.re (d := 15) rfl rfl (show _ = Value.tuple #[.slice ad ls.length c, .bool (lookM has id).isSome] by rw [hvl, hsome]; rfl) ?_
  iterate 5 refine RL.p rfl rfl ?_
  refine RL.done ?_
  iterate 2 refine RK.seq ?_
  refine RK.region ?_
  refine RL.p rfl rfl ?_
  refine RL.q (.free rfl) rfl rfl (Yld.lenSl u122 rfl) ?_
  refine RL.p rfl rfl ?_
  refine RL.done ?_
  refine RK.block ?_
  refine RK.loop (fun k : Nat => [(0, pp ix), (1, .int .i64 id), (18, .slice ad ls.length c), (19, .int .i64 ls.length), (20, .int .i64 k), (6, .bool (lookM has id).isSome)]) (fun k w' => IdxAt M w' ix mh mr has (dropRows rows id (ls.take k)) ∧ Mod (fun b => b = mh ∨ b = mr) w w' ∧ k ≤ ls.length) (fun k => ls.length - k) 0 ⟨rfl, rfl, rfl, rfl, rfl, rfl, trivial⟩ ⟨by simpa [dropRows] using h, Mod.refl _ _, by omega⟩ (fun k w' hI ih => ?_)
  obtain ⟨hi, hmod, hk⟩ := hI
  refine RK.seq ?_
  refine RK.region ?_
  refine RL.p rfl rfl ?_
  refine RL.done ?_
  refine RK.seq ?_
  first | refine RK.condD rfl (fun h21 => ?_) (fun h21 => ?_) | refine RK.condN rfl (fun h21 => ?_) (fun h21 => ?_) | refine RK.cond rfl (fun h21 => ?_) (fun h21 => ?_)
  · obtain ⟨x, hx⟩ : ∃ x, ls[k]? = some x := ⟨ls[k]'(by omega), List.getElem?_eq_getElem (by omega)⟩
    obtain ⟨bx, ox, cx, he, hbM, hkl, hcell⟩ := hv.elem labC_len hx
    cases he
    obtain ⟨r, hr1, hr2, hr3⟩ := hi.rl
    have hmodM : Mod M w w' := hmod.mono fun b _ e => by rcases e with rfl | rfl <;> assumption
    have htk : ls.take (k + 1) = ls.take k ++ [x] := by rw [List.take_succ_eq_append_getElem (by omega)]; congr 2; exact (List.getElem?_eq_some_iff.1 hx).2
    have hbnd : ((lookM (dropRows rows id (ls.take k)) (labK x)).getD []).length ≤ 1000000000000 := look_bound (dropRows_bound hB id (ls.take k)) (labK x)
    obtain ⟨row0, hrow0⟩ : ∃ row0, (lookM (dropRows rows id (ls.take k)) (labK x)).getD [] = row0 := ⟨_, rfl⟩
    rw [hrow0] at hbnd
    obtain ⟨vv, hval, hsl⟩ : ∃ vv, (lookM (r.map fun t => (t.1, t.2.2)) (labK x)).getD (.slice none 0 0) = vv ∧ Sl M w' vv 1 row0.length (ints row0) := by
        rw [← hrow0]
        have e1 := lookM_map (fun a : List Int × Value => a.1) (labK x) r
        have e2 := lookM_map (fun a : List Int × Value => a.2) (labK x) r
        rw [hr1] at e1
        rw [e1, e2]
        cases hh : lookM r (labK x) with
        | none => exact ⟨_, rfl, Sl.nil _ _ _ _ _⟩
        | some a => exact ⟨_, rfl, hr3 _ (lookM_mem hh)⟩
    refine RK.skip ?_
    refine RK.seq ?_
    refine RK.block ?_
    refine RK.seq ?_
    refine RK.region ?_
    refine RL.q (.free rfl) rfl rfl (Yld.indexAddrN u122 i333 rfl rfl (by omega)) ?_
    refine RL.q (.free rfl) rfl rfl (Yld.loadN (cs := [.string x.name, .string x.value]) a333 rfl (atN (fun j u hj => hmodM.cell (hcell j u hj) hbM))) ?_
    refine RL.op (.free rfl) rfl rfl (Does.alloc i333) ?_
    rintro _ w5 ⟨b1, rfl, hn1⟩
    refine RL.op' (.free rfl) rfl (Does.storeN i333 rfl rfl rfl rfl hn1.blk (Nat.le_refl 2)) ?_
    rintro _ w6 ⟨hb6, hm6, _⟩
    have hB6 : Blk w6 b1 333 [.string x.name, .string x.value] := hb6
    have hg6 : Grow w' w6 := hn1.grow.then hm6 (fun y hy e => by have e' : y = b1 := e; have := hn1.at_; omega)
    refine RL.done ?_
    refine RK.seq ?_
    refine RK.drawM No [(0, false), (1, false), (2, false), (3, false), (4, false), (5, false), (6, false), (7, false), (8, false), (9, false), (10, false), (11, false), (12, true), (13, true)] [13] mixed (by kernel_rfl) ?_
    iterate 2 refine DL.p rfl rfl rfl ?_
    refine DL.qf rfl (.free rfl) rfl rfl (Yld.fieldAddr fo376_1 rfl) ?_
    refine DL.q rfl (.free rfl) rfl rfl rfl (Yld.load p374 rfl (atM ((hi.blk.mod hg6 (fun h => h)).cell rfl) (fun h => h))) (Mod.drew _ _) ?_
    refine DL.q rfl (.free rfl) rfl rfl rfl (Yld.loadN (cs := [.string x.name, .string x.value]) a333 rfl (atNM (fun j u hj => by rw [Nat.zero_add]; exact hB6.cell' hj) (fun h => h))) (Mod.drew _ _) ?_
    iterate 2 refine DL.p rfl rfl rfl ?_
    refine DL.qf rfl (.free rfl) rfl rfl (Yld.fieldAddr fo376_1 rfl) ?_
    refine DL.q rfl (.free rfl) rfl rfl rfl (Yld.load p374 rfl (atM ((hi.blk.mod hg6 (fun h => h)).cell rfl) (fun h => h))) (Mod.drew _ _) ?_
    refine DL.q rfl (.free rfl) rfl rfl rfl (Yld.loadN (cs := [.string x.name, .string x.value]) a333 rfl (atNM (fun j u hj => by rw [Nat.zero_add]; exact hB6.cell' hj) (fun h => h))) (Mod.drew _ _) ?_
    refine DL.q rfl (.free rfl) rfl rfl rfl (Yld.lookup Tryz.underlying374 key333 i63 (k := labK x) rfl rfl (fun w' hm => (hr2.mod hg6 (fun h => h)).mod hm (fun h => h))) (Mod.drew _ _) ?_
    refine DL.re (d := 34) rfl rfl (hval) ?_
    refine DL.p rfl rfl rfl ?_
    refine DL.op rfl (.free rfl) rfl rfl (Does.call rfl e211 (cut_ok M row0 id vv _ ((hsl.mod (Mod.any' hg6)).mod (Mod.drew M _)) (by omega))) ?_
    rintro u7 w7 ⟨hr7, hf7, hg7⟩
    refine ⟨(Mod.drew _ _).trans hg7, ?_⟩
    have hg07 : Grow w' w7 := (hg6.trans (Mod.drew _ _)).trans hg7
    refine DL.opT rfl (.free rfl) rfl rfl (Does.mapUpdate Tryz.underlying374 key333 (k := labK x) rfl rfl rfl (hr2.mod hg07 (fun h => h))) ?_
    rintro _ w8 ⟨hm8, hmod8, hs8⟩
    obtain ⟨ad7, c7, rfl⟩ := hr7.slice
    have hmodk : Mod (· = mr) w' w8 := (Mod.any' hg07).trans hmod8
    have hb1r : b1 ≠ mr := hB6.ty.nem (hr2.mod hg6 (fun h => h)).mp
    have hB8 : Blk w8 b1 333 [.string x.name, .string x.value] := (hB6.mod ((Mod.drew No _).trans hg7) (fun h => h)).mod hmod8 hb1r
    have hu7 : Sl M w8 (.slice ad7 (cutRow row0 id).length c7) 1 (cutRow row0 id).length (ints (cutRow row0 id)) := (Sl.own hr7 (fun b e hb => by have h1 := hf7 b e; have h2 := hM b hb; have h3 := hg6.size; have h4 := hmod.size; simp only [World.drew] at h1; omega)).mod (hmod8.mono fun b _ e => e ▸ hMr)
    have hI8 : ∀ w9, Mod (· = mr) w8 w9 → ∀ r9 : List (LabK × (List Int × Value)), (∀ t ∈ r9, t ∈ putM r (labK x) (cutRow row0 id, .slice ad7 (cutRow row0 id).length c7)) → MapAt pairV w9 mr (r9.map fun t => (t.1, t.2.2)) → r9.map (fun t => (t.1, t.2.1)) = dropRows rows id (ls.take (k + 1)) → IdxAt M w9 ix mh mr has (dropRows rows id (ls.take (k + 1))) := by
        intro w9 h9 r9 hsub hmap hrows
        obtain ⟨l', hl1', hl2', hl3'⟩ := hi.hl
        have hm9 := hmodk.trans h9
        refine ⟨hi.blk.mod hm9 n2, hi.ne, ⟨l', hl1', hl2'.mod hm9 hi.ne, fun t ht => (hl3' t ht).mod (hm9.mono fun b _ e => e ▸ hMr)⟩, ⟨r9, hrows, hmap, fun t ht => ?_⟩⟩
        rcases mem_putM (hsub t ht) with h1 | rfl
        · exact (hr3 t h1).mod (hm9.mono fun b _ e => e ▸ hMr)
        · exact hu7.mod (h9.mono fun b _ e => e ▸ hMr)
    have hput : (putM r (labK x) (cutRow row0 id, Value.slice ad7 (cutRow row0 id).length c7)).map (fun t => (t.1, t.2.1)) = putM (dropRows rows id (ls.take k)) (labK x) (cutRow row0 id) := by
        rw [← hr1]; exact (putM_map (fun a : List Int × Value => a.1) (labK x) (_, Value.slice ad7 (cutRow row0 id).length c7) r).symm
    have hput2 : MapAt pairV w8 mr ((putM r (labK x) (cutRow row0 id, Value.slice ad7 (cutRow row0 id).length c7)).map fun t => (t.1, t.2.2)) := by
        rw [← putM_map (fun a : List Int × Value => a.2) (labK x) (_, Value.slice ad7 (cutRow row0 id).length c7) r]; exact hm8
    have hlk8 : (lookM ((putM r (labK x) (cutRow row0 id, Value.slice ad7 (cutRow row0 id).length c7)).map fun t => (t.1, t.2.2)) (labK x)).getD (.slice none 0 0) = .slice ad7 (cutRow row0 id).length c7 := by
        rw [lookM_map (fun a : List Int × Value => a.2), lookM_putM]; simp
    refine DL.done ?_
    refine RK.seq ?_
    refine RK.drawM No [(0, false), (1, false), (2, false), (3, false), (4, false), (5, false), (6, false), (7, false)] [] mixed (by kernel_rfl) ?_
    iterate 2 refine DL.p rfl rfl rfl ?_
    refine DL.qf rfl (.free rfl) rfl rfl (Yld.fieldAddr fo376_1 rfl) ?_
    refine DL.q rfl (.free rfl) rfl rfl rfl (Yld.load p374 rfl (atM ((hi.blk.mod hmodk n2).cell rfl) (fun h => h))) (Mod.drew _ _) ?_
    refine DL.q rfl (.free rfl) rfl rfl rfl (Yld.loadN (cs := [.string x.name, .string x.value]) a333 rfl (atNM (fun j u hj => by rw [Nat.zero_add]; exact hB8.cell' hj) (fun h => h))) (Mod.drew _ _) ?_
    refine DL.q rfl (.free rfl) rfl rfl rfl (Yld.lookup Tryz.underlying374 key333 i63 (k := labK x) rfl rfl (fun w' hm => hput2.mod hm (fun h => h))) (Mod.drew _ _) ?_
    refine DL.re (d := 42) rfl rfl (hlk8) ?_
    refine DL.q rfl (.free rfl) rfl rfl rfl (Yld.lenSl u63 rfl) (Mod.drew _ _) ?_
    refine DL.p rfl rfl rfl ?_
    refine DL.done ?_
    first | refine RK.condD rfl (fun h44 => ?_) (fun h44 => ?_) | refine RK.condN rfl (fun h44 => ?_) (fun h44 => ?_) | refine RK.cond rfl (fun h44 => ?_) (fun h44 => ?_)
    · have hemp : cutRow row0 id = [] := List.eq_nil_of_length_eq_zero (by omega)
      have hstep : cutM (putM (dropRows rows id (ls.take k)) (labK x) (cutRow row0 id)) (labK x) = dropRows rows id (ls.take (k + 1)) := by rw [htk, dropRows_snoc, cutRow1, hrow0, if_pos hemp]
      have hput3 := hput2.mod (Mod.drew No w8) (fun h => h)
      refine RK.drawM No [(0, false), (1, false), (2, false), (3, false), (4, false), (5, true)] [5] mixed (by kernel_rfl) ?_
      iterate 2 refine DL.p rfl rfl rfl ?_
      refine DL.qf rfl (.free rfl) rfl rfl (Yld.fieldAddr fo376_1 rfl) ?_
      refine DL.q rfl (.free rfl) rfl rfl rfl (Yld.load p374 rfl (atM ((hi.blk.mod (hmodk.trans (Mod.drew _ _)) n2).cell rfl) (fun h => h))) (Mod.drew _ _) ?_
      refine DL.q rfl (.free rfl) rfl rfl rfl (Yld.loadN (cs := [.string x.name, .string x.value]) a333 rfl (atNM (fun j u hj => by rw [Nat.zero_add]; exact (hB8.mod (Mod.drew No _) (fun h => h)).cell' hj) (fun h => h))) (Mod.drew _ _) ?_
      refine DL.opT rfl (.free rfl) rfl rfl (Does.delete Tryz.underlying374 key333 (k := labK x) rfl rfl ((hput2.mod (Mod.drew No w8) (fun h => h)).mod (Mod.drew No _) (fun h => h))) ?_
      rintro _ w9 ⟨hm9, hmod9, hs9⟩
      have hmod89 : Mod (· = mr) w8 w9 := ((Mod.drew _ _).trans (Mod.drew _ _)).trans hmod9
      have hidx9 := hI8 w9 hmod89 (cutM (putM r (labK x) (cutRow row0 id, Value.slice ad7 (cutRow row0 id).length c7)) (labK x)) (fun t ht => mem_cutM' ht) (by rw [← cutM_map (fun a : List Int × Value => a.2) (labK x)]; exact hm9) (by rw [← hstep, ← hput]; exact (cutM_map (fun a : List Int × Value => a.1) (labK x) _).symm)
      refine DL.done ?_
      refine RK.inBlock ?_
      refine RK.region ?_
      refine RL.p rfl rfl ?_
      refine RL.re (d := 50) rfl rfl (succ_i64 (by omega)) ?_
      refine RL.p rfl rfl ?_
      refine RL.done ?_
      exact RK.back (ih (k + 1) _ ⟨hidx9, hmod.trans ((hmodk.trans hmod89).mono fun b _ e => .inr e), by omega⟩ (by omega)) ⟨rfl, rfl, rfl, rfl, rfl, rfl, trivial⟩
    · have hemp : ¬ cutRow row0 id = [] := fun e => h44 (by rw [e]; rfl)
      have hstep : putM (dropRows rows id (ls.take k)) (labK x) (cutRow row0 id) = dropRows rows id (ls.take (k + 1)) := by rw [htk, dropRows_snoc, cutRow1, hrow0, if_neg hemp]
      have hidx9 := hI8 w8.drew (Mod.drew _ _) _ (fun t ht => ht) (hput2.mod (Mod.drew No _) (fun h => h)) (hput.trans hstep)
      refine RK.skip ?_
      refine RK.inBlock ?_
      refine RK.region ?_
      refine RL.p rfl rfl ?_
      refine RL.re (d := 50) rfl rfl (succ_i64 (by omega)) ?_
      refine RL.p rfl rfl ?_
      refine RL.done ?_
      exact RK.back (ih (k + 1) _ ⟨hidx9, hmod.trans ((hmodk.trans (Mod.drew _ _)).mono fun b _ e => .inr e), by omega⟩ (by omega)) ⟨rfl, rfl, rfl, rfl, rfl, rfl, trivial⟩
  · have ek : ls.take k = ls := List.take_of_length_le (by omega)
    rw [ek] at hi
    obtain ⟨l', hl1', hl2', hl3'⟩ := hi.hl
    refine RK.exit rfl ?_
    refine RK.seq ?_
    refine RK.region ?_
    iterate 2 refine RL.p rfl rfl ?_
    refine RL.q (.free rfl) rfl rfl (Yld.fieldAddr fo376_0 rfl) ?_
    refine RL.q (.free rfl) rfl rfl (Yld.load p373 rfl (at1 (hi.blk.cell rfl))) ?_
    refine RL.p rfl rfl ?_
    refine RL.op' (.free rfl) rfl (Does.delete Tryz.underlying373 key3 (k := id) rfl rfl hl2') ?_
    rintro _ w9 ⟨hm9, hmod9, hs9⟩
    refine RL.done ?_
    refine RK.seq ?_
    refine RK.region ?_
    iterate 2 refine RL.p rfl rfl ?_
    refine RL.done ?_
    refine RK.ret_of Tryz.func320 (res1 rfl rfl) ?_ _
    exact ⟨_, rfl, rfl, by
        obtain ⟨r, hr1, hr2, hr3⟩ := hi.rl
        refine ⟨hi.blk.mod hmod9 n1, hi.ne, ⟨cutM l' id, ?_, ?_, fun t ht => ?_⟩, ⟨r, hr1, hr2.mod hmod9 hi.ne.symm, fun t ht => (hr3 t ht).mod (hmod9.mono fun b _ e => e ▸ hMh)⟩⟩
        · rw [← hl1']; exact (cutM_map (fun a : List Lab × Value => a.1) id l').symm
        · rw [← cutM_map (fun a : List Lab × Value => a.2) id l']; exact hm9
        · exact (hl3' t (mem_cutM' ht)).mod (hmod9.mono fun b _ e => e ▸ hMh)
      , hmod.trans (hmod9.mono fun b _ e => .inl e)⟩
end Go.Proofs.YtcndimkkojdflaaGreatDoor
set_option linter.unusedVariables false
set_option linter.unusedSimpArgs false
set_option maxHeartbeats 400000
set_option maxRecDepth 100000
namespace Go.Proofs.YtcndimkkojdflaaGreatDoor
open Go Go.X
def giveS (out : List Int) (id : Int) : List Int := if out.contains id then cutRow out id else out
end Go.Proofs.YtcndimkkojdflaaGreatDoor
set_option linter.unusedVariables false
set_option linter.unusedSimpArgs false
set_option maxHeartbeats 800000
set_option maxRecDepth 100000
namespace Go.Proofs.YtcndimkkojdflaaGreatDoor
open Go Go.X
end Go.Proofs.YtcndimkkojdflaaGreatDoor
set_option linter.unusedVariables false
set_option linter.unusedSimpArgs false
set_option maxHeartbeats 800000
set_option maxRecDepth 100000
namespace Go.Proofs.YtcndimkkojdflaaGreatDoor
open Go Go.X
def placeS (s : St) (id : Int) : Option Nat := s.al.findIdx? fun a => decide (a.1 = id)
def resolveS (s : St) (id : Int) : St × Int :=
  match placeS s id with
  | none => (s, 5)
  | some i => ({ s with al := s.al.eraseIdx i, out := giveS s.out id, has := cutM s.has id, rows := dropRows s.rows id ((lookM s.has id).getD []) }, 0)
end Go.Proofs.YtcndimkkojdflaaGreatDoor
set_option linter.unusedVariables false
set_option linter.unusedSimpArgs false
set_option maxHeartbeats 800000
set_option maxRecDepth 100000
namespace Go.Proofs.YtcndimkkojdflaaGreatDoor
open Go Go.X
theorem told_ok (M : Nat → Prop) (a : Al) (w : World) (ha : SlL M w a.v a.ls) (hb : a.ls.length ≤ 1000) :
    Fx Tryz.prog 267 [.agg #[.int .i64 a.id, a.v, .float .f64 a.val]] w (fun u w' => ∃ ad c, u = .agg #[.int .i64 a.id, .slice ad a.ls.length c, .float .f64 a.val] ∧ Row w' 333 2 (.slice ad a.ls.length c) a.ls.length (a.ls.flatMap labC) ∧ Fresh w.heap.size (.slice ad a.ls.length c) ∧ Grow w w') := by
  obtain ⟨ad, c, hva⟩ := ha.shape
  obtain ⟨aid, als, val, va⟩ := a
  simp only at hva ha hb
  subst hva
  refine enter Tryz.func267 rfl rfl rfl _ (Pick.sub (l := [0]) (.cons rfl .nil)) ?_
  refine RK.seq ?_
  refine RK.region ?_
  refine RL.op (.free rfl) rfl rfl (Does.box rfl) ?_
  rintro _ w1 ⟨b1, rfl, hn1⟩
  refine RL.op (.free rfl) rfl rfl (Does.alloc i280) ?_
  rintro _ w2 ⟨b2, rfl, hn2⟩
  have hg02 := hn1.grow.trans hn2.grow
  have h11 := hn1.at_
  have h12 := hn1.size
  have h21 := hn2.at_
  have h22 := hn2.size
  refine RL.done ?_
  refine RK.seq ?_
  refine RK.region ?_
  refine RL.q (.free rfl) rfl rfl (Yld.fieldAddr fo280_1 rfl) ?_
  refine RL.q (.free rfl) rfl rfl (Yld.load p122 rfl (at1 ((hn1.blk.mod hn2.grow (fun h => h)).cell rfl))) ?_
  refine RL.op (.free rfl) rfl rfl (Does.call rfl e318 (cloneL_ok M als _ _ (ha.mod (Mod.any' hg02)) hb)) ?_
  rintro u3 w3 ⟨hr3, hf3, hg3⟩
  obtain ⟨ad3, c3, rfl⟩ := hr3.slice
  refine RL.q (.free rfl) rfl rfl (Yld.fieldAddr fo280_1 rfl) ?_
  refine RL.op' (.free rfl) rfl (Does.store i122 rfl rfl rfl (hn1.blk.mod (hn2.grow.trans hg3) (fun h => h)) (.s .z)) ?_
  rintro _ w4 ⟨hb4, hm4, hs4⟩
  refine RL.done ?_
  refine RK.seq ?_
  refine RK.region ?_
  refine RL.q (.free rfl) rfl rfl (Yld.loadN (cs := [.int .i64 aid, .slice ad3 als.length c3, .float .f64 val]) a280 rfl (atN (fun j u hj => by rw [Nat.zero_add]; exact Blk.cell' hb4 hj))) ?_
  refine RL.op' (.free rfl) rfl (Does.storeN i280 rfl rfl rfl rfl ((hn2.blk.mod hg3 (fun h => h)).mod hm4 (by omega)) (Nat.le_refl 3)) ?_
  rintro _ w5 ⟨hb5, hm5, _⟩
  refine RL.done ?_
  refine RK.ret_of Tryz.func267 (resC (cs := [.int .i64 aid, .slice ad3 als.length c3, .float .f64 val]) rfl rfl a280 hb5) ?_ _
  exact ⟨_, rfl, ad3, c3, rfl, (hr3.mod hm4 (fun b e e2 => by have e2' : b = b1 := e2; have := hf3 b e; omega)).mod hm5 (fun b e e2 => by have e2' : b = b2 := e2; have := hf3 b e; omega), fun b e => by have := hf3 b e; omega, ((hg02.trans hg3).then hm4 (fun b hb e => by have e' : b = b1 := e; omega)).then hm5 (fun b hb e => by have e' : b = b2 := e; omega)⟩
theorem all_ok (w : World) (p : Nat) (s : St) (M : Nat → Prop) (h : StoreAt w p s M) (hb : s.al.length ≤ 1000000) (hl : ∀ a ∈ s.al, a.2.1.length ≤ 1000) :
    Fx Tryz.prog 256 [pp p] w (fun u w' => ∃ al' : List Al, Row w' 280 3 u al'.length (al'.flatMap alC) ∧ al'.map pub = s.al ∧ (∀ a ∈ al', SlL No w' a.v a.ls) ∧ Grow w w') := by
  obtain ⟨q, ix, mh, mr, vo, vl, al, hO, h⟩ := h
  have hlen : al.length = s.al.length := by rw [← h.als]; simp
  have hsl := Sl.own (M := No) h.row (fun _ _ h => h)
  obtain ⟨ad, c, rfl⟩ := h.row.slice
  refine enter Tryz.func256 rfl rfl rfl _ (Pick.sub (l := [0]) (.cons rfl .nil)) ?_
  refine RK.seq ?_
  refine RK.region ?_
  refine RL.p rfl rfl ?_
  refine RL.done ?_
  refine RK.seq ?_
  refine RK.region ?_
  refine RL.p rfl rfl ?_
  refine RL.done ?_
  iterate 2 refine RK.seq ?_
  refine RK.region ?_
  iterate 2 refine RL.p rfl rfl ?_
  refine RL.q (.free rfl) rfl rfl (Yld.fieldAddr fo292_2 rfl) ?_
  refine RL.q (.free rfl) rfl rfl (Yld.load p290 rfl (at1 (h.blk.cell rfl))) ?_
  refine RL.q (.free rfl) rfl rfl (Yld.lenSl u290 rfl) ?_
  refine RL.p rfl rfl ?_
  refine RL.done ?_
  refine RK.block ?_
  refine RK.loop (fun s : Nat × Value => [(9, .slice ad al.length c), (10, .int .i64 al.length), (11, .int .i64 (s.1 : Int)), (3, s.2)]) (fun s w' => (∃ al' : List Al, al'.length = s.1 ∧ Row w' 280 3 s.2 s.1 (al'.flatMap alC) ∧ al'.map pub = (al.take s.1).map pub ∧ ∀ a ∈ al', SlL (fun b => s.2.ownBlock = some b) w' a.v a.ls) ∧ Fresh w.heap.size s.2 ∧ Grow w w' ∧ s.1 ≤ al.length) (fun s => al.length - s.1) (0, .slice none 0 0) ⟨rfl, rfl, rfl, rfl, trivial⟩ ⟨⟨[], rfl, Row.nil _ _ _, rfl, by simp⟩, fun b hb => by simp [Value.ownBlock] at hb, Mod.refl _ _, by simp⟩ (fun s w' hI ih => ?_)
  obtain ⟨k, u⟩ := s
  obtain ⟨⟨al', hl', hr, hpub, hsls⟩, hf, hg, hk⟩ := hI
  simp only at hl' hr hpub hsls hf hk
  refine RK.seq ?_
  refine RK.region ?_
  refine RL.p rfl rfl ?_
  refine RL.done ?_
  refine RK.seq ?_
  first | refine RK.condD rfl (fun h12 => ?_) (fun h12 => ?_) | refine RK.condN rfl (fun h12 => ?_) (fun h12 => ?_) | refine RK.cond rfl (fun h12 => ?_) (fun h12 => ?_)
  · obtain ⟨a, hx⟩ : ∃ a, al[k]? = some a := ⟨al[k]'(by omega), List.getElem?_eq_getElem (by omega)⟩
    obtain ⟨b1, o1, c1', he1, _, _, hc1⟩ := hsl.elem alC_len hx
    cases he1
    have hsx : (a.id, a.ls, a.val) ∈ s.al := by rw [← h.als]; exact List.mem_map_of_mem (f := pub) (List.mem_of_getElem? hx)
    have hsla := h.sls a (List.mem_of_getElem? hx)
    obtain ⟨ada, ca, hva⟩ := hsla.shape
    obtain ⟨aid, als, aval, av⟩ := a
    simp only at hva hsx hsla
    subst hva
    refine RK.skip ?_
    refine RK.seq ?_
    refine RK.block ?_
    refine RK.seq ?_
    refine RK.region ?_
    refine RL.q (.free rfl) rfl rfl (Yld.indexAddrN u290 i280 rfl rfl (by omega)) ?_
    refine RL.q (.free rfl) rfl rfl (Yld.loadN (cs := [.int .i64 aid, .slice ada als.length ca, .float .f64 aval]) a280 rfl (atN (fun q u hq => hg.cell (hc1 q u hq) (fun h => h)))) ?_
    refine RL.op (.free rfl) rfl rfl (Does.alloc i280) ?_
    rintro _ w2 ⟨b2, rfl, hn2⟩
    refine RL.op' (.free rfl) rfl (Does.storeN i280 rfl rfl rfl rfl hn2.blk (Nat.le_refl 3)) ?_
    rintro _ w3 ⟨hb3, hm3, _⟩
    have hB3 : Blk w3 b2 280 [.int .i64 aid, .slice ada als.length ca, .float .f64 aval] := hb3
    have hg3 : Grow w' w3 := hn2.grow.then hm3 (fun y hy e => by have e' : y = b2 := e; have := hn2.at_; omega)
    refine RL.done ?_
    refine RK.region ?_
    refine RL.p rfl rfl ?_
    refine RL.q (.free rfl) rfl rfl (Yld.loadN (cs := [.int .i64 aid, .slice ada als.length ca, .float .f64 aval]) a280 rfl (atN (fun q u hq => by rw [Nat.zero_add]; exact hB3.cell' hq))) ?_
    refine RL.op (.free rfl) rfl rfl (Does.call rfl e267 (told_ok M ⟨aid, als, aval, .slice ada als.length ca⟩ _ (hsla.mod (Mod.any' (hg.trans hg3))) (hl _ hsx))) ?_
    rintro _ w4 ⟨ad4, c4, rfl, hr4, hf4, hg4⟩
    refine RL.op (.free rfl) rfl rfl (Does.slice1 u290 i280 rfl rfl rfl rfl rfl) ?_
    rintro _ w5 ⟨b5, rfl, hn5⟩
    have hg35 := (hg3.trans hg4).trans hn5.grow
    have hb5 : al'.length + 1 ≤ 1000001 := by omega
    refine RL.op (.free rfl) rfl rfl (Does.append u290 i280 rfl rfl rfl rfl rfl (hr.mod hg35 (fun _ _ h => h)) (Sl.new hn5 3 1 rfl (by omega) (fun h => h)) (rfl) (by omega)) ?_
    rintro u6 w6 ⟨hr6, hm6, hu6⟩
    have hs35 := hg35.size
    have hs3 := hg3.size
    have hs4 := hg4.size
    have hs5 := hn5.grow.size
    have hlt5 : ∀ b, u.ownBlock = some b → b < w'.heap.size := fun b e => hr.lt e
    have hoff : ∀ b, b < w5.heap.size → (u.ownBlock = some b ∨ u6.ownBlock = some b) → u.ownBlock = some b := fun b hb e => by
        rcases e with e | e
        · exact e
        · rcases hu6 with h1 | h1
          · rw [← h1]; exact e
          · rw [h1] at e; cases e; omega
    have hr4' := hr4.mod hn5.grow (fun _ _ h => h)
    have hslN : SlL (fun b => u.ownBlock = some b ∨ u6.ownBlock = some b) w5 (.slice ad4 als.length c4) als := Sl.own hr4' (fun b e hb => by have h1 := hr4'.lt e; have h2 := hf4 b e; have h3 := hlt5 b (hoff b h1 hb); omega)
    refine RL.p rfl rfl ?_
    refine RL.done ?_
    refine RK.inBlock ?_
    refine RK.region ?_
    refine RL.p rfl rfl ?_
    refine RL.re (d := 20) rfl rfl (succ_i64 (by omega)) ?_
    refine RL.p rfl rfl ?_
    refine RL.done ?_
    exact RK.back (ih (k + 1, u6) _ ⟨⟨al' ++ [⟨aid, als, aval, .slice ad4 als.length c4⟩], by simp [hl'], by
        have e1 : (al' ++ [(⟨aid, als, aval, .slice ad4 als.length c4⟩ : Al)]).flatMap alC = al'.flatMap alC ++ (Value.agg #[.int .i64 aid, .slice ad4 als.length c4, .float .f64 aval]).cells.toList := by simp [alC, Value.cells]
        rw [e1]; exact hr6, by
        rw [List.map_append, hpub, List.take_succ_eq_append_getElem (by omega), List.map_append, (List.getElem?_eq_some_iff.1 hx).2]
        rfl, fun a' ha' => by
        rcases List.mem_append.1 ha' with h1 | h1
        · exact ((((hsls a' h1).mod (Mod.any' hg35)).off (by omega) hoff).mod (hm6.mono fun b _ e => .inl e)).off (by omega) (fun b _ e => .inr e)
        · simp at h1; subst h1
          exact (hslN.mod (hm6.mono fun b _ e => .inl e)).off (by omega) (fun b _ e => .inr e)⟩, fun b e => by
        rcases hu6 with h1 | h1
        · exact hf b (h1 ▸ e)
        · simp only at e; rw [h1] at e; cases e; have := hg.size; omega, (hg.trans hg35).then hm6 (fun b hb e => by have := hf b e; omega), by simp only; omega⟩ (by simp only; omega)) ⟨rfl, rfl, rfl, rfl, trivial⟩
  · have ek : al.take k = al := List.take_of_length_le (by omega)
    rw [ek, h.als] at hpub
    refine RK.exit rfl ?_
    refine RK.seq ?_
    refine RK.region ?_
    iterate 2 refine RL.p rfl rfl ?_
    refine RL.done ?_
    refine RK.ret_of Tryz.func256 (res1 rfl rfl) ?_ _
    exact ⟨_, rfl, al', by rw [hl']; exact hr, hpub, fun a ha => (hsls a ha).noM, hg⟩
end Go.Proofs.YtcndimkkojdflaaGreatDoor
set_option linter.unusedVariables false
set_option linter.unusedSimpArgs false
set_option maxHeartbeats 400000
set_option maxRecDepth 100000
namespace Go.Proofs.YtcndimkkojdflaaGreatDoor
open Go Go.X
abbrev AlS := Int × List Lab × Nat
def hasOf (al : List AlS) : List (Int × List Lab) := al.map fun a => (a.1, a.2.1)
structure Gd (s : St) : Prop where
  ids : Ris (s.al.map (·.1))
  out : s.out = s.al.map (·.1)
  has : s.has = hasOf s.al
  ix : IxI s.has s.rows
  le : ∀ a ∈ s.al, 1 ≤ a.1 ∧ a.1 ≤ s.last
  sets : ∀ a ∈ s.al, isS a.2.1 = true
theorem Gd.new (m : Int) : Gd (St.new m) := ⟨by simp [St.new], rfl, rfl, IxI.nil, by simp [St.new], by simp [St.new]⟩
structure KM (M : Nat → Prop) (w : World) (p : Nat) (s : St) : Prop where
  at_ : StoreAt w p s M
  ok : Ok s
  gd : Gd s
theorem Gd.labs {s : St} (h : Gd s) : ∀ a ∈ s.al, a.2.1.length ≤ 1000 := fun a ha => by have := isS_len (h.sets a ha); omega
theorem KM.len16 {M : Nat → Prop} {w : World} {p : Nat} {s : St} (h : KM M w p s) : s.al.length ≤ 16 ∧ s.out.length ≤ 16 := by
  have h1 := h.ok.most; have h2 := h.ok.outLe; have h3 := h.ok.alOut
  omega
theorem KM.lt {M : Nat → Prop} {w : World} {p : Nat} {s : St} (h : KM M w p s) {b : Nat} (hb : M b) : b < w.heap.size := h.at_.lt hb
theorem KM.grow {M : Nat → Prop} {w w' : World} {p : Nat} {s : St} (h : KM M w p s) (hg : Grow w w') : KM M w' p s := ⟨h.at_.grow hg, h.ok, h.gd⟩
theorem KM.all {M : Nat → Prop} {w : World} {p : Nat} {s : St} (h : KM M w p s) : Fx Tryz.prog 256 [pp p] w (fun u w' => ∃ al' : List Al, Row w' 280 3 u al'.length (al'.flatMap alC) ∧ al'.map pub = s.al ∧ (∀ a ∈ al', SlL No w' a.v a.ls) ∧ Grow w w') :=
  all_ok w p s M h.at_ (by have := h.len16; omega) h.gd.labs
theorem KM.size {M : Nat → Prop} {w : World} {p : Nat} {s : St} (h : KM M w p s) : Fx Tryz.prog 145 [pp p] w (fun u w' => u = .int .i64 s.al.length ∧ w = w') := alertLen_ok w p s M h.at_
structure KX (O M : Nat → Prop) (w : World) (p : Nat) (s : St) : Prop where
  at_ : StoreX O M w p s
  ok : Ok s
  gd : Gd s
theorem KX.grow {O M : Nat → Prop} {w w' : World} {p : Nat} {s : St} (h : KX O M w p s) (hg : Grow w w') : KX O M w' p s := ⟨h.at_.grow hg, h.ok, h.gd⟩
theorem KX.off {O M M' : Nat → Prop} {w : World} {p : Nat} {s : St} (h : KX O M w p s) (h1 : ∀ b, O b → M' b) (h2 : ∀ b, M' b → M b) : KX O M' w p s := ⟨h.at_.off h1 h2, h.ok, h.gd⟩
theorem KX.mod {O M N : Nat → Prop} {w w' : World} {p : Nat} {s : St} (h : KX O M w p s) (hm : Mod N w w') (h1 : ∀ b, O b → ¬ N b) (h2 : ∀ b, N b → b < w.heap.size → M b) : KX O M w' p s := ⟨h.at_.mod hm h1 h2, h.ok, h.gd⟩
end Go.Proofs.YtcndimkkojdflaaGreatDoor
namespace Go.Proofs
open Go.Shelf
def Tryz.keys365_ren : Go.Shelf.Ren := ⟨fun | 7 => 365 | 10 => 391 | n => n, fun | 23 => 373 | 26 => 3 | 3 => 122 | 28 => 445 | 0 => 0 | 27 => 444 | 33 => 129 | 4 => 4 | n => n, fun | n => n⟩
theorem Tryz.keys365 : Go.Proofs.SlLaysZI.n7 Tryz.prog Tryz.keys365_ren := {
  mixed := by kernel_rfl
  f7 := ⟨Tryz.f365.name, by decide, Tryz.func365.trans (congrArg some (by kernel_rfl))⟩
  f10 := ⟨Tryz.f391.name, by decide, Tryz.func391.trans (congrArg some (by kernel_rfl))⟩
  t0 := Tryz.underlying0
  a0 := Tryz.isAgg0
  z0 := Tryz.sizeOf0
  v0 := Tryz.zeroValue0
  t4 := Tryz.underlying4
  a4 := Tryz.isAgg4
  z4 := Tryz.sizeOf4
  v4 := Tryz.zeroValue4
  t23 := Tryz.underlying373
  a23 := Tryz.isAgg373
  z23 := Tryz.sizeOf373
  v23 := Tryz.zeroValue373
  t26 := Tryz.underlying3
  a26 := Tryz.isAgg3
  z26 := Tryz.sizeOf3
  v26 := Tryz.zeroValue3
  t27 := Tryz.underlying444
  a27 := Tryz.isAgg444
  z27 := Tryz.sizeOf444
  v27 := Tryz.zeroValue444
  t28 := Tryz.underlying445
  a28 := Tryz.isAgg445
  z28 := Tryz.sizeOf445
  v28 := Tryz.zeroValue445
  t33 := Tryz.underlying129
  a33 := Tryz.isAgg129
  z33 := Tryz.sizeOf129
  v33 := Tryz.zeroValue129 }
def Tryz.sorted364_ren : Go.Shelf.Ren := ⟨fun | 6 => 364 | 8 => 390 | 9 => 280 | 11 => 409 | 13 => 227 | 12 => 344 | 23 => 300 | 24 => 115 | 14 => 374 | 15 => 375 | 16 => 376 | 17 => 377 | 18 => 378 | 19 => 379 | 20 => 339 | 21 => 380 | 22 => 381 | 25 => 396 | 26 => 350 | 27 => 351 | 28 => 397 | 29 => 398 | 30 => 276 | 31 => 414 | n => n, fun | 26 => 3 | 28 => 445 | 24 => 63 | 0 => 0 | 3 => 3 | 37 => 79 | 48 => 181 | 50 => 31 | 4 => 4 | 40 => 389 | 39 => 388 | 45 => 149 | 5 => 5 | 9 => 9 | 51 => 427 | 55 => 430 | 57 => 459 | 58 => 460 | 33 => 129 | n => n, fun | n => n⟩
theorem Tryz.sorted364 : Go.Proofs.SlLaysZI.n6 Tryz.prog Tryz.sorted364_ren := {
  mixed := by kernel_rfl
  f6 := ⟨Tryz.f364.name, by decide, Tryz.func364.trans (congrArg some (by kernel_rfl))⟩
  f8 := ⟨Tryz.f390.name, by decide, Tryz.func390.trans (congrArg some (by kernel_rfl))⟩
  f11 := ⟨Tryz.f409.name, by decide, Tryz.func409.trans (congrArg some (by kernel_rfl))⟩
  t0 := Tryz.underlying0
  a0 := Tryz.isAgg0
  z0 := Tryz.sizeOf0
  v0 := Tryz.zeroValue0
  t24 := Tryz.underlying63
  a24 := Tryz.isAgg63
  z24 := Tryz.sizeOf63
  v24 := Tryz.zeroValue63
  t26 := Tryz.underlying3
  a26 := Tryz.isAgg3
  z26 := Tryz.sizeOf3
  v26 := Tryz.zeroValue3
  t28 := Tryz.underlying445
  a28 := Tryz.isAgg445
  z28 := Tryz.sizeOf445
  v28 := Tryz.zeroValue445
  i26 := by kernel_rfl }
end Go.Proofs
set_option linter.unusedVariables false
set_option linter.unusedSimpArgs false
set_option maxHeartbeats 800000
set_option maxRecDepth 100000
namespace Go.Proofs.YtcndimkkojdflaaGreatDoor
open Go Go.X
def withinS (n lo hi : Int) : Int := lo + (if n.tmod (hi - lo + 1) < 0 then n.tmod (hi - lo + 1) + hi - lo + 1 else n.tmod (hi - lo + 1))
theorem tmod_range (n : Int) {b : Int} (hb : 0 < b) : -b < n.tmod b ∧ n.tmod b < b := ⟨Int.lt_tmod_of_pos n hb, Int.tmod_lt_of_pos n hb⟩
theorem within_range (n : Int) {lo hi : Int} (h : lo ≤ hi) : lo ≤ withinS n lo hi ∧ withinS n lo hi ≤ hi := by
  have := tmod_range n (b := hi - lo + 1) (by omega)
  unfold withinS
  split <;> omega
def inS (n lo hi : Int) : Int := if lo ≤ n ∧ n ≤ hi then n else withinS n lo hi
theorem in_range (n : Int) {lo hi : Int} (h : lo ≤ hi) : lo ≤ inS n lo hi ∧ inS n lo hi ≤ hi := by
  unfold inS
  split
  · assumption
  · exact within_range n h
def nmL : List ByteArray := [⟨#[115, 101, 118]⟩, ⟨#[106, 111, 98]⟩, ⟨#[104, 111, 115, 116]⟩, ⟨#[95, 120]⟩, ⟨#[90, 111, 110, 101, 57]⟩]
def vlL : List ByteArray := [⟨#[97]⟩, ⟨#[98]⟩, ⟨#[99, 114, 105, 116]⟩, ⟨#[119, 97, 114, 110]⟩, ⟨#[97, 98]⟩, ⟨#[0, 255]⟩, ⟨#[97, 98, 97, 98, 97, 98, 97, 98, 97, 98, 97, 98, 97, 98, 97, 98, 97, 98, 97, 98, 97, 98, 97, 98]⟩]
def nmS (n : Int) : ByteArray := nmL.getD (inS n 0 4).toNat ByteArray.empty
def vlS (n : Int) : ByteArray := vlL.getD (inS n 0 6).toNat ByteArray.empty
theorem nm_mem (n : Int) : nmS n ∈ nmL := by
  have := in_range n (lo := 0) (hi := 4) (by omega)
  unfold nmS
  have h : (inS n 0 4).toNat < nmL.length := by show _ < 5; omega
  rw [List.getD_eq_getElem?_getD, List.getElem?_eq_getElem h]
  exact List.getElem_mem _
theorem vl_mem (n : Int) : vlS n ∈ vlL := by
  have := in_range n (lo := 0) (hi := 6) (by omega)
  unfold vlS
  have h : (inS n 0 6).toNat < vlL.length := by show _ < 7; omega
  rw [List.getD_eq_getElem?_getD, List.getElem?_eq_getElem h]
  exact List.getElem_mem _
end Go.Proofs.YtcndimkkojdflaaGreatDoor
set_option linter.unusedVariables false
set_option linter.unusedSimpArgs false
set_option maxHeartbeats 800000
set_option maxRecDepth 100000
namespace Go.Proofs.YtcndimkkojdflaaGreatDoor
open Go Go.X
def getL (ls : List Lab) (nm : ByteArray) : ByteArray := ((ls.find? fun x => decide (x.name = nm)).map (·.value)).getD ByteArray.empty
def labOf (n : Int) : Lab := ⟨nmS (withinS n 0 4), vlS (withinS (n.tdiv 5) 0 6)⟩
def labStep (out : List Lab) (n : Int) : List Lab := if getL out (labOf n).name = ByteArray.empty then out ++ [labOf n] else out
theorem vlL_ok : ∀ s ∈ vlL, valS s = true ∧ s ≠ ByteArray.empty := by
  intro s hs
  simp only [vlL, List.mem_cons, List.not_mem_nil, or_false] at hs
  rcases hs with rfl | rfl | rfl | rfl | rfl | rfl | rfl <;> exact ⟨by kernel_rfl, by decide⟩
structure Raw (ls : List Lab) : Prop where
  nd : (ls.map (·.name)).Nodup
  nm : ∀ x ∈ ls, x.name ∈ nmL
  vl : ∀ x ∈ ls, x.value ∈ vlL
theorem labOf_ok (n : Int) : (labOf n).name ∈ nmL ∧ (labOf n).value ∈ vlL := ⟨nm_mem _, vl_mem _⟩
theorem getL_empty {ls : List Lab} (h : Raw ls) {nm : ByteArray} (he : getL ls nm = ByteArray.empty) : nm ∉ ls.map (·.name) := by
  intro hm
  obtain ⟨x, hx, rfl⟩ := List.mem_map.1 hm
  unfold getL at he
  cases hf : ls.find? (fun y => decide (y.name = x.name)) with
  | none => have := List.find?_eq_none.1 hf x hx; simp at this
  | some y =>
    rw [hf] at he
    have hy := List.mem_of_find?_eq_some hf
    exact (vlL_ok _ (h.vl y hy)).2 he
theorem Raw.step {ls : List Lab} (h : Raw ls) (n : Int) : Raw (labStep ls n) := by
  unfold labStep
  split
  · rename_i he
    have hn := getL_empty h he
    refine ⟨?_, fun x hx => ?_, fun x hx => ?_⟩
    · rw [List.map_append, List.nodup_append]
      exact ⟨h.nd, by simp, fun a ha b hb e => hn (by simp at hb; subst hb; exact e ▸ ha)⟩
    · rcases List.mem_append.1 hx with h1 | h1
      · exact h.nm x h1
      · simp at h1; subst h1; exact (labOf_ok n).1
    · rcases List.mem_append.1 hx with h1 | h1
      · exact h.vl x h1
      · simp at h1; subst h1; exact (labOf_ok n).2
  · exact h
theorem Raw.nil : Raw [] := ⟨by simp, by simp, by simp⟩
end Go.Proofs.YtcndimkkojdflaaGreatDoor
set_option linter.unusedVariables false
set_option linter.unusedSimpArgs false
set_option maxHeartbeats 800000
set_option maxRecDepth 100000
namespace Go.Proofs.YtcndimkkojdflaaGreatDoor
open Go Go.X
theorem find_self (ls : List Lab) : findS [ls] ls = some 0 := by simp [findS]
section
variable (ls : List Lab) (his : isS ls = true) (u v : Nat)
def vS1 : St := (postS (St.new 3) ls u).1
def vS2 : St := (postS (vS1 ls u) ls v).1
def vS3 : St := (resolveS (vS2 ls u v) 1).1
def vS4 : St := (postS (vS3 ls u v) ls u).1
include his
theorem v1 : postS (St.new 3) ls u = (vS1 ls u, 1, true, 0) ∧ (vS1 ls u).al = [(1, ls, canS u)] ∧ (vS1 ls u).last = 1 ∧ (vS1 ls u).out = [1] ∧ (vS1 ls u).most = 3 := by
  have hf : fullS (St.new 3).most (St.new 3).last (St.new 3).out = false := by decide
  have hn : findS ((St.new 3).al.map (·.2.1)) ls = none := rfl
  have e : postS (St.new 3) ls u = (⟨(St.new 3).most, (St.new 3).last + 1, (St.new 3).out ++ [(St.new 3).last + 1], (St.new 3).al ++ [((St.new 3).last + 1, ls, canS u)], putM (St.new 3).has ((St.new 3).last + 1) ls, addRows (St.new 3).rows ((St.new 3).last + 1) ls⟩, (St.new 3).last + 1, true, 0) := by
    unfold postS; rw [if_neg (by simp [his]), hn]; simp [hf]
  unfold vS1
  rw [e]
  exact ⟨rfl, rfl, rfl, rfl, rfl⟩
theorem v2 : postS (vS1 ls u) ls v = (vS2 ls u v, 1, false, 0) ∧ (vS2 ls u v).al = [(1, ls, canS v)] ∧ (vS2 ls u v).last = 1 ∧ (vS2 ls u v).out = [1] ∧ (vS2 ls u v).most = 3 := by
  obtain ⟨_, h1, h2, h3, h4⟩ := v1 ls his u
  have hn : findS ((vS1 ls u).al.map (·.2.1)) ls = some 0 := by rw [h1]; exact find_self ls
  have e : postS (vS1 ls u) ls v = ({ vS1 ls u with al := (vS1 ls u).al.modify 0 fun a => (a.1, a.2.1, canS v) }, (((vS1 ls u).al[0]?).map (·.1)).getD 0, false, 0) := by
    unfold postS; rw [if_neg (by simp [his]), hn]
  unfold vS2
  rw [e]
  refine ⟨by rw [h1]; rfl, by simp only; rw [h1]; rfl, h2, h3, h4⟩
theorem v3 : resolveS (vS2 ls u v) 1 = (vS3 ls u v, 0) ∧ (vS3 ls u v).al = [] ∧ (vS3 ls u v).last = 1 ∧ (vS3 ls u v).out = [] ∧ (vS3 ls u v).most = 3 := by
  obtain ⟨_, h1, h2, h3, h4⟩ := v2 ls his u v
  have hp : placeS (vS2 ls u v) 1 = some 0 := by unfold placeS; rw [h1]; rfl
  have e : resolveS (vS2 ls u v) 1 = ({ vS2 ls u v with al := (vS2 ls u v).al.eraseIdx 0, out := giveS (vS2 ls u v).out 1, has := cutM (vS2 ls u v).has 1, rows := dropRows (vS2 ls u v).rows 1 ((lookM (vS2 ls u v).has 1).getD []) }, 0) := by
    unfold resolveS; rw [hp]
  unfold vS3
  rw [e]
  refine ⟨rfl, by simp only; rw [h1]; rfl, h2, ?_, h4⟩
  simp only
  rw [h3]
  have : ∀ x, x ∉ giveS [1] 1 := fun x hx => by
    unfold giveS at hx
    rw [if_pos (by decide), mem_cutRow] at hx
    simp at hx
  exact List.eq_nil_iff_forall_not_mem.2 this
theorem v4 : postS (vS3 ls u v) ls u = (vS4 ls u v, 2, true, 0) ∧ (vS4 ls u v).al = [(2, ls, canS u)] := by
  obtain ⟨_, h1, h2, h3, h4⟩ := v3 ls his u v
  have hf : fullS (vS3 ls u v).most (vS3 ls u v).last (vS3 ls u v).out = false := by rw [h2, h3, h4]; decide
  have hn : findS ((vS3 ls u v).al.map (·.2.1)) ls = none := by rw [h1]; rfl
  have e : postS (vS3 ls u v) ls u = (⟨(vS3 ls u v).most, (vS3 ls u v).last + 1, (vS3 ls u v).out ++ [(vS3 ls u v).last + 1], (vS3 ls u v).al ++ [((vS3 ls u v).last + 1, ls, canS u)], putM (vS3 ls u v).has ((vS3 ls u v).last + 1) ls, addRows (vS3 ls u v).rows ((vS3 ls u v).last + 1) ls⟩, (vS3 ls u v).last + 1, true, 0) := by
    unfold postS; rw [if_neg (by simp [his]), hn]; simp [hf]
  unfold vS4
  rw [e]
  refine ⟨by rw [h2]; rfl, by simp only; rw [h1, h2]; rfl⟩
theorem v5 : resolveS (vS4 ls u v) 1 = (vS4 ls u v, 5) := by
  obtain ⟨_, h1⟩ := v4 ls his u v
  have hp : placeS (vS4 ls u v) 1 = none := by unfold placeS; rw [h1]; rfl
  unfold resolveS; rw [hp]
end
end Go.Proofs.YtcndimkkojdflaaGreatDoor
set_option linter.unusedVariables false
set_option linter.unusedSimpArgs false
set_option maxHeartbeats 800000
set_option maxRecDepth 100000
namespace Go.Proofs.YtcndimkkojdflaaGreatDoor
open Go Go.X
theorem owns_of {w : World} {m : Nat} {l : List (Int × Value)} (h : MapAt (Value.int .i64) w m l) (hn : (l.map (·.1)).Nodup) (hr : ∀ t ∈ l, -9223372036854775808 ≤ t.1 ∧ t.1 ≤ 9223372036854775807) (hl : l.length ≤ maxLen) :
    ∃ D : DataW Unit, w.ownsMap Tryz.prog 3 (fun _ => some (.lit (.bool true), [])) m l.length D ∧ (intKeys D).Perm (l.map (·.1)) ∧ Maps.size D = l.length := by
  obtain ⟨es, c, h1, h2, h3, h4⟩ := h.out
  have hlen : es.toList.length = l.length := by have := congrArg List.length h2; simpa using this
  have hkey : ∀ x : Int, -9223372036854775808 ≤ x ∧ x ≤ 9223372036854775807 → keyOf Tryz.prog 3 (.int .i64 x) = some (.int .i64 x) := fun x hx => by
    simp [keyOf, Tryz.underlying3, mapKey, Lit.wf, IntKind.min, IntKind.max, IntKind.signed, IntKind.bits]
    omega
  have hread : ∀ x ∈ es.toList, ∃ k : Int, x.key = .int .i64 k ∧ -9223372036854775808 ≤ k ∧ k ≤ 9223372036854775807 := fun x hx => by
    have h5 : (x.key, x.val) ∈ l.map fun p => (Value.int .i64 p.1, p.2) := by rw [← h2]; exact List.mem_map_of_mem (f := fun e : MapEntry => (e.key, e.val)) hx
    obtain ⟨p, hp, e⟩ := List.mem_map.1 h5
    simp only [Prod.mk.injEq] at e
    exact ⟨p.1, e.1.symm, hr p hp⟩
  have hrd : ∀ x ∈ es.toList, ∀ k : Int, x.key = .int .i64 k → WideElems.rd (H := Unit) Tryz.prog 3 (fun _ => some (.lit (.bool true), [])) x = some (.int .i64 k, .lit (.bool true)) := fun x hx k hk => by
    obtain ⟨k', hk', h6⟩ := hread x hx
    rw [hk] at hk'
    cases hk'
    simp [WideElems.rd, hk, hkey k h6]
  have hkeys : es.toList.map (·.key) = (l.map (·.1)).map (Value.int .i64) := by
    have := congrArg (List.map fun p : Value × Value => p.1) h2
    rw [List.map_map, List.map_map] at this
    rw [List.map_map]
    exact this
  have hg : es.toList.map (WideElems.rg (H := Unit) Tryz.prog 3 fun _ => some (.lit (.bool true), [])) = (l.map (·.1)).map fun k => ((Lit.int .i64 k : Lit), (DataW.lit (.bool true) : DataW Unit)) := by
    apply List.ext_getElem?
    intro i
    have h7 := congrArg (fun q => q[i]?) hkeys
    simp only [List.getElem?_map] at h7 ⊢
    cases he : es.toList[i]? with
    | none => rw [he] at h7; cases hll : l[i]? with
      | none => rfl
      | some p => rw [hll] at h7; simp at h7
    | some x =>
      rw [he] at h7
      cases hll : l[i]? with
      | none => rw [hll] at h7; simp at h7
      | some p =>
        rw [hll] at h7
        simp at h7
        have := hrd x (List.mem_of_getElem? he) p.1 h7
        simp [WideElems.rg, this]
  have hnd : (es.toList.map (·.key)).Nodup := by
    rw [hkeys]
    exact List.pairwise_map.2 (hn.imp fun {a b} hne e => hne (by simpa using e))
  have hsz : es.size = l.length := by rw [← hlen]; simp
  refine ⟨.map ((es.toList.map (WideElems.rg (H := Unit) Tryz.prog 3 fun _ => some (.lit (.bool true), []))).foldr DataW.insert []), ⟨es, c, h1, ⟨by omega, ⟨h4, h3, hnd⟩, fun x hx => by obtain ⟨k, hk, _⟩ := hread x hx; exact ⟨_, hrd x hx k hk⟩⟩, by omega, rfl⟩, ?_, ?_⟩
  · rw [hg]
    refine ((WideShapes.sorted_perm _).map _).trans ?_
    rw [List.map_map]
    have : ((fun p : Lit × DataW Unit => Go.intOf p.1) ∘ fun k => ((Lit.int .i64 k : Lit), (DataW.lit (.bool true) : DataW Unit))) = id := by funext k; rfl
    rw [this, List.map_id]
  · rw [hg, Maps.size_eq, (WideShapes.sorted_perm _).length_eq]
    simp
theorem sortsI (m : Nat) : AnyZI.SortsIn Tryz.prog Tryz.sorted364_ren Fence.wide m :=
  ⟨fun blk off cap ss W hH hblk hsz => callsIn_wide.2 (Tryz.slices_Sort_int blk off cap ss W hH hblk hsz), fun p cap W => callsIn_wide.2 (Tryz.slices_Sort_int_none p cap W)⟩
theorem keysCall (mb : Option Nat) (w : World) : Fx Tryz.prog 365 [.map mb] w (fun u w' => u = .func (.func 391) #[] #[.pointer (some ⟨w.heap.size, 0, none⟩)] ∧ w' = w.alloc (.cells #[.map mb] 373)) := by
  refine Calls.mono ((callsIn_wide (n := 5)).1 (AnyZI.keys_in Tryz.keys365 Fence.wide 5 trivial rfl mb w)) ?_
  rintro e w' ⟨rfl, rfl⟩
  exact ⟨_, rfl, rfl, rfl⟩
end Go.Proofs.YtcndimkkojdflaaGreatDoor
set_option linter.unusedVariables false
set_option linter.unusedSimpArgs false
set_option maxHeartbeats 800000
set_option maxRecDepth 100000
namespace Go.Proofs.YtcndimkkojdflaaGreatDoor
open Go Go.X
theorem row_of {w : World} {base : Nat} {t : TypeId} {sz : Nat} {v : Value} {k : Nat} {xs : List Value} (h : w.ownsRow base t sz v k xs) : Row w t sz v k xs ∧ Fresh base v := by
  refine ⟨⟨h.1, ?_⟩, fun b e => ?_⟩
  · rcases h.2 with h2 | ⟨g, cap, cur, h2, _, r⟩
    · exact .inl h2
    · exact .inr ⟨g, cap, cur, h2, Nat.zero_le _, r⟩
  · rcases h.2 with ⟨rfl, _⟩ | ⟨g, cap, cur, rfl, hb, _⟩
    · simp [Value.ownBlock] at e
    · simp [Value.ownBlock] at e; omega
theorem sortI_perm {l l' : List Int} (h : l.Perm l') : l.mergeSort (fun x y => decide (x ≤ y)) = sortI l' := mergeSort_of_perm_i h
theorem sortedCall {w : World} {m : Nat} {l : List (Int × Value)} (h : MapAt (Value.int .i64) w m l) (hn : (l.map (·.1)).Nodup) (hr : ∀ t ∈ l, -9223372036854775808 ≤ t.1 ∧ t.1 ≤ 9223372036854775807) (hl : l.length ≤ 1000000) :
    Fx Tryz.prog 364 [.func (.func 391) #[] #[.pointer (some ⟨w.heap.size, 0, none⟩)]] (w.alloc (.cells #[.map (some m)] 373)) (fun u w' => Row w' 3 1 u (sortI (l.map (·.1))).length (ints (sortI (l.map (·.1)))) ∧ Fresh w.heap.size u ∧ Grow w w') := by
  have hml : (1000000 : Nat) ≤ maxLen := by decide
  obtain ⟨D, hown, hperm, hsize⟩ := owns_of h hn hr (by omega)
  have hbl := hown.lt
  have hseq : SeqGives Fence.wide 2 Tryz.prog 391 #[.pointer (some ⟨w.heap.size, 0, none⟩)] encZ (fun ss => ss.Perm (intKeys D)) (Maps.size D) (w.alloc (.cells #[.map (some m)] 373)) :=
    AnyZI.keys_gives (ρ := Tryz.keys365_ren) { Tryz.keys365 with } Fence.wide _ trivial rfl (by omega) w.heap.size m l.length D _ (by simp) (by simp) (by
      obtain ⟨es, clock, hb, Ft, hs, hD⟩ := hown
      exact ⟨es, clock, (RowKit.Below.heap_alloc _ _ m hbl).trans hb, Ft, hs, hD⟩)
  refine Calls.mono ((callsIn_wide (n := 5)).1 (AnyZI.sorted_in Tryz.sorted364 Fence.wide 5 trivial trivial trivial trivial rfl (by omega) (sortsI _) (enters_of Tryz.func280 (by kernel_rfl) rfl) 391 #[.pointer (some ⟨w.heap.size, 0, none⟩)] trivial (enters_of Tryz.func391 (by kernel_rfl) rfl) _ _ (by omega) (by omega) _ hseq)) ?_
  rintro e w' ⟨v, ss, rfl, hS, hrow, _, hb⟩
  obtain ⟨h1, h2⟩ := row_of hrow
  have e1 := sortI_perm (hS.trans hperm)
  have e2 : ss.length = (sortI (l.map (·.1))).length := by rw [sortI_len, ← (hS.trans hperm).length_eq]
  refine ⟨v, rfl, ?_, fun b e => ?_, (Mod.alloc No w _).trans (Grow.of_below hb)⟩
  · rw [← e2, ← e1]; exact h1
  · have := h2 b e
    simp at this
    omega
def idsS (has : List (Int × List Lab)) : List Int := sortI (has.map (·.1))
theorem idsS_ris {has : List (Int × List Lab)} (hn : (has.map (·.1)).Nodup) : Ris (idsS has) := by
  have h1 := sortI_le (has.map (·.1))
  have h2 : (sortI (has.map (·.1))).Nodup := (List.mergeSort_perm _ _).nodup_iff.2 hn
  exact (h1.and h2).imp fun ⟨a, b⟩ => by omega
theorem mem_idsS {has : List (Int × List Lab)} {x : Int} : x ∈ idsS has ↔ x ∈ has.map (·.1) := by unfold idsS sortI; simp
theorem ids_ok (M : Nat → Prop) (w : World) (ix mh mr : Nat) (has : List (Int × List Lab)) (rows : List (LabK × List Int)) (h : IdxAt M w ix mh mr has rows) (hn : (has.map (·.1)).Nodup) (hr : ∀ t ∈ has, -9223372036854775808 ≤ t.1 ∧ t.1 ≤ 9223372036854775807) (hl : has.length ≤ 1000000) :
    Fx Tryz.prog 323 [pp ix] w (fun u w' => Row w' 3 1 u (idsS has).length (ints (idsS has)) ∧ Fresh w.heap.size u ∧ Grow w w') := by
  obtain ⟨l, hl1, hl2, hl3⟩ := h.hl
  have hk : (l.map fun t => (t.1, t.2.2)).map (·.1) = has.map (·.1) := by rw [← hl1]; simp [List.map_map]
  have hlen : l.length = has.length := by rw [← hl1]; simp
  have hcall := sortedCall hl2 (by rw [hk]; exact hn) (fun t ht => by
    obtain ⟨t', ht', rfl⟩ := List.mem_map.1 ht
    exact hr (t'.1, t'.2.1) (by rw [← hl1]; exact List.mem_map_of_mem (f := fun t : Int × (List Lab × Value) => (t.1, t.2.1)) ht')) (by simpa [hlen] using hl)
  rw [hk] at hcall
  refine enter Tryz.func323 rfl rfl rfl _ (Pick.sub (l := [0]) (.cons rfl .nil)) ?_
  refine RK.seq ?_
  refine RK.region ?_
  refine RL.p rfl rfl ?_
  refine RL.done ?_
  refine RK.seq ?_
  refine RK.region ?_
  iterate 2 refine RL.p rfl rfl ?_
  refine RL.q (.free rfl) rfl rfl (Yld.fieldAddr fo376_0 rfl) ?_
  refine RL.q (.free rfl) rfl rfl (Yld.load p373 rfl (at1 (h.blk.cell rfl))) ?_
  refine RL.op (.free rfl) rfl rfl (Does.call rfl e365 (keysCall (some mh) _)) ?_
  rintro _ _ ⟨rfl, rfl⟩
  refine RL.op (.free rfl) rfl rfl (Does.call rfl e364 (hcall)) ?_
  rintro u2 w2 ⟨hr2, hf2, hg2⟩
  refine RL.p rfl rfl ?_
  refine RL.done ?_
  refine RK.ret_of Tryz.func323 (res1 rfl rfl) ?_ _
  exact ⟨_, rfl, hr2, hf2, hg2⟩
theorem posting_ok (M : Nat → Prop) (w : World) (ix mh mr : Nat) (has : List (Int × List Lab)) (rows : List (LabK × List Int)) (h : IdxAt M w ix mh mr has rows) (hB : ∀ t ∈ rows, t.2.length ≤ 1000000000000) (nm vl : ByteArray) :
    Fx Tryz.prog 325 [pp ix, .string nm, .string vl] w (fun u w' => Row w' 3 1 u ((lookM rows (nm, vl)).getD []).length (ints ((lookM rows (nm, vl)).getD [])) ∧ Fresh w.heap.size u ∧ Grow w w') := by
  obtain ⟨r, hr1, hr2, hr3⟩ := h.rl
  have hbnd := look_bound (B := 1000000000000) hB (nm, vl)
  obtain ⟨row0, hrow0⟩ : ∃ row0, (lookM rows (nm, vl)).getD [] = row0 := ⟨_, rfl⟩
  rw [hrow0] at hbnd ⊢
  obtain ⟨vv, hval, hsl⟩ : ∃ vv, (lookM (r.map fun t => (t.1, t.2.2)) (nm, vl)).getD (.slice none 0 0) = vv ∧ Sl M w vv 1 row0.length (ints row0) := by
    rw [← hrow0]
    have e1 := lookM_map (fun a : List Int × Value => a.1) (nm, vl) r
    have e2 := lookM_map (fun a : List Int × Value => a.2) (nm, vl) r
    rw [hr1] at e1
    rw [e1, e2]
    cases hh : lookM r (nm, vl) with
    | none => exact ⟨_, rfl, Sl.nil _ _ _ _ _⟩
    | some a => exact ⟨_, rfl, hr3 _ (lookM_mem hh)⟩
  refine enter Tryz.func325 rfl rfl rfl _ (Pick.sub (l := [0, 1, 2]) (.cons rfl (.cons rfl (.cons rfl .nil)))) ?_
  refine RK.seq ?_
  refine RK.region ?_
  refine RL.p rfl rfl ?_
  refine RL.done ?_
  refine RK.seq ?_
  refine RK.region ?_
  iterate 2 refine RL.p rfl rfl ?_
  refine RL.q (.free rfl) rfl rfl (Yld.fieldAddr fo376_1 rfl) ?_
  refine RL.q (.free rfl) rfl rfl (Yld.load p374 rfl (at1 (h.blk.cell rfl))) ?_
  iterate 2 refine RL.p rfl rfl ?_
  refine RL.q (.free rfl) rfl rfl (Yld.build (v := .agg #[.string nm, .string vl]) rfl (fun w => by kernel_rfl)) ?_
  refine RL.q (.free rfl) rfl rfl (Yld.lookup Tryz.underlying374 key333 i63 (k := (nm, vl)) rfl rfl (fun w' e => e ▸ hr2)) ?_
  refine RL.re (d := 14) rfl rfl (hval) ?_
  refine RL.op (.free rfl) rfl rfl (Does.call rfl e121 (cloneI_ok M row0 vv _ hsl (by omega))) ?_
  rintro u2 w2 ⟨hr2', hf2, hg2⟩
  refine RL.p rfl rfl ?_
  refine RL.done ?_
  refine RK.ret_of Tryz.func325 (res1 rfl rfl) ?_ _
  exact ⟨_, rfl, hr2', hf2, hg2⟩
end Go.Proofs.YtcndimkkojdflaaGreatDoor
set_option linter.unusedVariables false
set_option linter.unusedSimpArgs false
set_option maxHeartbeats 800000
set_option maxRecDepth 100000
namespace Go.Proofs.YtcndimkkojdflaaGreatDoor
open Go Go.X
theorem isS_val {ls : List Lab} (h : isS ls = true) (x : Lab) (hx : x ∈ ls) : x.value.size ≤ 24 := by
  obtain ⟨i, hi⟩ := List.getElem?_of_mem hx
  unfold isS at h
  simp only [Bool.and_eq_true, List.all_eq_true, List.mem_range] at h
  have h2 := h.2 i (List.getElem?_eq_some_iff.1 hi).1
  unfold okAt at h2
  rw [hi] at h2
  simp only [Bool.and_eq_true] at h2
  have h3 := h2.1.2
  unfold valS at h3
  simp at h3; omega
structure Mt where
  kind : Int
  name : ByteArray
  value : ByteArray
  deriving DecidableEq, Inhabited
def mtC (m : Mt) : List Value := [.int .i64 m.kind, .string m.name, .string m.value]
theorem mtC_len (m : Mt) : (mtC m).length = 3 := rfl
abbrev SlM (M : Nat → Prop) (w : World) (v : Value) (ms : List Mt) : Prop := Sl M w v 3 ms.length (ms.flatMap mtC)
def HoldsC (h : Mt → List Lab → Bool) (m : Mt) : Prop := ∀ (M : Nat → Prop) (ls : List Lab) (v : Value) (w : World), (∀ x ∈ ls, x.value.size ≤ 100000) → SlL M w v ls → Fx Tryz.prog 368 [.agg #[.int .i64 m.kind, .string m.name, .string m.value], v] w (fun u w' => u = .bool (h m ls) ∧ Grow w w')
theorem all1_ok (h : Mt → List Lab → Bool) (m : Mt) (hh : HoldsC h m) (M : Nat → Prop) (ls : List Lab) (hz : ∀ x ∈ ls, x.value.size ≤ 100000) (vl : Value) (b4 : Nat) (w : World) (hl : SlL M w vl ls) (hb : Blk w b4 122 [vl]) : Fx Tryz.prog 367 [.agg #[.int .i64 m.kind, .string m.name, .string m.value], pp b4] w (fun u w' => u = .bool (!h m ls) ∧ Grow w w') := by
  obtain ⟨ad, c, rfl⟩ := hl.shape
  refine enter Tryz.func367 rfl rfl rfl _ (Pick.sub (l := [0, 1]) (.cons rfl (.cons rfl .nil))) ?_
  refine RK.seq ?_
  refine RK.region ?_
  refine RL.op (.free rfl) rfl rfl (Does.box rfl) ?_
  rintro _ w1 ⟨b1, rfl, hn1⟩
  refine RL.p rfl rfl ?_
  refine RL.done ?_
  refine RK.seq ?_
  refine RK.region ?_
  refine RL.q (.free rfl) rfl rfl (Yld.loadN (cs := [.int .i64 m.kind, .string m.name, .string m.value]) a309 rfl (atN (fun j u hj => by rw [Nat.zero_add]; exact hn1.blk.cell' hj))) ?_
  refine RL.q (.free rfl) rfl rfl (Yld.load p122 rfl (at1 ((hb.mod hn1.grow (fun h => h)).cell rfl))) ?_
  refine RL.op (.free rfl) rfl rfl (Does.call rfl e368 (hh M ls _ _ hz (hl.mod (Mod.any' hn1.grow)))) ?_
  rintro _ w2 ⟨rfl, hg2⟩
  iterate 2 refine RL.p rfl rfl ?_
  refine RL.done ?_
  refine RK.ret_of Tryz.func367 (res1 rfl rfl) ?_ _
  exact ⟨_, rfl, rfl, hn1.grow.trans hg2⟩
theorem indexM_ok (h : Mt → List Lab → Bool) (ms : List Mt) (hh : ∀ m ∈ ms, HoldsC h m) (M M' : Nat → Prop) (ls : List Lab) (hz : ∀ x ∈ ls, x.value.size ≤ 100000) (v vl : Value) (b4 : Nat) (w : World) (hv : SlM M' w v ms) (hl : SlL M w vl ls) (hb : Blk w b4 122 [vl]) :
    Fx Tryz.prog 362 [v, .func (.func 367) #[] #[pp b4]] w (fun u w' => u = .int .i64 (optI (ms.findIdx? fun m => !h m ls)) ∧ Grow w w') := by
  obtain ⟨ad, c, rfl⟩ := hv.shape
  have hbig := hv.big
  refine enter Tryz.func362 rfl rfl rfl _ (Pick.sub (l := [0, 1]) (.cons rfl (.cons rfl .nil))) ?_
  refine RK.seq ?_
  refine RK.region ?_
  refine RL.p rfl rfl ?_
  refine RL.done ?_
  iterate 2 refine RK.seq ?_
  refine RK.region ?_
  refine RL.p rfl rfl ?_
  refine RL.q (.free rfl) rfl rfl (Yld.lenSl u116 rfl) ?_
  refine RL.p rfl rfl ?_
  refine RL.done ?_
  refine RK.block ?_
  refine RK.loop (fun k : Nat => [(0, .slice ad ms.length c), (1, .func (.func 367) #[] #[pp b4]), (7, .int .i64 ms.length), (8, .int .i64 k)]) (fun k w' => Grow w w' ∧ k ≤ ms.length ∧ ∀ (i : Nat) (a : Mt), i < k → ms[i]? = some a → h a ls = true) (fun k => ms.length - k) 0 ⟨rfl, rfl, rfl, rfl, trivial⟩ ⟨Mod.refl _ _, by omega, fun i a h => by omega⟩ (fun k w' hI ih => ?_)
  obtain ⟨hg, hk, hno⟩ := hI
  refine RK.seq ?_
  refine RK.region ?_
  refine RL.p rfl rfl ?_
  refine RL.done ?_
  refine RK.seq ?_
  first | refine RK.condD rfl (fun h9 => ?_) (fun h9 => ?_) | refine RK.condN rfl (fun h9 => ?_) (fun h9 => ?_) | refine RK.cond rfl (fun h9 => ?_) (fun h9 => ?_)
  · obtain ⟨x, hx⟩ : ∃ x, ms[k]? = some x := ⟨ms[k]'(by omega), List.getElem?_eq_getElem (by omega)⟩
    obtain ⟨b1, o1, c1', he1, _, _, hc1⟩ := hv.elem mtC_len hx
    cases he1
    refine RK.skip ?_
    refine RK.seq ?_
    refine RK.block ?_
    refine RK.seq ?_
    refine RK.region ?_
    iterate 2 refine RL.p rfl rfl ?_
    refine RL.done ?_
    refine RK.seq ?_
    refine RK.region ?_
    iterate 3 refine RL.p rfl rfl ?_
    refine RL.q (.free rfl) rfl rfl (Yld.indexAddrN u116 i309 rfl rfl (by omega)) ?_
    refine RL.q (.free rfl) rfl rfl (Yld.loadN (cs := [.int .i64 x.kind, .string x.name, .string x.value]) a309 rfl (atN (fun j u hj => hg.cell (hc1 j u hj) (fun h => h)))) ?_
    refine RL.op (.free rfl) rfl rfl (Does.callv rfl rfl e367 (all1_ok h x (hh x (List.mem_of_getElem? hx)) M ls hz vl b4 _ (hl.mod (Mod.any' hg)) (hb.mod hg (fun h => h)))) ?_
    rintro _ w2 ⟨rfl, hg2⟩
    refine RL.done ?_
    first | refine RK.condD rfl (fun h16 => ?_) (fun h16 => ?_) | refine RK.condN rfl (fun h16 => ?_) (fun h16 => ?_) | refine RK.cond rfl (fun h16 => ?_) (fun h16 => ?_)
    · refine RK.seq ?_
      refine RK.region ?_
      iterate 2 refine RL.p rfl rfl ?_
      refine RL.done ?_
      refine RK.ret_of Tryz.func362 (res1 rfl rfl) ?_ _
      exact ⟨_, rfl, congrArg _ (by
          have : ms.findIdx? (fun m => !h m ls) = some k := by
            rw [List.findIdx?_eq_some_iff_getElem]
            refine ⟨by omega, ?_, fun j hj => ?_⟩
            · rw [(List.getElem?_eq_some_iff.1 hx).2]; exact h16
            · simpa using hno j (ms[j]'(by omega)) hj (List.getElem?_eq_getElem (by omega))
          rw [this]; rfl), hg.trans hg2⟩
    · refine RK.skip ?_
      refine RK.inBlock ?_
      refine RK.region ?_
      refine RL.p rfl rfl ?_
      refine RL.re (d := 18) rfl rfl (succ_i64 (by omega)) ?_
      refine RL.p rfl rfl ?_
      refine RL.done ?_
      exact RK.back (ih (k + 1) _ ⟨hg.trans hg2, by omega, fun i a' hi ha' => by by_cases e : i = k; (subst e; rw [hx] at ha'; cases ha'; simpa using h16); exact hno i a' (by omega) ha'⟩ (by omega)) ⟨rfl, rfl, rfl, rfl, trivial⟩
  · refine RK.exit rfl ?_
    refine RK.seq ?_
    refine RK.region ?_
    refine RL.p rfl rfl ?_
    refine RL.done ?_
    refine RK.ret_of Tryz.func362 (res1 rfl rfl) ?_ _
    exact ⟨_, rfl, congrArg _ (by
        have : ms.findIdx? (fun m => !h m ls) = none := by
          rw [List.findIdx?_eq_none_iff]
          intro x hx
          obtain ⟨i, hi⟩ := List.getElem?_of_mem hx
          have hil := (List.getElem?_eq_some_iff.1 hi).1
          simpa using hno i x (by omega) hi
        rw [this]; rfl), hg⟩
theorem allM_ok (h : Mt → List Lab → Bool) (ms : List Mt) (hh : ∀ m ∈ ms, HoldsC h m) (M M' : Nat → Prop) (ls : List Lab) (hz : ∀ x ∈ ls, x.value.size ≤ 100000) (v vl : Value) (w : World) (hv : SlM M' w v ms) (hl : SlL M w vl ls) :
    Fx Tryz.prog 328 [v, vl] w (fun u w' => u = .bool (ms.all fun m => h m ls) ∧ Grow w w') := by
  obtain ⟨ad, c, rfl⟩ := hl.shape
  have hcont : ∀ (b4 : Nat) (w1 : World), Grow w w1 → Blk w1 b4 122 [.slice ad ls.length c] → Fx Tryz.prog 321 [v, .func (.func 367) #[] #[pp b4]] w1 (fun u w' => u = .bool (!ms.all fun m => h m ls) ∧ Grow w1 w') := fun b4 w1 hg1 hb => by
    have hcall := indexM_ok h ms hh M M' ls hz v _ b4 w1 (hv.mod (Mod.any' hg1)) (hl.mod (Mod.any' hg1)) hb
    obtain ⟨ad2, c2, rfl⟩ := hv.shape
    refine enter Tryz.func321 rfl rfl rfl _ (Pick.sub (l := [0, 1]) (.cons rfl (.cons rfl .nil))) ?_
    refine RK.seq ?_
    refine RK.region ?_
    refine RL.p rfl rfl ?_
    refine RL.done ?_
    refine RK.seq ?_
    refine RK.region ?_
    iterate 2 refine RL.p rfl rfl ?_
    refine RL.op (.free rfl) rfl rfl (Does.call rfl e362 (hcall)) ?_
    rintro _ w2 ⟨rfl, hg2⟩
    iterate 2 refine RL.p rfl rfl ?_
    refine RL.done ?_
    refine RK.ret_of Tryz.func321 (res1 rfl rfl) ?_ _
    exact ⟨_, rfl, congrArg _ (by
        cases hf : ms.findIdx? (fun m => !h m ls) with
        | none =>
          have : (ms.all fun m => h m ls) = true := List.all_eq_true.2 fun m hm => by simpa using List.findIdx?_eq_none_iff.1 hf m hm
          rw [this]; rfl
        | some k =>
          obtain ⟨hk, hp, _⟩ := List.findIdx?_eq_some_iff_getElem.1 hf
          have : (ms.all fun m => h m ls) = false := List.all_eq_false.2 ⟨_, List.getElem_mem hk, by simpa using hp⟩
          rw [this]
          show decide ((0 : Int) ≤ (k : Int)) = true
          simp), hg2⟩
  refine enter Tryz.func328 rfl rfl rfl _ (Pick.sub (l := [0, 1]) (.cons rfl (.cons rfl .nil))) ?_
  refine RK.seq ?_
  refine RK.region ?_
  refine RL.op (.free rfl) rfl rfl (Does.box rfl) ?_
  rintro _ w1 ⟨b1, rfl, hn1⟩
  refine RL.p rfl rfl ?_
  refine RL.done ?_
  refine RK.seq ?_
  refine RK.region ?_
  iterate 2 refine RL.p rfl rfl ?_
  refine RL.op (.free rfl) rfl rfl (Does.call rfl e321 (hcont b1 _ hn1.grow hn1.blk)) ?_
  rintro _ w2 ⟨rfl, hg2⟩
  iterate 2 refine RL.p rfl rfl ?_
  refine RL.done ?_
  refine RK.ret_of Tryz.func328 (res1 rfl rfl) ?_ _
  exact ⟨_, rfl, by simp, hn1.grow.trans hg2⟩
end Go.Proofs.YtcndimkkojdflaaGreatDoor
set_option linter.unusedVariables false
set_option linter.unusedSimpArgs false
set_option maxHeartbeats 800000
set_option maxRecDepth 100000
namespace Go.Proofs.YtcndimkkojdflaaGreatDoor
open Go Go.X
structure IM (M X : Nat → Prop) (w : World) (ix : Nat) (has : List (Int × List Lab)) (rows : List (LabK × List Int)) : Prop where
  at_ : ∃ mh mr, IdxAt (fun b => M b ∨ X b) w ix mh mr has rows ∧ (∀ b, M b ↔ b = mh ∨ b = mr)
  apart : ∀ b, X b → ¬ M b ∧ b ≠ ix ∧ b < w.heap.size
  inv : IxI has rows
  sets : ∀ t ∈ has, isS t.2 = true
  rng : ∀ t ∈ has, -9223372036854775808 ≤ t.1 ∧ t.1 ≤ 9223372036854775807
  len : has.length ≤ 1000
  bd : ∀ t ∈ rows, t.2.length ≤ 6000
theorem IM.lt {M X : Nat → Prop} {w : World} {ix : Nat} {has : List (Int × List Lab)} {rows : List (LabK × List Int)} (h : IM M X w ix has rows) {b : Nat} (hb : M b) : b < w.heap.size := by
  obtain ⟨mh, mr, h1, h2⟩ := h.at_
  rcases (h2 b).1 hb with rfl | rfl
  · exact h1.mps.1.lt
  · exact h1.mps.2.lt
theorem IM.lt2 {M X : Nat → Prop} {w : World} {ix : Nat} {has : List (Int × List Lab)} {rows : List (LabK × List Int)} (h : IM M X w ix has rows) {b : Nat} (hb : M b ∨ X b) : b < w.heap.size := by
  rcases hb with hb | hb
  · exact h.lt hb
  · exact (h.apart b hb).2.2
theorem IM.grow {M X : Nat → Prop} {w w' : World} {ix : Nat} {has : List (Int × List Lab)} {rows : List (LabK × List Int)} (h : IM M X w ix has rows) (hg : Grow w w') : IM M X w' ix has rows := by
  obtain ⟨mh, mr, h1, h2⟩ := h.at_
  exact ⟨⟨mh, mr, h1.mod hg (fun _ _ h => h.elim) (fun h => h) (fun h => h) (fun h => h), h2⟩, fun b hb => by have h3 := h.apart b hb; have := hg.size; exact ⟨h3.1, h3.2.1, by omega⟩, h.inv, h.sets, h.rng, h.len, h.bd⟩
theorem add_no (M : Nat → Prop) (w : World) (ix mh mr : Nat) (has : List (Int × List Lab)) (rows : List (LabK × List Int)) (h : IdxAt M w ix mh mr has rows) (id : Int) (ls : List Lab) (v : Value) (hv : SlL M w v ls) (hno : (lookM has id).isSome = true ∨ isS ls = false) :
    Fx Tryz.prog 317 [pp ix, .int .i64 id, v] w (fun u w' => u = .bool false ∧ Grow w w') := by
  obtain ⟨ad, c, rfl⟩ := hv.shape
  obtain ⟨l, hl1, hl2, hl3⟩ := h.hl
  have hsome : (lookM (l.map fun t => (t.1, t.2.2)) id).isSome = (lookM has id).isSome := by
    have e1 := lookM_map (fun a : List Lab × Value => a.1) id l
    have e2 := lookM_map (fun a : List Lab × Value => a.2) id l
    rw [hl1] at e1
    rw [e1, e2]; simp
  cases hs : (lookM has id).isSome with
  | true =>
    rw [hs] at hsome
    obtain ⟨z, hz⟩ : ∃ z, (lookM (l.map fun t => (t.1, t.2.2)) id).getD (.slice none 0 0) = z := ⟨_, rfl⟩
    refine enter Tryz.func317 rfl rfl rfl _ (Pick.sub (l := [0, 1, 2]) (.cons rfl (.cons rfl (.cons rfl .nil)))) ?_
    refine RK.seq ?_
    refine RK.region ?_
    refine RL.p rfl rfl ?_
    refine RL.done ?_
    iterate 2 refine RK.seq ?_
    refine RK.region ?_
    iterate 2 refine RL.p rfl rfl ?_
    refine RL.q (.free rfl) rfl rfl (Yld.fieldAddr fo376_0 rfl) ?_
    refine RL.q (.free rfl) rfl rfl (Yld.load p373 rfl (at1 (h.blk.cell rfl))) ?_
    refine RL.p rfl rfl ?_
    refine RL.q (.free rfl) rfl rfl (Yld.lookup Tryz.underlying373 key3 i122 rfl rfl (fun w' e => e ▸ hl2)) ?_
    refine RL.re (d := 17) rfl rfl (show _ = Value.tuple #[z, .bool true] by rw [hz, hsome]; rfl) ?_
    iterate 5 refine RL.p rfl rfl ?_
    refine RL.done ?_
    refine RK.seq ?_
    refine RK.region ?_
    iterate 2 refine RL.p rfl rfl ?_
    refine RL.knownT (d := 21) rfl rfl (rfl) ?_
    iterate 3 refine RL.no (.no rfl rfl rfl rfl) rfl rfl ?_
    refine RL.p rfl rfl ?_
    refine RL.done ?_
    refine RK.condT rfl ?_
    refine RK.seq ?_
    refine RK.region ?_
    refine RL.p rfl rfl ?_
    refine RL.done ?_
    refine RK.ret_of Tryz.func317 (res1 rfl rfl) ?_ _
    exact ⟨_, rfl, rfl, Mod.refl _ _⟩
  | false =>
    have his : isS ls = false := by rcases hno with h1 | h1; (rw [hs] at h1; cases h1); exact h1
    rw [hs] at hsome
    obtain ⟨z, hz⟩ : ∃ z, (lookM (l.map fun t => (t.1, t.2.2)) id).getD (.slice none 0 0) = z := ⟨_, rfl⟩
    refine enter Tryz.func317 rfl rfl rfl _ (Pick.sub (l := [0, 1, 2]) (.cons rfl (.cons rfl (.cons rfl .nil)))) ?_
    refine RK.seq ?_
    refine RK.region ?_
    refine RL.p rfl rfl ?_
    refine RL.done ?_
    iterate 2 refine RK.seq ?_
    refine RK.region ?_
    iterate 2 refine RL.p rfl rfl ?_
    refine RL.q (.free rfl) rfl rfl (Yld.fieldAddr fo376_0 rfl) ?_
    refine RL.q (.free rfl) rfl rfl (Yld.load p373 rfl (at1 (h.blk.cell rfl))) ?_
    refine RL.p rfl rfl ?_
    refine RL.q (.free rfl) rfl rfl (Yld.lookup Tryz.underlying373 key3 i122 rfl rfl (fun w' e => e ▸ hl2)) ?_
    refine RL.re (d := 17) rfl rfl (show _ = Value.tuple #[z, .bool false] by rw [hz, hsome]; rfl) ?_
    iterate 5 refine RL.p rfl rfl ?_
    refine RL.done ?_
    refine RK.seq ?_
    refine RK.region ?_
    iterate 2 refine RL.p rfl rfl ?_
    refine RL.knownF (d := 21) rfl rfl (rfl) ?_
    refine RL.q (.yes rfl rfl rfl) rfl rfl (Yld.pure rfl) ?_
    refine RL.op (.yes rfl rfl rfl) rfl rfl (Does.call rfl e232 (is_ok M ls _ _ hv)) ?_
    rintro _ w2 ⟨rfl, hg2⟩
    refine RL.q (.yes rfl rfl rfl) rfl rfl (Yld.pure rfl) ?_
    refine RL.p rfl rfl ?_
    refine RL.done ?_
    refine RK.condT (hcT rfl (by rw [his]; rfl)) ?_
    refine RK.seq ?_
    refine RK.region ?_
    refine RL.p rfl rfl ?_
    refine RL.done ?_
    refine RK.ret_of Tryz.func317 (res1 rfl rfl) ?_ _
    exact ⟨_, rfl, rfl, hg2⟩
def addable (has : List (Int × List Lab)) (id : Int) (ls : List Lab) : Bool := (lookM has id).isNone && isS ls
def addH (has : List (Int × List Lab)) (id : Int) (ls : List Lab) : List (Int × List Lab) := if addable has id ls then putM has id ls else has
def addR (has : List (Int × List Lab)) (rows : List (LabK × List Int)) (id : Int) (ls : List Lab) : List (LabK × List Int) := if addable has id ls then addRows rows id ls else rows
theorem IM.add {M X : Nat → Prop} {w : World} {ix : Nat} {has : List (Int × List Lab)} {rows : List (LabK × List Int)} (h : IM M X w ix has rows) (hlen : has.length < 1000) (hbd : ∀ t ∈ rows, t.2.length ≤ 5994) {id : Int} (hid : -9223372036854775808 ≤ id ∧ id ≤ 9223372036854775807) {ls : List Lab} {v : Value} (hv : SlL (fun b => M b ∨ X b) w v ls) :
    Fx Tryz.prog 317 [pp ix, .int .i64 id, v] w (fun u w' => u = .bool (addable has id ls) ∧ IM M X w' ix (addH has id ls) (addR has rows id ls) ∧ Mod M w w') := by
  obtain ⟨mh, mr, h1, h2⟩ := h.at_
  cases ha : addable has id ls with
  | true =>
    have eH : addH has id ls = putM has id ls := by unfold addH; rw [ha]; rfl
    have eR : addR has rows id ls = addRows rows id ls := by unfold addR; rw [ha]; rfl
    rw [eH, eR]
    unfold addable at ha
    simp only [Bool.and_eq_true, Option.isNone_iff_eq_none] at ha
    have h6 := isS_len ha.2
    refine Fx.mono (add_ok _ w ix mh mr has rows h1 (.inl ((h2 mh).2 (.inl rfl))) (.inl ((h2 mr).2 (.inr rfl))) (fun b hb => h.lt2 hb) id ls v hv ha.1 ha.2 (fun t ht => by have := h.bd t ht; omega)) ?_
    rintro u w' ⟨rfl, h3, h4⟩
    refine ⟨rfl, ⟨⟨mh, mr, h3, h2⟩, fun b hb => by have h9 := h.apart b hb; have := h4.size; exact ⟨h9.1, h9.2.1, by omega⟩, h.inv.add ha.1 ls, fun t ht => ?_, fun t ht => ?_, ?_, fun t ht => ?_⟩, h4.mono fun b _ e => (h2 b).2 e⟩
    · rcases mem_putM ht with h5 | rfl
      · exact h.sets t h5
      · exact ha.2
    · rcases mem_putM ht with h5 | rfl
      · exact h.rng t h5
      · exact hid
    · rw [putM_new ha.1]; simp; omega
    · have := addRows_bound (B := 5994) hbd id ls t ht; omega
  | false =>
    have eH : addH has id ls = has := by unfold addH; rw [ha]; rfl
    have eR : addR has rows id ls = rows := by unfold addR; rw [ha]; rfl
    rw [eH, eR]
    refine Fx.mono (add_no _ w ix mh mr has rows h1 id ls v hv ?_) ?_
    · unfold addable at ha
      cases hl : lookM has id with
      | none => rw [hl] at ha; right; simpa using ha
      | some x => left; rfl
    · rintro u w' ⟨rfl, hg⟩
      exact ⟨rfl, h.grow hg, Mod.any' hg⟩
theorem IM.drop {M X : Nat → Prop} {w : World} {ix : Nat} {has : List (Int × List Lab)} {rows : List (LabK × List Int)} (h : IM M X w ix has rows) (id : Int) :
    Fx Tryz.prog 320 [pp ix, .int .i64 id] w (fun u w' => u = .bool (lookM has id).isSome ∧ IM M X w' ix (cutM has id) (dropRows rows id ((lookM has id).getD [])) ∧ Mod M w w') := by
  obtain ⟨mh, mr, h1, h2⟩ := h.at_
  refine Fx.mono (drop_ok _ w ix mh mr has rows h1 (.inl ((h2 mh).2 (.inl rfl))) (.inl ((h2 mr).2 (.inr rfl))) (fun b hb => h.lt2 hb) id (fun t ht => by have := h.bd t ht; omega)) ?_
  rintro u w' ⟨rfl, h3, h4⟩
  exact ⟨rfl, ⟨⟨mh, mr, h3, h2⟩, fun b hb => by have h9 := h.apart b hb; have := h4.size; exact ⟨h9.1, h9.2.1, by omega⟩, h.inv.drop id, fun t ht => h.sets t (mem_cutM' ht), fun t ht => h.rng t (mem_cutM' ht), Nat.le_trans (cutM_sub id has).length_le h.len, dropRows_bound h.bd id _⟩, h4.mono fun b _ e => (h2 b).2 e⟩
theorem IM.ids {M X : Nat → Prop} {w : World} {ix : Nat} {has : List (Int × List Lab)} {rows : List (LabK × List Int)} (h : IM M X w ix has rows) : Fx Tryz.prog 323 [pp ix] w (fun u w' => Row w' 3 1 u (idsS has).length (ints (idsS has)) ∧ Fresh w.heap.size u ∧ Grow w w') := by
  obtain ⟨mh, mr, h1, h2⟩ := h.at_
  exact ids_ok _ w ix mh mr has rows h1 h.inv.nd h.rng (by have := h.len; omega)
theorem IM.posting {M X : Nat → Prop} {w : World} {ix : Nat} {has : List (Int × List Lab)} {rows : List (LabK × List Int)} (h : IM M X w ix has rows) (nm vl : ByteArray) : Fx Tryz.prog 325 [pp ix, .string nm, .string vl] w (fun u w' => Row w' 3 1 u ((lookM rows (nm, vl)).getD []).length (ints ((lookM rows (nm, vl)).getD [])) ∧ Fresh w.heap.size u ∧ Grow w w') := by
  obtain ⟨mh, mr, h1, h2⟩ := h.at_
  exact posting_ok _ w ix mh mr has rows h1 (fun t ht => by have := h.bd t ht; omega) nm vl
theorem IM.size {M X : Nat → Prop} {w : World} {ix : Nat} {has : List (Int × List Lab)} {rows : List (LabK × List Int)} (h : IM M X w ix has rows) : Fx Tryz.prog 222 [pp ix] w (fun u w' => u = .int .i64 rows.length ∧ w = w') := by
  obtain ⟨mh, mr, h1, h2⟩ := h.at_
  exact idxLen_ok _ w ix mh mr has rows h1
theorem find1M_ok (h : Mt → List Lab → Bool) (ms : List Mt) (hh : ∀ m ∈ ms, HoldsC h m) (M : Nat → Prop) (w : World) (ix mh mr : Nat) (has : List (Int × List Lab)) (rows : List (LabK × List Int)) (hi : IdxAt M w ix mh mr has rows) (hsz : ∀ t ∈ has, ∀ x ∈ t.2, x.value.size ≤ 100000) (b2 b3 : Nat) (vm : Value) (hm : SlM No w vm ms) (hb2 : Blk w b2 288 [pp ix]) (hb3 : Blk w b3 116 [vm]) (id : Int) :
    Fx Tryz.prog 327 [.int .i64 id, pp b3, pp b2] w (fun u w' => u = .bool (!ms.all fun m => h m ((lookM has id).getD [])) ∧ Grow w w') := by
  obtain ⟨l, hl1, hl2, hl3⟩ := hi.hl
  obtain ⟨adm, cm, rfl⟩ := hm.shape
  obtain ⟨ls, hls⟩ : ∃ ls, (lookM has id).getD [] = ls := ⟨_, rfl⟩
  rw [hls]
  have hlz : ∀ x ∈ ls, x.value.size ≤ 100000 := by
    intro x hx
    cases hl9 : lookM has id with
    | none => rw [hl9] at hls; simp at hls; subst hls; cases hx
    | some q => rw [hl9] at hls; simp at hls; subst hls; exact hsz _ (lookM_mem hl9) x hx
  obtain ⟨vl, hvl, hv⟩ : ∃ vl, (lookM (l.map fun t => (t.1, t.2.2)) id).getD (.slice none 0 0) = vl ∧ SlL M w vl ls := by
    have e1 := lookM_map (fun a : List Lab × Value => a.1) id l
    have e2 := lookM_map (fun a : List Lab × Value => a.2) id l
    rw [hl1] at e1
    rw [e1] at hls
    rw [e2]
    cases hh : lookM l id with
    | none => rw [hh] at hls; simp at hls; subst hls; exact ⟨_, rfl, Sl.nil _ _ _ _ _⟩
    | some a => rw [hh] at hls; simp at hls; subst hls; exact ⟨_, rfl, hl3 _ (lookM_mem hh)⟩
  refine enter Tryz.func327 rfl rfl rfl _ (Pick.sub (l := [0, 1, 2]) (.cons rfl (.cons rfl (.cons rfl .nil)))) ?_
  refine RK.seq ?_
  refine RK.region ?_
  refine RL.p rfl rfl ?_
  refine RL.done ?_
  refine RK.seq ?_
  refine RK.drawM No [(0, false), (1, false), (2, false), (3, false), (4, false), (5, false), (6, false), (7, true), (8, false), (9, false)] [] mixed (by kernel_rfl) ?_
  refine DL.q rfl (.free rfl) rfl rfl rfl (Yld.load p116 rfl (atM (hb3.cell rfl) (fun h => h))) (Mod.drew _ _) ?_
  refine DL.q rfl (.free rfl) rfl rfl rfl (Yld.load p288 rfl (atM (hb2.cell rfl) (fun h => h))) (Mod.drew _ _) ?_
  refine DL.p rfl rfl rfl ?_
  refine DL.qf rfl (.free rfl) rfl rfl (Yld.fieldAddr fo376_0 rfl) ?_
  refine DL.q rfl (.free rfl) rfl rfl rfl (Yld.load p373 rfl (atM (hi.blk.cell rfl) (fun h => h))) (Mod.drew _ _) ?_
  refine DL.p rfl rfl rfl ?_
  refine DL.q rfl (.free rfl) rfl rfl rfl (Yld.lookup Tryz.underlying373 key3 i122 (k := id) rfl rfl (fun w' hm => hl2.mod hm (fun h => h))) (Mod.drew _ _) ?_
  refine DL.re (d := 11) rfl rfl (hvl) ?_
  refine DL.op rfl (.free rfl) rfl rfl (Does.call rfl e328 (allM_ok h ms hh M No ls hlz _ vl _ (hm.mod (Mod.drew _ _)) (hv.mod (Mod.drew _ _)))) ?_
  rintro _ w2 ⟨rfl, hg2⟩
  refine ⟨(Mod.drew _ _).trans hg2, ?_⟩
  iterate 2 refine DL.p rfl rfl rfl ?_
  refine DL.done ?_
  refine RK.ret_of Tryz.func327 (res1 rfl rfl) ?_ _
  exact ⟨_, rfl, rfl, (Mod.drew _ _).trans hg2⟩
theorem IM.find {M X : Nat → Prop} {w : World} {ix : Nat} {has : List (Int × List Lab)} {rows : List (LabK × List Int)} (hI : IM M X w ix has rows) (h : Mt → List Lab → Bool) (ms : List Mt) (hh : ∀ m ∈ ms, HoldsC h m) (heq : ∀ m ∈ ms, m.kind = 1 → m.value ≠ ByteArray.empty → ∀ ls, h m ls = true → getL ls m.name = m.value) (v : Value) (hv : SlM No w v ms) :
    Fx Tryz.prog 264 [pp ix, v] w (fun u w' => (∃ R : List Int, Row w' 3 1 u R.length (ints R) ∧ Ris R ∧ ∀ id, id ∈ R ↔ ∃ ls, (id, ls) ∈ has ∧ (ms.all fun m => h m ls) = true) ∧ Fresh w.heap.size u ∧ Grow w w') := by
  obtain ⟨mh, mr, hi, h2⟩ := hI.at_
  obtain ⟨adm, cm, rfl⟩ := hv.shape
  have hlook : ∀ id ls, (id, ls) ∈ has → (lookM has id).getD [] = ls := fun id ls hm => by rw [(lookM_iff hI.inv.nd).2 hm]; rfl
  have hids : (idsS has).length = has.length := by unfold idsS; rw [sortI_len]; simp
  have hl1000 := hI.len
  have hbig := hv.big
  have hpost : ∀ m ∈ ms, m.kind = 1 → m.value ≠ ByteArray.empty → ∀ id ls, (id, ls) ∈ has → h m ls = true → id ∈ (lookM rows (m.name, m.value)).getD [] := fun m hm hk hne id ls hmem hho => by
    have hg := heq m hm hk hne ls hho
    refine (hI.inv.mem _ _).2 ⟨ls, hmem, ?_⟩
    unfold getL at hg
    cases hf : ls.find? (fun x => decide (x.name = m.name)) with
    | none => rw [hf] at hg; exact absurd hg.symm hne
    | some x =>
      rw [hf] at hg
      have hx := List.find?_some hf
      refine ⟨x, List.mem_of_find?_eq_some hf, ?_⟩
      simp only [labK]
      rw [show x.name = m.name by simpa using hx, show x.value = m.value by simpa using hg]
  refine enter Tryz.func264 rfl rfl rfl _ (Pick.sub (l := [0, 1]) (.cons rfl (.cons rfl .nil))) ?_
  refine RK.seq ?_
  refine RK.region ?_
  refine RL.op (.free rfl) rfl rfl (Does.box rfl) ?_
  rintro _ w1 ⟨b2, rfl, hn2⟩
  refine RL.op (.free rfl) rfl rfl (Does.box rfl) ?_
  rintro _ w2 ⟨b3, rfl, hn3⟩
  have hg02 := hn2.grow.trans hn3.grow
  have hB2 := hn2.blk.mod hn3.grow (fun h => h)
  have hB3 := hn3.blk
  refine RL.p rfl rfl ?_
  refine RL.done ?_
  refine RK.seq ?_
  refine RK.region ?_
  refine RL.q (.free rfl) rfl rfl (Yld.load p288 rfl (at1 (hB2.cell rfl))) ?_
  refine RL.op (.free rfl) rfl rfl (Does.call rfl e323 ((hI.grow hg02).ids)) ?_
  rintro u3 w3 ⟨hr3, hf3, hg3⟩
  refine RL.p rfl rfl ?_
  refine RL.done ?_
  iterate 2 refine RK.seq ?_
  refine RK.region ?_
  refine RL.q (.free rfl) rfl rfl (Yld.load p116 rfl (at1 ((hB3.mod hg3 (fun h => h)).cell rfl))) ?_
  have hg03 := hg02.trans hg3
  have hs02 := hg02.size
  refine RL.q (.free rfl) rfl rfl (Yld.lenSl u116 rfl) ?_
  refine RL.p rfl rfl ?_
  refine RL.done ?_
  refine RK.block ?_
  refine RK.loop (fun s : Nat × Value => [(2, pp b2), (3, pp b3), (10, .slice adm ms.length cm), (11, .int .i64 ms.length), (12, .int .i64 (s.1 : Int)), (5, s.2)]) (fun s w' => (∃ R : List Int, Row w' 3 1 s.2 R.length (ints R) ∧ Ris R ∧ (∀ id ∈ R, id ∈ idsS has) ∧ R.length ≤ 1000 ∧ ∀ id ls, (id, ls) ∈ has → (ms.all fun m => h m ls) = true → id ∈ R) ∧ Fresh w2.heap.size s.2 ∧ Grow w2 w' ∧ s.1 ≤ ms.length) (fun s => ms.length - s.1) (0, u3) ⟨rfl, rfl, rfl, rfl, rfl, rfl, trivial⟩ ⟨⟨idsS has, hr3, idsS_ris hI.inv.nd, fun id h => h, by omega, fun id ls hm _ => mem_idsS.2 (List.mem_map_of_mem (f := fun t : Int × List Lab => t.1) hm)⟩, hf3, hg3, by simp⟩ (fun s w' hI' ih => ?_)
  obtain ⟨k, u⟩ := s
  obtain ⟨⟨R, hr, hris, hsub, hRl, hall⟩, hf, hg, hk⟩ := hI'
  simp only at hr hf hk
  have hg0 := hg02.trans hg
  refine RK.seq ?_
  refine RK.region ?_
  refine RL.p rfl rfl ?_
  refine RL.done ?_
  refine RK.seq ?_
  first | refine RK.condD rfl (fun h13 => ?_) (fun h13 => ?_) | refine RK.condN rfl (fun h13 => ?_) (fun h13 => ?_) | refine RK.cond rfl (fun h13 => ?_) (fun h13 => ?_)
  · obtain ⟨x, hx⟩ : ∃ x, ms[k]? = some x := ⟨ms[k]'(by omega), List.getElem?_eq_getElem (by omega)⟩
    obtain ⟨b1, o1, c1', he1, _, _, hc1⟩ := hv.elem mtC_len hx
    cases he1
    refine RK.skip ?_
    refine RK.seq ?_
    refine RK.block ?_
    refine RK.seq ?_
    refine RK.region ?_
    refine RL.q (.free rfl) rfl rfl (Yld.indexAddrN u116 i309 rfl rfl (by omega)) ?_
    refine RL.q (.free rfl) rfl rfl (Yld.loadN (cs := [.int .i64 x.kind, .string x.name, .string x.value]) a309 rfl (atN (fun q z hq => hg0.cell (hc1 q z hq) (fun h => h)))) ?_
    refine RL.op (.free rfl) rfl rfl (Does.alloc i309) ?_
    rintro _ w7 ⟨b7, rfl, hn7⟩
    refine RL.op' (.free rfl) rfl (Does.storeN i309 rfl rfl rfl rfl hn7.blk (Nat.le_refl 3)) ?_
    rintro _ w8 ⟨hb8, hm8, _⟩
    have hB8 : Blk w8 b7 309 [.int .i64 x.kind, .string x.name, .string x.value] := hb8
    have hg8 : Grow w' w8 := hn7.grow.then hm8 (fun y hy e => by have e' : y = b7 := e; have := hn7.at_; omega)
    refine RL.done ?_
    refine RK.seq ?_
    refine RK.region ?_
    refine RL.q (.free rfl) rfl rfl (Yld.fieldAddr fo309_0 rfl) ?_
    refine RL.q (.free rfl) rfl rfl (Yld.load p3 rfl (at1 (hB8.cell rfl))) ?_
    iterate 2 refine RL.p rfl rfl ?_
    first | refine RL.splitD (d := 19) rfl rfl (fun h19 => ?_) (fun h19 => ?_) | refine RL.splitN (d := 19) rfl rfl (fun h19 => ?_) (fun h19 => ?_) | refine RL.split (d := 19) rfl rfl (fun h19 => ?_) (fun h19 => ?_)
    · refine RL.q (.yes rfl rfl rfl) rfl rfl (Yld.fieldAddr fo309_2 rfl) ?_
      refine RL.q (.yes rfl rfl rfl) rfl rfl (Yld.load p9 rfl (at1 (hB8.cell rfl))) ?_
      refine RL.q (.yes rfl rfl rfl) rfl rfl (Yld.pure rfl) ?_
      refine RL.p rfl rfl ?_
      refine RL.done ?_
      first | refine RK.condD rfl (fun h23 => ?_) (fun h23 => ?_) | refine RK.condN rfl (fun h23 => ?_) (fun h23 => ?_) | refine RK.cond rfl (fun h23 => ?_) (fun h23 => ?_)
      · refine RK.region ?_
        refine RL.p rfl rfl ?_
        refine RL.q (.free rfl) rfl rfl (Yld.load p288 rfl (at1 ((hB2.mod (hg.trans hg8) (fun h => h)).cell rfl))) ?_
        refine RL.q (.free rfl) rfl rfl (Yld.fieldAddr fo309_1 rfl) ?_
        refine RL.q (.free rfl) rfl rfl (Yld.load p9 rfl (at1 (hB8.cell rfl))) ?_
        refine RL.q (.free rfl) rfl rfl (Yld.fieldAddr fo309_2 rfl) ?_
        refine RL.q (.free rfl) rfl rfl (Yld.load p9 rfl (at1 (hB8.cell rfl))) ?_
        refine RL.op (.free rfl) rfl rfl (Does.call rfl e325 ((hI.grow (hg0.trans hg8)).posting x.name x.value)) ?_
        rintro u9 w9 ⟨hr9, hf9, hg9⟩
        refine RL.op (.free rfl) rfl rfl (Does.call rfl e324 (and_ok No R ((lookM rows (x.name, x.value)).getD []) u u9 _ (Sl.own (hr.mod (hg8.trans hg9) (fun _ _ h => h)) (fun _ _ h => h)) (Sl.own hr9 (fun _ _ h => h)) (by omega))) ?_
        rintro u10 w10 ⟨hr10, hf10, hg10⟩
        rw [mkRow_id hris] at hr10
        have hg210 := ((hg.trans hg8).trans hg9).trans hg10
        refine RL.p rfl rfl ?_
        refine RL.done ?_
        refine RK.inBlock ?_
        refine RK.region ?_
        refine RL.p rfl rfl ?_
        refine RL.re (d := 32) rfl rfl (succ_i64 (by omega)) ?_
        refine RL.p rfl rfl ?_
        refine RL.done ?_
        exact RK.back (ih (k + 1, u10) _ ⟨⟨R.filter fun n => ((lookM rows (x.name, x.value)).getD []).contains n, hr10, hris.sublist List.filter_sublist, fun id hid => hsub id (List.mem_filter.1 hid).1, Nat.le_trans (List.length_filter_le _ _) hRl, fun id ls hm hal => List.mem_filter.2 ⟨hall id ls hm hal, by
            have := hpost x (List.mem_of_getElem? hx) (by first | assumption | (simp_all; done)) (by first | assumption | (simp_all; done)) id ls hm (List.all_eq_true.1 hal x (List.mem_of_getElem? hx))
            simpa using this⟩⟩, fun b e => by have := hf10 b e; have := ((hg.trans hg8).trans hg9).size; omega, hg210, by simp only; omega⟩ (by simp only; omega)) ⟨rfl, rfl, rfl, rfl, rfl, rfl, trivial⟩
      · refine RK.skip ?_
        refine RK.inBlock ?_
        refine RK.region ?_
        refine RL.p rfl rfl ?_
        refine RL.re (d := 32) rfl rfl (succ_i64 (by omega)) ?_
        refine RL.p rfl rfl ?_
        refine RL.done ?_
        exact RK.back (ih (k + 1, u) _ ⟨⟨R, hr.mod hg8 (fun _ _ h => h), hris, hsub, hRl, hall⟩, hf, hg.trans hg8, by simp only; omega⟩ (by simp only; omega)) ⟨rfl, rfl, rfl, rfl, rfl, rfl, trivial⟩
    · iterate 3 refine RL.no (.no rfl rfl rfl rfl) rfl rfl ?_
      refine RL.p rfl rfl ?_
      refine RL.done ?_
      first | refine RK.condD rfl (fun h23 => ?_) (fun h23 => ?_) | refine RK.condN rfl (fun h23 => ?_) (fun h23 => ?_) | refine RK.cond rfl (fun h23 => ?_) (fun h23 => ?_)
      · refine RK.region ?_
        refine RL.p rfl rfl ?_
        refine RL.q (.free rfl) rfl rfl (Yld.load p288 rfl (at1 ((hB2.mod (hg.trans hg8) (fun h => h)).cell rfl))) ?_
        refine RL.q (.free rfl) rfl rfl (Yld.fieldAddr fo309_1 rfl) ?_
        refine RL.q (.free rfl) rfl rfl (Yld.load p9 rfl (at1 (hB8.cell rfl))) ?_
        refine RL.q (.free rfl) rfl rfl (Yld.fieldAddr fo309_2 rfl) ?_
        refine RL.q (.free rfl) rfl rfl (Yld.load p9 rfl (at1 (hB8.cell rfl))) ?_
        refine RL.op (.free rfl) rfl rfl (Does.call rfl e325 ((hI.grow (hg0.trans hg8)).posting x.name x.value)) ?_
        rintro u9 w9 ⟨hr9, hf9, hg9⟩
        refine RL.op (.free rfl) rfl rfl (Does.call rfl e324 (and_ok No R ((lookM rows (x.name, x.value)).getD []) u u9 _ (Sl.own (hr.mod (hg8.trans hg9) (fun _ _ h => h)) (fun _ _ h => h)) (Sl.own hr9 (fun _ _ h => h)) (by omega))) ?_
        rintro u10 w10 ⟨hr10, hf10, hg10⟩
        rw [mkRow_id hris] at hr10
        have hg210 := ((hg.trans hg8).trans hg9).trans hg10
        refine RL.p rfl rfl ?_
        refine RL.done ?_
        refine RK.inBlock ?_
        refine RK.region ?_
        refine RL.p rfl rfl ?_
        refine RL.re (d := 32) rfl rfl (succ_i64 (by omega)) ?_
        refine RL.p rfl rfl ?_
        refine RL.done ?_
        exact RK.back (ih (k + 1, u10) _ ⟨⟨R.filter fun n => ((lookM rows (x.name, x.value)).getD []).contains n, hr10, hris.sublist List.filter_sublist, fun id hid => hsub id (List.mem_filter.1 hid).1, Nat.le_trans (List.length_filter_le _ _) hRl, fun id ls hm hal => List.mem_filter.2 ⟨hall id ls hm hal, by
            have := hpost x (List.mem_of_getElem? hx) (by first | assumption | (simp_all; done)) (by first | assumption | (simp_all; done)) id ls hm (List.all_eq_true.1 hal x (List.mem_of_getElem? hx))
            simpa using this⟩⟩, fun b e => by have := hf10 b e; have := ((hg.trans hg8).trans hg9).size; omega, hg210, by simp only; omega⟩ (by simp only; omega)) ⟨rfl, rfl, rfl, rfl, rfl, rfl, trivial⟩
      · refine RK.skip ?_
        refine RK.inBlock ?_
        refine RK.region ?_
        refine RL.p rfl rfl ?_
        refine RL.re (d := 32) rfl rfl (succ_i64 (by omega)) ?_
        refine RL.p rfl rfl ?_
        refine RL.done ?_
        exact RK.back (ih (k + 1, u) _ ⟨⟨R, hr.mod hg8 (fun _ _ h => h), hris, hsub, hRl, hall⟩, hf, hg.trans hg8, by simp only; omega⟩ (by simp only; omega)) ⟨rfl, rfl, rfl, rfl, rfl, rfl, trivial⟩
  · refine RK.exit rfl ?_
    refine RK.seq ?_
    refine RK.region ?_
    iterate 2 refine RL.p rfl rfl ?_
    refine RL.op (.free rfl) rfl rfl (Does.call rfl e326 (deleteFuncI_ok w2 R u _ (fun id => !ms.all fun m => h m ((lookM has id).getD [])) _ hr hf hg ⟨_, _, rfl, e327, fun n w9 hg9 => find1M_ok h ms hh _ w9 ix mh mr has rows (hi.mod (hg02.trans hg9) (fun _ _ h => h.elim) (fun h => h) (fun h => h) (fun h => h)) (fun t ht x hx => by have := isS_val (hI.sets t ht) x hx; omega) b2 b3 _ (hv.mod (hg02.trans hg9)) (hB2.mod hg9 (fun h => h)) (hB3.mod hg9 (fun h => h)) n⟩)) ?_
    rintro u9 w9 ⟨hr9, hu9, hm9⟩
    refine RL.p rfl rfl ?_
    refine RL.done ?_
    refine RK.ret_of Tryz.func264 (res1 rfl rfl) ?_ _
    exact ⟨_, rfl, ⟨_, hr9, hris.sublist List.filter_sublist, fun id => by
        unfold keepI
        rw [List.mem_filter]
        dsimp only
        constructor
        · rintro ⟨a, b⟩
          obtain ⟨t, ht, e⟩ := List.mem_map.1 (mem_idsS.1 (hsub id a))
          have e2 := hlook t.1 t.2 ht
          subst e
          rw [e2] at b
          exact ⟨t.2, ht, by simpa using b⟩
        · rintro ⟨ls, hm, hal⟩
          refine ⟨hall id ls hm hal, ?_⟩
          rw [hlook id ls hm, hal]; rfl⟩, fun b e => by rw [hu9] at e; have := hf b e; omega, (hg02.trans hg).then hm9 (fun b hb e => by have := hf b e; omega)⟩
end Go.Proofs.YtcndimkkojdflaaGreatDoor
set_option linter.unusedVariables false
set_option linter.unusedSimpArgs false
set_option maxHeartbeats 800000
set_option maxRecDepth 100000
namespace Go.Proofs.YtcndimkkojdflaaGreatDoor
open Go Go.X
end Go.Proofs.YtcndimkkojdflaaGreatDoor
set_option linter.unusedVariables false
set_option linter.unusedSimpArgs false
set_option maxHeartbeats 1000000
set_option maxRecDepth 100000
namespace Go.Proofs.YtcndimkkojdflaaGreatDoor
open Go Go.X Go.Rex
structure Bd where
  all : Bool
  lo : Nat
  hi : Nat
end Go.Proofs.YtcndimkkojdflaaGreatDoor
set_option linter.unusedVariables false
set_option linter.unusedSimpArgs false
set_option maxHeartbeats 1000000
set_option maxRecDepth 100000
namespace Go.Proofs.YtcndimkkojdflaaGreatDoor
open Go Go.X Go.Rex
structure Ru where
  sv : Value
  tv : Value
  ev : Value
  src : List Mt
  tgt : List Mt
  bd : Bd
  eq : List ByteArray
def ruC (r : Ru) : List Value := [r.sv, r.tv, .bool r.bd.all, .float .f64 r.bd.lo, .float .f64 r.bd.hi, r.ev]
def strsV (l : List ByteArray) : List Value := l.map Value.string
structure Ru.Ok (M : Nat → Prop) (w : World) (r : Ru) : Prop where
  s : SlM M w r.sv r.src
  t : SlM M w r.tv r.tgt
  e : Sl M w r.ev 1 r.eq.length (strsV r.eq)
theorem Ru.Ok.mod {M : Nat → Prop} {w w' : World} {r : Ru} (h : r.Ok M w) (hm : Mod M w w') : r.Ok M w' := ⟨h.s.mod hm, h.t.mod hm, h.e.mod hm⟩
end Go.Proofs.YtcndimkkojdflaaGreatDoor
set_option linter.unusedVariables false
set_option linter.unusedSimpArgs false
set_option maxHeartbeats 1000000
set_option maxRecDepth 100000
namespace Go.Proofs.YtcndimkkojdflaaGreatDoor
open Go Go.X Go.Rex
def putB (n : Nat) : List UInt8 := if h : n < 128 then [UInt8.ofNat n] else UInt8.ofNat (n % 128 + 128) :: putB (n / 128)
termination_by n
decreasing_by omega
theorem putB_lo {n : Nat} (h : n < 128) : putB n = [UInt8.ofNat n] := by rw [putB, dif_pos h]
theorem putB_hi {n : Nat} (h : ¬ n < 128) : putB n = UInt8.ofNat (n % 128 + 128) :: putB (n / 128) := by rw [putB, dif_neg h]
theorem ofNat_lo {n : Nat} (h : n < 256) : (UInt8.ofNat n).toNat = n := by simp [UInt8.toNat_ofNat']; omega
def putT (s : ByteArray) : List UInt8 := putB s.size ++ s.data.toList
theorem or_byte (n : Nat) : IntKind.u8.wrap (BitVec.ofInt IntKind.u8.bits (IntKind.u8.wrap (n : Int)) ||| BitVec.ofInt IntKind.u8.bits 128).toNat = ((n % 128 + 128 : Nat) : Int) := by
  have h1 : IntKind.u8.wrap (n : Int) = ((n % 256 : Nat) : Int) := by simp [IntKind.wrap, IntKind.signed, IntKind.bits]
  rw [h1]
  have h2 : n % 128 = (n % 256) % 128 := by omega
  rw [h2]
  have h3 : n % 256 < 256 := Nat.mod_lt _ (by omega)
  generalize n % 256 = m at h3
  have key : ∀ m, m < 256 → IntKind.u8.wrap (BitVec.ofInt IntKind.u8.bits ((m : Nat) : Int) ||| BitVec.ofInt IntKind.u8.bits 128).toNat = ((m % 128 + 128 : Nat) : Int) := by decide +kernel
  exact key m h3
theorem lo_byte {n : Nat} (h : n < 128) : IntKind.u8.wrap (n : Int) = ((UInt8.ofNat n).toNat : Int) := by
  rw [ofNat_lo (by omega)]
  simp [IntKind.wrap, IntKind.signed, IntKind.bits]
  omega
theorem vput_ok (n : Nat) (hn : n < 18446744073709551616) (w : World) : Fx Tryz.prog 92 [.int .u64 n] w (fun u w' => Row w' 5 1 u (putB n).length (bytesV (putB n)) ∧ Fresh w.heap.size u ∧ Grow w w') := by
  refine enter Tryz.func92 rfl rfl rfl _ (Pick.sub (l := [0]) (.cons rfl .nil)) ?_
  refine RK.seq ?_
  refine RK.region ?_
  refine RL.p rfl rfl ?_
  refine RL.done ?_
  refine RK.seq ?_
  refine RK.region ?_
  refine RL.p rfl rfl ?_
  refine RL.done ?_
  refine RK.seq ?_
  refine RK.block ?_
  refine RK.loop (fun s : Nat × List UInt8 × Value => [(0, .int .u64 (s.1 : Int)), (3, s.2.2)]) (fun s w' => Row w' 5 1 s.2.2 s.2.1.length (bytesV s.2.1) ∧ Fresh w.heap.size s.2.2 ∧ Grow w w' ∧ s.1 < 18446744073709551616 ∧ (s.2.1.length = 0 ∨ 1 ≤ s.1) ∧ s.2.1 ++ putB s.1 = putB n ∧ s.1 * 128 ^ s.2.1.length ≤ n) (fun s => s.1) (n, [], .slice none 0 0) ⟨rfl, rfl, trivial⟩ ⟨by simpa [bytesV] using Row.nil _ _ _, fun b e => by simp [Value.ownBlock] at e, Mod.refl _ _, hn, by simp, by simp, by simp⟩ (fun s w' hI ih => ?_)
  obtain ⟨m, l, u⟩ := s
  obtain ⟨hr, hf, hg, hm, hl, hst, hpw⟩ := hI
  simp only at hr hf hm hl hst hpw
  have hl10 : l.length ≤ 10 := by
      rcases Nat.lt_or_ge 10 l.length with h | h
      · have h1 : 128 ^ 10 ≤ 128 ^ l.length := Nat.pow_le_pow_right (by omega) (by omega)
        have h2 : 1 * 128 ^ l.length ≤ m * 128 ^ l.length := Nat.mul_le_mul_right _ (by omega)
        have h3 : (18446744073709551616 : Nat) < 128 ^ 10 := by decide
        omega
      · exact h
  iterate 2 refine RK.seq ?_
  refine RK.region ?_
  iterate 2 refine RL.p rfl rfl ?_
  refine RL.done ?_
  first | refine RK.condD rfl (fun h5 => ?_) (fun h5 => ?_) | refine RK.condN rfl (fun h5 => ?_) (fun h5 => ?_) | refine RK.cond rfl (fun h5 => ?_) (fun h5 => ?_)
  · have h128 : ¬ m < 128 := by omega
    refine RK.skip ?_
    refine RK.block ?_
    refine RK.seq ?_
    refine RK.region ?_
    iterate 2 refine RL.p rfl rfl ?_
    refine RL.q (.free rfl) rfl rfl (Yld.convI Tryz.underlying31 Tryz.underlying5 rfl) ?_
    refine RL.p rfl rfl ?_
    refine RL.re (d := 9) rfl rfl (congrArg (Value.int .u8) ((or_byte m).trans (by rw [ofNat_lo (by omega)] : _ = ((UInt8.ofNat (m % 128 + 128)).toNat : Int)))) ?_
    refine RL.op (.free rfl) rfl rfl (Does.slice1 u39 i5 rfl rfl rfl rfl rfl) ?_
    rintro _ w2 ⟨b2, rfl, hn2⟩
    refine RL.op (.free rfl) rfl rfl (Does.append u39 i5 rfl rfl rfl rfl rfl (hr.mod hn2.grow (fun _ _ h => h)) (Sl.new hn2 1 1 rfl (by omega) (fun h => h)) (rfl) (by omega)) ?_
    rintro u3 w3 ⟨hr3, hm3, hu3⟩
    have hs2 := hn2.grow.size
    have hs0 := hg.size
    refine RL.p rfl rfl ?_
    refine RL.done ?_
    refine RK.region ?_
    refine RL.p rfl rfl ?_
    refine RL.q (.free rfl) rfl rfl (Yld.shr (a := m) (s := 7) rfl rfl (by decide)) ?_
    refine RL.re (d := 13) rfl rfl (congrArg (Value.int .u64) (by rw [Nat.shiftRight_eq_div_pow] : _ = ((m / 128 : Nat) : Int))) ?_
    refine RL.p rfl rfl ?_
    refine RL.done ?_
    refine RK.inBlock ?_
    exact RK.back (ih (m / 128, l ++ [UInt8.ofNat (m % 128 + 128)], u3) _ ⟨by
        simp only
        rw [bytesV_app, List.length_append]; exact hr3, fun b e => by
        rcases hu3 with h1 | h1
        · exact hf b (h1 ▸ e)
        · rw [h1] at e; cases e; omega, (hg.trans hn2.grow).then hm3 (fun b hb e => by have := hf b e; omega), by simp only; omega, by simp only; omega, by simp only; rw [List.append_assoc, ← hst, putB_hi h128]; rfl, by
        simp only
        rw [List.length_append]
        have h1 : m / 128 * 128 ≤ m := Nat.div_mul_le_self m 128
        calc m / 128 * 128 ^ (l.length + 1) = m / 128 * 128 * 128 ^ l.length := by rw [Nat.pow_succ, Nat.mul_assoc, Nat.mul_comm 128]
          _ ≤ m * 128 ^ l.length := Nat.mul_le_mul_right _ h1
          _ ≤ n := hpw⟩ (by simp only; omega)) ⟨rfl, rfl, trivial⟩
  · have h128 : m < 128 := by omega
    refine RK.exit rfl ?_
    refine RK.seq ?_
    refine RK.region ?_
    iterate 2 refine RL.p rfl rfl ?_
    refine RL.q (.free rfl) rfl rfl (Yld.convI Tryz.underlying31 Tryz.underlying5 rfl) ?_
    refine RL.re (d := 16) rfl rfl (congrArg (Value.int .u8) (lo_byte h128)) ?_
    refine RL.op (.free rfl) rfl rfl (Does.slice1 u39 i5 rfl rfl rfl rfl rfl) ?_
    rintro _ w2 ⟨b2, rfl, hn2⟩
    refine RL.op (.free rfl) rfl rfl (Does.append u39 i5 rfl rfl rfl rfl rfl (hr.mod hn2.grow (fun _ _ h => h)) (Sl.new hn2 1 1 rfl (by omega) (fun h => h)) (rfl) (by omega)) ?_
    rintro u3 w3 ⟨hr3, hm3, hu3⟩
    have hs2 := hn2.grow.size
    have hs0 := hg.size
    refine RL.p rfl rfl ?_
    refine RL.done ?_
    refine RK.ret_of Tryz.func92 (res1 rfl rfl) ?_ _
    exact ⟨_, rfl, by
        rw [← hst, putB_lo h128, bytesV_app, List.length_append]; exact hr3, fun b e => by
        rcases hu3 with h1 | h1
        · exact hf b (h1 ▸ e)
        · rw [h1] at e; cases e; omega, (hg.trans hn2.grow).then hm3 (fun b hb e => by have := hf b e; omega)⟩
theorem putB_len (n : Nat) (hn : n < 18446744073709551616) : (putB n).length ≤ 20 := by
  have key : ∀ (k n : Nat), n < 128 ^ k → (putB n).length ≤ k + 1 := by
    intro k
    induction k with
    | zero => intro n h; rw [putB_lo (by omega)]; simp
    | succ k ih =>
      intro n h
      by_cases h1 : n < 128
      · rw [putB_lo h1]; simp
      · rw [putB_hi h1, List.length_cons]
        have := ih (n / 128) (Nat.div_lt_of_lt_mul (by rw [Nat.pow_succ] at h; rw [Nat.mul_comm]; exact h))
        omega
  have := key 10 n (Nat.lt_trans hn (by decide))
  omega
theorem putT_ok (s : ByteArray) (hs : s.size ≤ 100000000) (w : World) : Fx Tryz.prog 95 [.string s] w (fun u w' => Row w' 5 1 u (putT s).length (bytesV (putT s)) ∧ Fresh w.heap.size u ∧ Grow w w') := by
  refine enter Tryz.func95 rfl rfl rfl _ (Pick.sub (l := [0]) (.cons rfl .nil)) ?_
  refine RK.seq ?_
  refine RK.region ?_
  refine RL.p rfl rfl ?_
  refine RL.done ?_
  refine RK.seq ?_
  refine RK.region ?_
  refine RL.p rfl rfl ?_
  refine RL.q (.free rfl) rfl rfl (Yld.lenStr u9 rfl) ?_
  refine RL.q (.free rfl) rfl rfl (Yld.convI Tryz.underlying3 Tryz.underlying31 rfl) ?_
  refine RL.re (d := 5) rfl rfl (congrArg (Value.int .u64) (wrap_u64 (x := s.size) (by omega))) ?_
  refine RL.op (.free rfl) rfl rfl (Does.call rfl e92 (vput_ok s.size (by omega) _)) ?_
  rintro u1 w1 ⟨hr1, hf1, hg1⟩
  have hpl := putB_len s.size (by omega)
  refine RL.p rfl rfl ?_
  refine RL.op (.free rfl) rfl rfl (Does.appendStr u39 Tryz.underlying9 i5 rfl rfl hr1 hf1 hg1.size (by omega)) ?_
  rintro u2 w2 ⟨hr2, hf2, hm2⟩
  refine RL.p rfl rfl ?_
  refine RL.done ?_
  refine RK.ret_of Tryz.func95 (res1 rfl rfl) ?_ _
  exact ⟨_, rfl, by
      unfold putT
      rw [bytesV_app, List.length_append, show s.data.toList.length = s.size from Array.length_toList]; exact hr2, hf2, hg1.then hm2 (fun b hb e => by have := hf1 b e; omega)⟩
end Go.Proofs.YtcndimkkojdflaaGreatDoor
set_option linter.unusedVariables false
set_option linter.unusedSimpArgs false
set_option maxHeartbeats 6400000
set_option maxRecDepth 100000
namespace Go.Proofs.YtcndimkkojdflaaGreatDoor
open Go Go.X
theorem Yld.sliceArr {P : Program} {n : Nat} {e : Env} {C : World → Prop} {d : Option Tmp} {t len el : Nat} {x : Operand} {ty : TypeId} {pos : String} {af : Array Edge} {g : Option (Nat × Bool)} (hT : P.underlying t = some (.array len el)) {z : Value} {sz by' : Nat} (hE : TI P el z sz by') {a : Addr} (hx : ev e x = some (.pointer (some a))) :
    Yld P n C e ⟨d, .slice t x none none none, ty, pos, af, g⟩ (.slice (some a) len len) := by
  intro ac ha w _
  by_cases h : len = 0 <;> simp [execOp, ha.ev hx, Instr.sliceAt, Instr.sureAddr, run_underlying hT, Instr.sliceBounds, Instr.sliceBound, hE.sizeOf w, add_zero_addr, h]
theorem nilB (w : World) : Sl No w (.slice none 0 0) 1 ([] : List UInt8).length (bytesV []) := Sl.own (Row.nil w 5 1) (fun _ _ h => h)
theorem putN0_ok (w : World) : Fx Tryz.prog 93 [.slice none 0 0] w (fun u w' => Grow w w') := by
  refine enter Tryz.func93 rfl rfl rfl _ (Pick.sub (l := [0]) (.cons rfl .nil)) ?_
  refine RK.seq ?_
  refine RK.region ?_
  refine RL.p rfl rfl ?_
  refine RL.done ?_
  refine RK.seq ?_
  refine RK.region ?_
  refine RL.p rfl rfl ?_
  refine RL.q (.free rfl) rfl rfl (Yld.lenSl u63 rfl) ?_
  refine RL.q (.free rfl) rfl rfl (Yld.convI Tryz.underlying3 Tryz.underlying31 rfl) ?_
  refine RL.op (.free rfl) rfl rfl (Does.call rfl e92 (vput_ok 0 (by decide) _)) ?_
  rintro u9 w9 ⟨hr9, hf9, hg9⟩
  refine RL.p rfl rfl ?_
  refine RL.done ?_
  iterate 2 refine RK.seq ?_
  refine RK.region ?_
  refine RL.p rfl rfl ?_
  refine RL.q (.free rfl) rfl rfl (Yld.lenSl u63 rfl) ?_
  refine RL.p rfl rfl ?_
  refine RL.done ?_
  refine RK.block ?_
  refine RK.loop (fun _ : Unit => [(10, .slice none 0 0), (11, .int .i64 0), (12, .int .i64 0), (3, u9)]) (fun _ w' => w9 = w') (fun _ => 0) () ⟨rfl, rfl, rfl, rfl, trivial⟩ rfl (fun _ w' hI ih => ?_)
  subst hI
  refine RK.seq ?_
  refine RK.region ?_
  refine RL.p rfl rfl ?_
  refine RL.done ?_
  refine RK.seq ?_
  refine RK.condF (hcF rfl (rfl)) ?_
  refine RK.exit rfl ?_
  refine RK.seq ?_
  refine RK.region ?_
  iterate 2 refine RL.p rfl rfl ?_
  refine RL.done ?_
  refine RK.ret_of Tryz.func93 (res1 rfl rfl) ?_ _
  exact ⟨_, rfl, hg9⟩
theorem putS0_ok (w : World) : Fx Tryz.prog 94 [.slice none 0 0] w (fun u w' => Grow w w') := by
  refine enter Tryz.func94 rfl rfl rfl _ (Pick.sub (l := [0]) (.cons rfl .nil)) ?_
  refine RK.seq ?_
  refine RK.region ?_
  refine RL.p rfl rfl ?_
  refine RL.done ?_
  refine RK.seq ?_
  refine RK.region ?_
  refine RL.p rfl rfl ?_
  refine RL.q (.free rfl) rfl rfl (Yld.lenSl u104 rfl) ?_
  refine RL.q (.free rfl) rfl rfl (Yld.convI Tryz.underlying3 Tryz.underlying31 rfl) ?_
  refine RL.op (.free rfl) rfl rfl (Does.call rfl e92 (vput_ok 0 (by decide) _)) ?_
  rintro u9 w9 ⟨hr9, hf9, hg9⟩
  refine RL.p rfl rfl ?_
  refine RL.done ?_
  iterate 2 refine RK.seq ?_
  refine RK.region ?_
  refine RL.p rfl rfl ?_
  refine RL.q (.free rfl) rfl rfl (Yld.lenSl u104 rfl) ?_
  refine RL.p rfl rfl ?_
  refine RL.done ?_
  refine RK.block ?_
  refine RK.loop (fun _ : Unit => [(10, .slice none 0 0), (11, .int .i64 0), (12, .int .i64 0), (3, u9)]) (fun _ w' => w9 = w') (fun _ => 0) () ⟨rfl, rfl, rfl, rfl, trivial⟩ rfl (fun _ w' hI ih => ?_)
  subst hI
  refine RK.seq ?_
  refine RK.region ?_
  refine RL.p rfl rfl ?_
  refine RL.done ?_
  refine RK.seq ?_
  refine RK.condF (hcF rfl (rfl)) ?_
  refine RK.exit rfl ?_
  refine RK.seq ?_
  refine RK.region ?_
  iterate 2 refine RL.p rfl rfl ?_
  refine RL.done ?_
  refine RK.ret_of Tryz.func94 (res1 rfl rfl) ?_ _
  exact ⟨_, rfl, hg9⟩
theorem layDo_ok (f field z : Int) (hz : IntKind.i64.wrap ((BitVec.ofInt IntKind.i64.bits f &&& BitVec.ofInt IntKind.i64.bits field).toNat : Int) = z) (h0 : 0 < z) (l : Value) {w : World} {b4 b3 n m : Nat} {v : Value} {cs ds : List Value} (h4 : Blk w b4 3 [.int .i64 f]) (h3 : Blk w b3 39 [v]) (hv : Row w 5 1 v n cs) (hne : v.ownBlock ≠ some b3) (hl : Sl No w l 1 m ds) (h1 : ds.all (·.oneCell') = true) (hb : n + m ≤ 100000) : Fx Tryz.prog 91 [.int .i64 field, l, pp b4, pp b3] w (fun u w' => ∃ v', Blk w' b3 39 [v'] ∧ Row w' 5 1 v' (n + m) (cs ++ ds) ∧ Mod (fun b => b = b3 ∨ v.ownBlock = some b) w w' ∧ (∀ b, v'.ownBlock = some b → v.ownBlock = some b ∨ w.heap.size ≤ b)) := by
  have hb3 := h3.lt
  refine enter Tryz.func91 rfl rfl rfl _ (Pick.sub (l := [0, 1, 2, 3]) (.cons rfl (.cons rfl (.cons rfl (.cons rfl .nil))))) ?_
  refine RK.seq ?_
  refine RK.region ?_
  refine RL.q (.free rfl) rfl rfl (Yld.load p3 rfl (at1 (h4.cell rfl))) ?_
  iterate 2 refine RL.p rfl rfl ?_
  refine RL.re (d := 8) rfl rfl (congrArg (Value.int .i64) hz) ?_
  refine RL.p rfl rfl ?_
  refine RL.done ?_
  refine RK.condT (hcT rfl (decide_eq_true h0)) ?_
  refine RK.region ?_
  refine RL.q (.free rfl) rfl rfl (Yld.load p39 rfl (at1 (h3.cell rfl))) ?_
  refine RL.p rfl rfl ?_
  refine RL.op (.free rfl) rfl rfl (Does.append u39 i5 rfl rfl rfl rfl rfl (hv) (hl) (h1) (by omega)) ?_
  rintro u4 w4 ⟨hr4, hm4, hu4⟩
  have hu4' : ∀ b, u4.ownBlock = some b → b ≠ b3 ∧ (v.ownBlock = some b ∨ w.heap.size ≤ b) := fun b e => by
      rcases hu4 with h | h
      · rw [h] at e; exact ⟨fun hh => hne (hh ▸ e), .inl e⟩
      · rw [h] at e; cases e; exact ⟨by omega, .inr (Nat.le_refl _)⟩
  obtain ⟨a4, c4, rfl⟩ := hr4.slice
  refine RL.op' (.free rfl) rfl (Does.store i39 rfl rfl rfl (h3.mod hm4 (fun e => hne e)) (.z)) ?_
  rintro _ w5 ⟨hb5, hm5, hs5⟩
  refine RL.done ?_
  refine RK.end_of Tryz.func91 (res0 rfl) ?_
  exact ⟨_, rfl, _, hb5, hr4.mod hm5 (fun b e1 e2 => (hu4' b e1).1 e2), (hm4.mono fun b _ h => .inr h).trans (hm5.mono fun b _ h => .inl h), fun b e => (hu4' b e).2⟩
theorem rZeroT_ok (now : Int) (w : World) : Fx Tryz.prog 137 [.agg (respC 0 0 0 now).toArray, .int .i64 1] w (fun u w' => u = .bool true ∧ Grow w w') := by
  refine enter Tryz.func137 rfl rfl rfl _ (Pick.sub (l := [0, 1]) (.cons rfl (.cons rfl .nil))) ?_
  refine RK.seq ?_
  refine RK.region ?_
  refine RL.op (.free rfl) rfl rfl (Does.box rfl) ?_
  rintro _ w1 ⟨b1, rfl, hn1⟩
  have hB : Blk w1 b1 107 (respC 0 0 0 now) := hn1.blk
  refine RL.p rfl rfl ?_
  refine RL.done ?_
  refine RK.seq ?_
  refine RK.region ?_
  iterate 4 refine RL.p rfl rfl ?_
  refine RL.knownT (d := 8) rfl rfl (by first | rfl | decide) ?_
  iterate 3 refine RL.no (.no rfl rfl rfl rfl) rfl rfl ?_
  iterate 2 refine RL.p rfl rfl ?_
  iterate 4 refine RL.q (.yes rfl rfl rfl) rfl rfl (Yld.pure rfl) ?_
  refine RL.knownF (d := 17) rfl rfl (by first | rfl | decide) ?_
  refine RL.q (.yes rfl rfl rfl) rfl rfl (Yld.fieldAddr fo107_2 rfl) ?_
  refine RL.q (.yes rfl rfl rfl) rfl rfl (Yld.load p3 rfl (at1 (hB.cell rfl))) ?_
  iterate 2 refine RL.q (.yes rfl rfl rfl) rfl rfl (Yld.pure rfl) ?_
  iterate 2 refine RL.p rfl rfl ?_
  refine RL.knownT (d := 23) rfl rfl (by first | rfl | decide) ?_
  iterate 4 refine RL.q (.yes rfl rfl rfl) rfl rfl (Yld.pure rfl) ?_
  refine RL.knownF (d := 27) rfl rfl (by first | rfl | decide) ?_
  refine RL.q (.yes rfl rfl rfl) rfl rfl (Yld.fieldAddr fo107_3 rfl) ?_
  refine RL.q (.yes rfl rfl rfl) rfl rfl (Yld.load p63 rfl (at1 (hB.cell rfl))) ?_
  refine RL.q (.yes rfl rfl rfl) rfl rfl (Yld.lenSl u63 rfl) ?_
  iterate 2 refine RL.q (.yes rfl rfl rfl) rfl rfl (Yld.pure rfl) ?_
  iterate 2 refine RL.p rfl rfl ?_
  refine RL.knownT (d := 34) rfl rfl (by first | rfl | decide) ?_
  iterate 4 refine RL.q (.yes rfl rfl rfl) rfl rfl (Yld.pure rfl) ?_
  refine RL.knownF (d := 38) rfl rfl (by first | rfl | decide) ?_
  refine RL.q (.yes rfl rfl rfl) rfl rfl (Yld.fieldAddr fo107_4 rfl) ?_
  refine RL.q (.yes rfl rfl rfl) rfl rfl (Yld.load p63 rfl (at1 (hB.cell rfl))) ?_
  refine RL.q (.yes rfl rfl rfl) rfl rfl (Yld.lenSl u63 rfl) ?_
  iterate 2 refine RL.q (.yes rfl rfl rfl) rfl rfl (Yld.pure rfl) ?_
  iterate 2 refine RL.p rfl rfl ?_
  refine RL.knownT (d := 45) rfl rfl (by first | rfl | decide) ?_
  iterate 4 refine RL.q (.yes rfl rfl rfl) rfl rfl (Yld.pure rfl) ?_
  refine RL.knownF (d := 49) rfl rfl (by first | rfl | decide) ?_
  refine RL.q (.yes rfl rfl rfl) rfl rfl (Yld.fieldAddr fo107_5 rfl) ?_
  refine RL.q (.yes rfl rfl rfl) rfl rfl (Yld.load p104 rfl (at1 (hB.cell rfl))) ?_
  refine RL.q (.yes rfl rfl rfl) rfl rfl (Yld.lenSl u104 rfl) ?_
  iterate 2 refine RL.q (.yes rfl rfl rfl) rfl rfl (Yld.pure rfl) ?_
  iterate 2 refine RL.p rfl rfl ?_
  refine RL.knownT (d := 56) rfl rfl (by first | rfl | decide) ?_
  iterate 4 refine RL.q (.yes rfl rfl rfl) rfl rfl (Yld.pure rfl) ?_
  refine RL.knownF (d := 60) rfl rfl (by first | rfl | decide) ?_
  refine RL.q (.yes rfl rfl rfl) rfl rfl (Yld.fieldAddr fo107_6 rfl) ?_
  refine RL.q (.yes rfl rfl rfl) rfl rfl (Yld.load p39 rfl (at1 (hB.cell rfl))) ?_
  refine RL.q (.yes rfl rfl rfl) rfl rfl (Yld.lenSl u39 rfl) ?_
  iterate 2 refine RL.q (.yes rfl rfl rfl) rfl rfl (Yld.pure rfl) ?_
  iterate 2 refine RL.p rfl rfl ?_
  refine RL.knownT (d := 67) rfl rfl (by first | rfl | decide) ?_
  iterate 4 refine RL.q (.yes rfl rfl rfl) rfl rfl (Yld.pure rfl) ?_
  refine RL.knownF (d := 71) rfl rfl (by first | rfl | decide) ?_
  refine RL.q (.yes rfl rfl rfl) rfl rfl (Yld.fieldAddr fo107_7 rfl) ?_
  refine RL.q (.yes rfl rfl rfl) rfl rfl (Yld.loadN (cs := head0) a105 rfl (atN (fldV hB 7 32))) ?_
  refine RL.q (.yes rfl rfl rfl) rfl rfl (Yld.build (v := .agg head0.toArray) rfl (fun w => by kernel_rfl)) ?_
  refine RL.q (.yes rfl rfl rfl) rfl rfl (Yld.eqK (v := .bool true) rfl rfl (fun w => by kernel_rfl)) ?_
  refine RL.q (.yes rfl rfl rfl) rfl rfl (Yld.pure rfl) ?_
  iterate 2 refine RL.p rfl rfl ?_
  refine RL.done ?_
  refine RK.ret_of Tryz.func137 (res1 rfl rfl) ?_ _
  exact ⟨_, rfl, rfl, hn1.grow⟩
theorem rIsT_ok (now : Int) (hn : now ≤ 1099511627776) (w : World) : Fx Tryz.prog 89 [.agg (respC 0 0 0 now).toArray] w (fun u w' => u = .bool true ∧ Grow w w') := by
  refine enter Tryz.func89 rfl rfl rfl _ (Pick.sub (l := [0]) (.cons rfl .nil)) ?_
  refine RK.seq ?_
  refine RK.region ?_
  refine RL.op (.free rfl) rfl rfl (Does.box rfl) ?_
  rintro _ w1 ⟨b1, rfl, hn1⟩
  have hB : Blk w1 b1 107 (respC 0 0 0 now) := hn1.blk
  refine RL.p rfl rfl ?_
  refine RL.done ?_
  iterate 2 refine RK.seq ?_
  refine RK.region ?_
  refine RL.q (.free rfl) rfl rfl (Yld.fieldAddr fo107_0 rfl) ?_
  refine RL.q (.free rfl) rfl rfl (Yld.load p22 rfl (at1 (hB.cell rfl))) ?_
  refine RL.p rfl rfl ?_
  refine RL.done ?_
  refine RK.condF (hcF rfl (rfl)) ?_
  refine RK.skip ?_
  refine RK.seq ?_
  refine RK.region ?_
  refine RL.q (.free rfl) rfl rfl (Yld.fieldAddr fo107_1 rfl) ?_
  refine RL.q (.free rfl) rfl rfl (Yld.load p3 rfl (at1 (hB.cell rfl))) ?_
  refine RL.op (.free rfl) rfl rfl (Does.call rfl e90 (rFields0_ok _)) ?_
  rintro _ _ ⟨rfl, rfl⟩
  iterate 5 refine RL.p rfl rfl ?_
  refine RL.done ?_
  iterate 2 refine RK.seq ?_
  refine RK.region ?_
  iterate 3 refine RL.p rfl rfl ?_
  refine RL.knownF (d := 34) rfl rfl (rfl) ?_
  refine RL.q (.yes rfl rfl rfl) rfl rfl (Yld.loadN (cs := respC 0 0 0 now) a107 rfl (atN (blkV hB))) ?_
  refine RL.q (.yes rfl rfl rfl) rfl rfl (Yld.pure rfl) ?_
  refine RL.op (.yes rfl rfl rfl) rfl rfl (Does.call rfl e137 (rZeroT_ok now _)) ?_
  rintro _ w2 ⟨rfl, hg2⟩
  have hB2 := hB.mod hg2 (fun h => h)
  refine RL.q (.yes rfl rfl rfl) rfl rfl (Yld.pure rfl) ?_
  iterate 2 refine RL.p rfl rfl ?_
  refine RL.knownF (d := 40) rfl rfl (rfl) ?_
  refine RL.q (.yes rfl rfl rfl) rfl rfl (Yld.fieldAddr fo107_8 rfl) ?_
  refine RL.q (.yes rfl rfl rfl) rfl rfl (Yld.load p31 rfl (at1 (hB2.cell rfl))) ?_
  refine RL.q (.yes rfl rfl rfl) rfl rfl (Yld.pure rfl) ?_
  iterate 2 refine RL.p rfl rfl ?_
  refine RL.knownF (d := 45) rfl rfl (decide_eq_false (by omega)) ?_
  iterate 4 refine RL.q (.yes rfl rfl rfl) rfl rfl (Yld.pure rfl) ?_
  refine RL.knownF (d := 49) rfl rfl (by first | rfl | decide) ?_
  iterate 4 refine RL.no (.no rfl rfl rfl rfl) rfl rfl ?_
  refine RL.q (.yes rfl rfl rfl) rfl rfl (Yld.pure rfl) ?_
  refine RL.p rfl rfl ?_
  refine RL.done ?_
  refine RK.condF rfl ?_
  refine RK.skip ?_
  refine RK.seq ?_
  refine RK.region ?_
  refine RL.p rfl rfl ?_
  refine RL.done ?_
  iterate 2 refine RK.seq ?_
  refine RK.region ?_
  refine RL.q (.free rfl) rfl rfl (Yld.fieldAddr fo107_1 rfl) ?_
  refine RL.q (.free rfl) rfl rfl (Yld.load p3 rfl (at1 (hB2.cell rfl))) ?_
  refine RL.p rfl rfl ?_
  refine RL.done ?_
  refine RK.condF (hcF rfl (rfl)) ?_
  refine RK.skip ?_
  refine RK.seq ?_
  refine RK.region ?_
  refine RL.q (.free rfl) rfl rfl (Yld.fieldAddr fo107_3 rfl) ?_
  refine RL.q (.free rfl) rfl rfl (Yld.load p63 rfl (at1 (hB2.cell rfl))) ?_
  refine RL.p rfl rfl ?_
  refine RL.q (.free rfl) rfl rfl (Yld.fieldAddr fo107_1 rfl) ?_
  refine RL.q (.free rfl) rfl rfl (Yld.load p3 rfl (at1 (hB2.cell rfl))) ?_
  refine RL.p rfl rfl ?_
  refine RL.op (.free rfl) rfl rfl (Does.call rfl e139 (numbers0_ok 16 _ _)) ?_
  rintro _ _ ⟨rfl, rfl⟩
  refine RL.p rfl rfl ?_
  refine RL.knownT (d := 66) rfl rfl (rfl) ?_
  refine RL.q (.yes rfl rfl rfl) rfl rfl (Yld.fieldAddr fo107_4 rfl) ?_
  refine RL.q (.yes rfl rfl rfl) rfl rfl (Yld.load p63 rfl (at1 (hB2.cell rfl))) ?_
  refine RL.op (.yes rfl rfl rfl) rfl rfl (Does.call rfl e139 (numbers0_ok 16 _ _)) ?_
  rintro _ _ ⟨rfl, rfl⟩
  iterate 2 refine RL.p rfl rfl ?_
  refine RL.knownT (d := 71) rfl rfl (rfl) ?_
  refine RL.q (.yes rfl rfl rfl) rfl rfl (Yld.fieldAddr fo107_5 rfl) ?_
  refine RL.q (.yes rfl rfl rfl) rfl rfl (Yld.load p104 rfl (at1 (hB2.cell rfl))) ?_
  refine RL.op (.yes rfl rfl rfl) rfl rfl (Does.call rfl e140 (silences0_ok _)) ?_
  rintro _ _ ⟨rfl, rfl⟩
  iterate 2 refine RL.p rfl rfl ?_
  refine RL.done ?_
  refine RK.ret_of Tryz.func89 (res1 rfl rfl) ?_ _
  exact ⟨_, rfl, rfl, hn1.grow.trans hg2⟩
theorem bytesT_ok (now : Nat) (hn : now ≤ 1099511627776) (w : World) : Fx Tryz.prog 51 [.agg (respC 0 0 0 (now : Int)).toArray] w (fun u w' => ∃ c, Row w' 5 1 u c (bytesV ([0, 0] ++ putB now)) ∧ Fresh w.heap.size u ∧ Grow w w') := by
  refine enter Tryz.func51 rfl rfl rfl _ (Pick.sub (l := [0]) (.cons rfl .nil)) ?_
  refine RK.seq ?_
  refine RK.region ?_
  refine RL.op (.free rfl) rfl rfl (Does.box rfl) ?_
  rintro _ w1 ⟨b1, rfl, hn1⟩
  have hB : Blk w1 b1 107 (respC 0 0 0 (now : Int)) := hn1.blk
  refine RL.p rfl rfl ?_
  refine RL.done ?_
  iterate 2 refine RK.seq ?_
  refine RK.region ?_
  refine RL.q (.free rfl) rfl rfl (Yld.loadN (cs := respC 0 0 0 (now : Int)) a107 rfl (atN (blkV hB))) ?_
  refine RL.op (.free rfl) rfl rfl (Does.call rfl e89 (rIsT_ok (now : Int) (by omega) _)) ?_
  rintro _ w2 ⟨rfl, hg2⟩
  have hB2 := hB.mod hg2 (fun h => h)
  refine RL.p rfl rfl ?_
  refine RL.done ?_
  refine RK.condF (hcF rfl (rfl)) ?_
  refine RK.skip ?_
  iterate 2 refine RK.seq ?_
  refine RK.region ?_
  refine RL.q (.free rfl) rfl rfl (Yld.fieldAddr fo107_0 rfl) ?_
  refine RL.q (.free rfl) rfl rfl (Yld.load p22 rfl (at1 (hB2.cell rfl))) ?_
  refine RL.p rfl rfl ?_
  refine RL.done ?_
  refine RK.condF (hcF rfl (rfl)) ?_
  refine RK.skip ?_
  refine RK.seq ?_
  refine RK.region ?_
  refine RL.q (.free rfl) rfl rfl (Yld.fieldAddr fo107_0 rfl) ?_
  refine RL.q (.free rfl) rfl rfl (Yld.load p22 rfl (at1 (hB2.cell rfl))) ?_
  refine RL.q (.free rfl) rfl rfl (Yld.convI Tryz.underlying22 Tryz.underlying5 rfl) ?_
  refine RL.q (.free rfl) rfl rfl (Yld.fieldAddr fo107_1 rfl) ?_
  refine RL.q (.free rfl) rfl rfl (Yld.load p3 rfl (at1 (hB2.cell rfl))) ?_
  refine RL.q (.free rfl) rfl rfl (Yld.convI Tryz.underlying3 Tryz.underlying5 rfl) ?_
  refine RL.op (.free rfl) rfl rfl (Does.bslice (el := 5) ([.int .u8 0, .int .u8 0]) rfl (fun w => by kernel_rfl)) ?_
  rintro _ w5 ⟨b5, rfl, hn5⟩
  refine RL.op (.free rfl) rfl rfl (Does.alloc i39) ?_
  rintro _ w6 ⟨b6, rfl, hn6⟩
  have ha1 := hn1.at_
  have hz1 := hn1.size
  have hz2 := hg2.size
  have ha5 := hn5.at_
  have hz5 := hn5.size
  have ha6 := hn6.at_
  have hz6 := hn6.size
  refine RL.op' (.free rfl) rfl (Does.store i39 rfl rfl rfl hn6.blk (.z)) ?_
  rintro _ w7 ⟨hb7, hm7, hs7⟩
  have hg57 : Grow w2 w7 := (hn5.grow.trans hn6.grow).then hm7 (fun x hx e => by have e' : x = b6 := e; omega)
  have hB7 := hB2.mod hg57 (fun h => h)
  have hr7 : Row w7 5 1 (.slice (some ⟨b5, 0, none⟩) 2 2) 2 (bytesV [0, 0]) := ((Row.new hn5 1 2 rfl (by omega)).mod hn6.grow (fun _ _ h => h)).mod hm7 (fun b e1 e2 => by simp [Value.ownBlock] at e1; have e' : b = b6 := e2; omega)
  refine RL.done ?_
  refine RK.seq ?_
  refine RK.region ?_
  refine RL.q (.free rfl) rfl rfl (Yld.fieldAddr fo107_1 rfl) ?_
  refine RL.q (.free rfl) rfl rfl (Yld.load p3 rfl (at1 (hB7.cell rfl))) ?_
  refine RL.op (.free rfl) rfl rfl (Does.call rfl e90 (rFields0_ok _)) ?_
  rintro _ _ ⟨rfl, rfl⟩
  iterate 3 refine RL.p rfl rfl ?_
  refine RL.op (.free rfl) rfl rfl (Does.alloc i3) ?_
  rintro _ w8 ⟨b8, rfl, hn8⟩
  have ha8 := hn8.at_
  have hz8 := hn8.size
  refine RL.op' (.free rfl) rfl (Does.store i3 rfl rfl rfl hn8.blk (.z)) ?_
  rintro _ w9 ⟨hb9, hm9, hs9⟩
  have hg79 : Grow w7 w9 := hn8.grow.then hm9 (fun x hx e => by have e' : x = b8 := e; omega)
  have hb79 := hb7.mod hg79 (fun h => h)
  have hr79 := hr7.mod hg79 (fun _ _ h => h)
  have hB9 := hB7.mod hg79 (fun h => h)
  have hg09 : Grow w w9 := ((hn1.grow.trans hg2).trans hg57).trans hg79
  refine RL.p rfl rfl ?_
  refine RL.done ?_
  refine RK.seq ?_
  refine RK.region ?_
  iterate 2 refine RL.p rfl rfl ?_
  refine RL.done ?_
  refine RK.seq ?_
  refine RK.region ?_
  refine RL.p rfl rfl ?_
  refine RL.q (.free rfl) rfl rfl (Yld.fieldAddr fo107_8 rfl) ?_
  refine RL.q (.free rfl) rfl rfl (Yld.load p31 rfl (at1 (hB9.cell rfl))) ?_
  refine RL.op (.free rfl) rfl rfl (Does.call rfl e92 (vput_ok now (by omega) _)) ?_
  rintro u10 w10 ⟨hr10, hf10, hg10⟩
  have hBB10 := hB9.mod hg10 (fun h => h)
  have hbb10 := hb79.mod hg10 (fun h => h)
  have hrr10 := hr79.mod hg10 (fun _ _ h => h)
  have hff10 := hb9.mod hg10 (fun h => h)
  have hgg10 := hg09.trans hg10
  have hsz11 := hgg10.size
  refine RL.op (.free rfl) rfl rfl (Does.callv rfl rfl e91 (layDo_ok 1 1 1 (by decide) (by decide) _ hff10 hbb10 hrr10 (fun e => by simp [Value.ownBlock] at e; omega) (Sl.own hr10 (fun _ _ h => h)) (bytesV_one _) (by have := putB_len now (by omega); omega))) ?_
  rintro _ w11 ⟨v11, hb11, hr11, hm11, hu11⟩
  have hlt1 := hBB10.lt
  have hlt4 := hff10.lt
  have hBB11 := hBB10.mod hm11 (fun e => by rcases e with e | e; omega; simp [Value.ownBlock] at e; omega)
  have hff11 := hff10.mod hm11 (fun e => by rcases e with e | e; omega; simp [Value.ownBlock] at e; omega)
  have hgg11 := hgg10.then hm11 (fun x hx e => by rcases e with e | e; omega; simp [Value.ownBlock] at e; omega)
  have huu11 : Fresh w.heap.size v11 := fun b e => by
      rcases hu11 b e with e | e
      · simp [Value.ownBlock] at e; omega
      · have := hgg10.size; omega
  refine RL.done ?_
  refine RK.seq ?_
  refine RK.region ?_
  refine RL.p rfl rfl ?_
  refine RL.q (.free rfl) rfl rfl (Yld.fieldAddr fo107_2 rfl) ?_
  refine RL.q (.free rfl) rfl rfl (Yld.load p3 rfl (at1 (hBB11.cell rfl))) ?_
  refine RL.q (.free rfl) rfl rfl (Yld.convI Tryz.underlying3 Tryz.underlying31 rfl) ?_
  refine RL.op (.free rfl) rfl rfl (Does.call rfl e92 (vput_ok 0 (by omega) _)) ?_
  rintro u12 w12 ⟨hr12, hf12, hg12⟩
  have hBB12 := hBB11.mod hg12 (fun h => h)
  have hbb12 := hb11.mod hg12 (fun h => h)
  have hrr12 := hr11.mod hg12 (fun _ _ h => h)
  have hff12 := hff11.mod hg12 (fun h => h)
  have hgg12 := hgg11.trans hg12
  refine RL.op (.free rfl) rfl rfl (Does.callv rfl rfl e91 (laySkip_ok 1 2 (by decide) _ hff12)) ?_
  rintro _ _ rfl
  refine RL.done ?_
  refine RK.seq ?_
  refine RK.region ?_
  refine RL.p rfl rfl ?_
  refine RL.q (.free rfl) rfl rfl (Yld.fieldAddr fo107_3 rfl) ?_
  refine RL.q (.free rfl) rfl rfl (Yld.load p63 rfl (at1 (hBB12.cell rfl))) ?_
  refine RL.op (.free rfl) rfl rfl (Does.call rfl e93 (putN0_ok _)) ?_
  rintro _ w13 hg13
  have hBB13 := hBB12.mod hg13 (fun h => h)
  have hbb13 := hbb12.mod hg13 (fun h => h)
  have hrr13 := hrr12.mod hg13 (fun _ _ h => h)
  have hff13 := hff12.mod hg13 (fun h => h)
  have hgg13 := hgg12.trans hg13
  refine RL.op (.free rfl) rfl rfl (Does.callv rfl rfl e91 (laySkip_ok 1 4 (by decide) _ hff13)) ?_
  rintro _ _ rfl
  refine RL.done ?_
  refine RK.seq ?_
  refine RK.region ?_
  refine RL.p rfl rfl ?_
  refine RL.q (.free rfl) rfl rfl (Yld.fieldAddr fo107_4 rfl) ?_
  refine RL.q (.free rfl) rfl rfl (Yld.load p63 rfl (at1 (hBB13.cell rfl))) ?_
  refine RL.op (.free rfl) rfl rfl (Does.call rfl e93 (putN0_ok _)) ?_
  rintro _ w14 hg14
  have hBB14 := hBB13.mod hg14 (fun h => h)
  have hbb14 := hbb13.mod hg14 (fun h => h)
  have hrr14 := hrr13.mod hg14 (fun _ _ h => h)
  have hff14 := hff13.mod hg14 (fun h => h)
  have hgg14 := hgg13.trans hg14
  refine RL.op (.free rfl) rfl rfl (Does.callv rfl rfl e91 (laySkip_ok 1 8 (by decide) _ hff14)) ?_
  rintro _ _ rfl
  refine RL.done ?_
  refine RK.seq ?_
  refine RK.region ?_
  refine RL.p rfl rfl ?_
  refine RL.q (.free rfl) rfl rfl (Yld.fieldAddr fo107_5 rfl) ?_
  refine RL.q (.free rfl) rfl rfl (Yld.load p104 rfl (at1 (hBB14.cell rfl))) ?_
  refine RL.op (.free rfl) rfl rfl (Does.call rfl e94 (putS0_ok _)) ?_
  rintro _ w15 hg15
  have hBB15 := hBB14.mod hg15 (fun h => h)
  have hbb15 := hbb14.mod hg15 (fun h => h)
  have hrr15 := hrr14.mod hg15 (fun _ _ h => h)
  have hff15 := hff14.mod hg15 (fun h => h)
  have hgg15 := hgg14.trans hg15
  refine RL.op (.free rfl) rfl rfl (Does.callv rfl rfl e91 (laySkip_ok 1 16 (by decide) _ hff15)) ?_
  rintro _ _ rfl
  refine RL.done ?_
  refine RK.seq ?_
  refine RK.region ?_
  refine RL.p rfl rfl ?_
  refine RL.q (.free rfl) rfl rfl (Yld.fieldAddr fo107_6 rfl) ?_
  refine RL.q (.free rfl) rfl rfl (Yld.load p39 rfl (at1 (hBB15.cell rfl))) ?_
  refine RL.q (.free rfl) rfl rfl (Yld.bytesSl (l := []) u39 Tryz.underlying5 Tryz.underlying9 rfl (fun w9 h9 => nilB w9)) ?_
  refine RL.op (.free rfl) rfl rfl (Does.call rfl e95 (putT_ok _ (by decide) _)) ?_
  rintro _ w16 ⟨_, _, hg16⟩
  have hBB16 := hBB15.mod hg16 (fun h => h)
  have hbb16 := hbb15.mod hg16 (fun h => h)
  have hrr16 := hrr15.mod hg16 (fun _ _ h => h)
  have hff16 := hff15.mod hg16 (fun h => h)
  have hgg16 := hgg15.trans hg16
  refine RL.op (.free rfl) rfl rfl (Does.callv rfl rfl e91 (laySkip_ok 1 32 (by decide) _ hff16)) ?_
  rintro _ _ rfl
  refine RL.done ?_
  refine RK.seq ?_
  refine RK.region ?_
  refine RL.p rfl rfl ?_
  refine RL.q (.free rfl) rfl rfl (Yld.fieldAddr fo107_7 rfl) ?_
  refine RL.q (.free rfl) rfl rfl (Yld.sliceArr Tryz.underlying105 i5 rfl) ?_
  refine RL.op (.free rfl) rfl rfl (Does.callv rfl rfl e91 (laySkip_ok 1 64 (by decide) _ hff16)) ?_
  rintro _ _ rfl
  refine RL.done ?_
  refine RK.seq ?_
  refine RK.region ?_
  refine RL.q (.free rfl) rfl rfl (Yld.load p39 rfl (at1 (hbb16.cell rfl))) ?_
  refine RL.p rfl rfl ?_
  refine RL.done ?_
  refine RK.ret_of Tryz.func51 (res1 rfl rfl) ?_ _
  exact ⟨_, rfl, _, by simpa only [bytesV, List.map_append] using hrr16, huu11, hgg16⟩
end Go.Proofs.YtcndimkkojdflaaGreatDoor
set_option linter.unusedVariables false
set_option linter.unusedSimpArgs false
set_option maxHeartbeats 6400000
set_option maxRecDepth 100000
namespace Go.Proofs.YtcndimkkojdflaaGreatDoor
open Go Go.X
def By (w : World) (n : Nat) (v : Value) : Prop := ∃ cs, WW .u8 n cs ∧ Sl No w v 1 n cs
theorem By.grow {w w' : World} {n : Nat} {v : Value} (h : By w n v) (hg : Grow w w') : By w' n v := by
  obtain ⟨cs, h1, h2⟩ := h
  exact ⟨cs, h1, h2.mod (Mod.any' hg)⟩
theorem By.drew {w : World} {n : Nat} {v : Value} (h : By w n v) : By w.drew n v := h.grow (Mod.drew No w)
theorem By.row {w : World} {n : Nat} {v : Value} {cs : List Value} (h : Row w 5 1 v n cs) (hw : WW .u8 n cs) : By w n v := ⟨cs, hw, Sl.own h (fun _ _ h => h)⟩
theorem By.shape {w : World} {n : Nat} {v : Value} (h : By w n v) : ∃ a c, v = .slice a n c := by
  obtain ⟨cs, _, h2⟩ := h
  exact h2.shape
end Go.Proofs.YtcndimkkojdflaaGreatDoor
set_option linter.unusedVariables false
set_option linter.unusedSimpArgs false
set_option maxHeartbeats 6400000
set_option maxRecDepth 100000
namespace Go.Proofs.YtcndimkkojdflaaGreatDoor
open Go Go.X
structure TkAt (w : World) (p : Nat) (most : Int) (v : Value) (l : List (ByteArray × Int)) : Prop where
  blk : Blk w p 195 [.int .i64 most, v]
  row : Row w 199 2 v l.length (l.flatMap fun x => [.string x.1, .int .i64 x.2])
theorem TkAt.grow {w w' : World} {p : Nat} {most : Int} {v : Value} {l : List (ByteArray × Int)} (h : TkAt w p most v l) (hg : Grow w w') : TkAt w' p most v l := ⟨h.blk.mod hg (fun h => h), h.row.mod hg (fun _ _ h => h)⟩
theorem tokNew_ok (m : Int) (h1 : 1 ≤ m) (h2 : m ≤ 4) (w : World) : Fx Tryz.prog 70 [.int .i64 m] w (fun u w' => ∃ p, u = pp p ∧ w.heap.size ≤ p ∧ TkAt w' p m (.slice none 0 0) [] ∧ Grow w w') := by
  refine enter Tryz.func70 rfl rfl rfl _ (Pick.sub (l := [0]) (.cons rfl .nil)) ?_
  refine RK.seq ?_
  refine RK.region ?_
  refine RL.p rfl rfl ?_
  refine RL.done ?_
  refine RK.seq ?_
  refine RK.region ?_
  refine RL.p rfl rfl ?_
  refine RL.q (.free rfl) rfl rfl (Yld.max2 rfl rfl) ?_
  refine RL.q (.free rfl) rfl rfl (Yld.min2 rfl rfl) ?_
  refine RL.q (.free rfl) rfl rfl (Yld.build (v := .agg #[.int .i64 (if (4 : Int) < (if (1 : Int) > m then 1 else m) then 4 else (if (1 : Int) > m then 1 else m)), .slice none 0 0]) rfl (fun w => by kernel_rfl)) ?_
  refine RL.op (.free rfl) rfl rfl (Does.box rfl) ?_
  rintro _ w1 ⟨b3, rfl, hn3⟩
  have ha3 := hn3.at_
  refine RL.p rfl rfl ?_
  refine RL.done ?_
  refine RK.ret_of Tryz.func70 (res1 rfl rfl) ?_ _
  exact ⟨_, rfl, b3, rfl, by omega, ⟨by
      have h : Blk w1 b3 195 [.int .i64 (if (4 : Int) < (if (1 : Int) > m then 1 else m) then 4 else (if (1 : Int) > m then 1 else m)), .slice none 0 0] := hn3.blk
      rw [if_neg (show ¬ (1 : Int) > m by omega), if_neg (by omega)] at h
      exact h, Row.nil _ _ _⟩, hn3.grow⟩
theorem tokPlace0_ok {w : World} {p : Nat} {most : Int} {v : Value} (h : TkAt w p most v []) (s : ByteArray) : Fx Tryz.prog 111 [pp p, .string s] w (fun u w' => u = .int .i64 (-1) ∧ Grow w w') := by
  obtain ⟨ad, c, rfl⟩ := h.row.slice
  refine enter Tryz.func111 rfl rfl rfl _ (Pick.sub (l := [0, 1]) (.cons rfl (.cons rfl .nil))) ?_
  refine RK.seq ?_
  refine RK.region ?_
  refine RL.p rfl rfl ?_
  refine RL.done ?_
  refine RK.seq ?_
  refine RK.region ?_
  refine RL.p rfl rfl ?_
  refine RL.done ?_
  iterate 2 refine RK.seq ?_
  refine RK.region ?_
  iterate 2 refine RL.p rfl rfl ?_
  refine RL.q (.free rfl) rfl rfl (Yld.fieldAddr fo195_1 rfl) ?_
  refine RL.q (.free rfl) rfl rfl (Yld.load p193 rfl (at1 (h.blk.cell rfl))) ?_
  refine RL.q (.free rfl) rfl rfl (Yld.lenSl u193 rfl) ?_
  refine RL.p rfl rfl ?_
  refine RL.done ?_
  refine RK.block ?_
  refine RK.loop (fun _ : Unit => [(5, .int .i64 (-1)), (12, .int .i64 0), (13, .int .i64 0)]) (fun _ w' => w = w') (fun _ => 0) () ⟨rfl, rfl, rfl, trivial⟩ rfl (fun _ w' hI ih => ?_)
  subst hI
  refine RK.seq ?_
  refine RK.region ?_
  refine RL.p rfl rfl ?_
  refine RL.done ?_
  refine RK.seq ?_
  refine RK.condF (hcF rfl (rfl)) ?_
  refine RK.exit rfl ?_
  refine RK.seq ?_
  refine RK.region ?_
  iterate 2 refine RL.p rfl rfl ?_
  refine RL.done ?_
  refine RK.ret_of Tryz.func111 (res1 rfl rfl) ?_ _
  exact ⟨_, rfl, rfl, Mod.refl _ _⟩
end Go.Proofs.YtcndimkkojdflaaGreatDoor
set_option linter.unusedVariables false
set_option linter.unusedSimpArgs false
set_option maxHeartbeats 1000000
set_option maxRecDepth 100000
namespace Go.Proofs.YtcndimkkojdflaaGreatDoor
open Go Go.X
structure Sp where
  drop : Bool
  id : Int
  labs : List Int
  v : Value
def Sp.Ok (w : World) (x : Sp) : Prop := Sl No w x.v 1 x.labs.length (ints x.labs) ∧ (∀ n ∈ x.labs, -9223372036854775808 ≤ n ∧ n ≤ 9223372036854775807) ∧ -9223372036854775808 ≤ x.id ∧ x.id ≤ 9223372036854775807
end Go.Proofs.YtcndimkkojdflaaGreatDoor
set_option linter.unusedVariables false
set_option linter.unusedSimpArgs false
set_option maxHeartbeats 2000000
set_option maxRecDepth 100000
namespace Go.Proofs.YtcndimkkojdflaaGreatDoor
open Go Go.X
end Go.Proofs.YtcndimkkojdflaaGreatDoor
set_option linter.unusedVariables false
set_option linter.unusedSimpArgs false
set_option maxHeartbeats 1000000
set_option maxRecDepth 100000
namespace Go.Proofs.YtcndimkkojdflaaGreatDoor
open Go Go.X
end Go.Proofs.YtcndimkkojdflaaGreatDoor
set_option linter.unusedVariables false
set_option linter.unusedSimpArgs false
set_option maxHeartbeats 2000000
set_option maxRecDepth 100000
namespace Go.Proofs.YtcndimkkojdflaaGreatDoor
open Go Go.X
end Go.Proofs.YtcndimkkojdflaaGreatDoor
