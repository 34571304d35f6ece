/- What the claim stands on, part 6. Of own lemmas only those that it reaches. -/
import Derived.Test.YthbjfhhiajihfaaGreatKd5
set_option linter.unusedVariables false
set_option linter.unusedSimpArgs false
set_option maxHeartbeats 400000
set_option maxRecDepth 100000
namespace Go.Proofs.YthbjfhhiajihfaaGreat
open Go Go.X
def ltI (x y : Int) : Bool := decide (x < y)
def insR (L : List Int) (x : Int) : List Int := if 0 < pos ltI x L ∧ L[pos ltI x L - 1]? = some x then L else L.take (pos ltI x L) ++ x :: L.drop (pos ltI x L)
def rise (xs : List Int) : List Int := xs.foldl insR []
theorem rise_snoc (xs : List Int) (x : Int) : rise (xs ++ [x]) = insR (rise xs) x := by simp [rise]
theorem pos_split {lt : Int → Int → Bool} {x : Int} {L : List Int} {j : Nat} (hj : j ≤ L.length) (hD : ∀ y ∈ L.drop j, lt x y = true) (hA : ∀ y, 0 < j → L[j - 1]? = some y → lt x y = false) : pos lt x L = j := by
 have h1 : L.reverse.takeWhile (lt x) = (L.drop j).reverse := by
  have e : L.reverse = (L.drop j).reverse ++ (L.take j).reverse := by rw [← List.reverse_append, List.take_append_drop]
  rw [e, List.takeWhile_append_of_pos (by intro y hy; exact hD y (by simpa using hy))]
  have : (L.take j).reverse.takeWhile (lt x) = [] := by
   cases hr : (L.take j).reverse with
   | nil => rfl
   | cons y l =>
    have e2 : L.take j = l.reverse ++ [y] := by have := congrArg List.reverse hr; simpa using this
    have hjl : j = l.length + 1 := by have := congrArg List.length e2; simp at this; omega
    have hy : L[j - 1]? = some y := by
     have h3 : (L.take j)[l.length]? = some y := by rw [e2]; simp
     rw [List.getElem?_take_of_lt (by omega)] at h3
     rw [hjl]; exact h3
    simp [List.takeWhile, hA y (by omega) hy]
  rw [this, List.append_nil]
 unfold pos
 rw [h1]
 simp; omega
theorem insR_len (L : List Int) (x : Int) : (insR L x).length ≤ L.length + 1 := by
 have hp : pos ltI x L ≤ L.length := Nat.sub_le _ _
 unfold insR
 split
 ·omega
 ·simp; omega
theorem rise_le (xs : List Int) : (rise xs).length ≤ xs.length := by
 have key : ∀ (xs L : List Int), (xs.foldl insR L).length ≤ xs.length + L.length := by
  intro xs
  induction xs with
  | nil => intro L; simp
  | cons x xs ih => intro L; rw [List.foldl_cons]; have := ih (insR L x); have := insR_len L x; simp; omega
 unfold rise
 simpa using key xs []
theorem laid {w : World} {t : TypeId} {u : Value} {L : List Int} {j : Nat} {x : Int} {R : List Int} (hj : j ≤ L.length) (hI : R = L.take j ++ x :: L.drop j) (h : Row w t 1 u (0 + j + 1 + (L.length - j)) (([] ++ ints (L.take j)) ++ (Value.int .i64 x).cells.toList ++ ints (L.drop j))) : Row w t 1 u R.length (ints R) := by
 subst hI
 have e1 : ([] ++ ints (L.take j)) ++ (Value.int .i64 x).cells.toList ++ ints (L.drop j) = ints (L.take j ++ x :: L.drop j) := by simp [Value.cells]
 have e2 : 0 + j + 1 + (L.length - j) = (L.take j ++ x :: L.drop j).length := by simp; omega
 rw [e1, e2] at h
 exact h
theorem rising_ok (M : Nat → Prop) (xs : List Int) (v : Value) (w : World) (hv : Sl M w v 1 xs.length (ints xs)) (hb : xs.length ≤ 1000000000000) :
    Fx Tryz.prog 92 [v] w (fun u w' => Row w' 3 1 u (rise xs).length (ints (rise xs)) ∧ Fresh w.heap.size u ∧ Grow w w') := by
  obtain ⟨ad, c, rfl⟩ := hv.shape
  refine enter Tryz.func92 rfl rfl rfl _ (Pick.sub (l := [0]) (.cons rfl .nil)) ?_
  refine RK.seq ?_
  refine RK.region ?_
  refine RL.p rfl rfl ?_
  refine RL.done ?_
  refine RK.seq ?_
  refine RK.region ?_
  refine RL.p rfl rfl ?_
  refine RL.done ?_
  iterate 2 refine RK.seq ?_
  refine RK.region ?_
  refine RL.p rfl rfl ?_
  refine RL.done ?_
  refine RK.block ?_
  refine RK.loop (fun s : Nat × Value => [(0, .slice ad xs.length c), (3, s.2), (4, .int .i64 (s.1 : Int))]) (fun s w' => Row w' 3 1 s.2 (rise (xs.take s.1)).length (ints (rise (xs.take s.1))) ∧ Fresh w.heap.size s.2 ∧ Grow w w' ∧ s.1 ≤ xs.length) (fun s => xs.length - s.1) (0, .slice none 0 0) ⟨rfl, rfl, rfl, trivial⟩ ⟨by simpa [rise] using Row.nil _ _ _, fun b hb => by simp [Value.ownBlock] at hb, Mod.refl _ _, by omega⟩ (fun s w' hI ih => ?_)
  obtain ⟨i, u⟩ := s
  obtain ⟨hr, hfr, hg, hi⟩ := hI
  simp only at hr hfr hi
  iterate 2 refine RK.seq ?_
  refine RK.region ?_
  iterate 2 refine RL.p rfl rfl ?_
  refine RL.q (.free rfl) rfl rfl (Yld.lenSl u37 rfl) ?_
  refine RL.p rfl rfl ?_
  refine RL.done ?_
  first | refine RK.condD rfl (fun h9 => ?_) (fun h9 => ?_) | refine RK.condN rfl (fun h9 => ?_) (fun h9 => ?_) | refine RK.cond rfl (fun h9 => ?_) (fun h9 => ?_)
  · obtain ⟨x, hx⟩ : ∃ x, xs[i]? = some x := ⟨xs[i]'(by omega), List.getElem?_eq_getElem (by omega)⟩
    have htk : xs.take (i + 1) = xs.take i ++ [x] := by rw [List.take_succ_eq_append_getElem (by omega)]; congr 2; exact (List.getElem?_eq_some_iff.1 hx).2
    obtain ⟨b1, o1, c1', he1, _, _, hc1⟩ := hv.elem1 (k := i) (u := .int .i64 x) (by simp [hx])
    cases he1
    have hLle : (rise (xs.take i)).length ≤ i := Nat.le_trans (rise_le _) (by simp; omega)
    generalize hLe : rise (xs.take i) = L at *
    obtain ⟨adu, cu, rfl, hcu⟩ := hr.cap
    have hsu : Sl No w' (.slice adu L.length cu) 1 L.length (ints L) := Sl.own hr (fun _ _ h => h)
    refine RK.skip ?_
    refine RK.seq ?_
    refine RK.block ?_
    refine RK.seq ?_
    refine RK.region ?_
    refine RL.p rfl rfl ?_
    refine RL.q (.free rfl) rfl rfl (Yld.lenSl u37 rfl) ?_
    refine RL.p rfl rfl ?_
    refine RL.done ?_
    refine RK.seq ?_
    refine RK.block ?_
    refine RK.loop (fun j : Nat => [(0, .slice (some ⟨b1, o1, none⟩) xs.length c), (3, .slice adu L.length cu), (4, .int .i64 (i : Int)), (5, .int .i64 (j : Int))]) (fun j w2 => Grow w' w2 ∧ j ≤ L.length ∧ ∀ y ∈ L.drop j, ltI x y = true) (fun j => j) L.length ⟨rfl, rfl, rfl, rfl, trivial⟩ ⟨Mod.refl _ _, Nat.le_refl _, by simp⟩ (fun j w2 hI2 ih2 => ?_)
    obtain ⟨hg2, hj, hD⟩ := hI2
    have hin : ∀ w3, Grow w' w3 → w3.cell? ⟨b1, o1 + i * 1, none⟩ = some (.int .i64 x) := fun w3 h3 => (hg.trans h3).cell (hc1 i (.int .i64 x) (by simp [hx])) (fun h => h)
    have hhi : ∀ w3, Grow w' w3 → Sl No w3 (.slice adu j cu) 1 j (ints (L.take j)) := fun w3 h3 => by have := (hsu.mod h3).take hj; rwa [← List.map_take] at this
    have hlo : ∀ w3, Grow w' w3 → Sl No w3 (.slice (fromAt adu cu j 1) (L.length - j) (cu - j)) 1 (L.length - j) (ints (L.drop j)) := fun w3 h3 => by have := (hsu.mod h3).from hj hcu; rwa [← List.map_drop] at this
    iterate 2 refine RK.seq ?_
    refine RK.drawM No [(0, false), (1, false), (2, false), (3, false), (4, false), (5, false), (6, false), (7, false), (8, false), (9, false), (10, false), (11, false), (12, false), (13, false)] [] mixed (by kernel_rfl) ?_
    iterate 3 refine DL.p rfl rfl rfl ?_
    first | refine DL.splitD (d := 16) rfl rfl (fun h15 => ?_) (fun h15 => ?_) | refine DL.splitN (d := 16) rfl rfl (fun h15 => ?_) (fun h15 => ?_) | refine DL.split (d := 16) rfl rfl (fun h15 => ?_) (fun h15 => ?_)
    · obtain ⟨y, hy⟩ : ∃ y, L[j - 1]? = some y := ⟨L[j - 1]'(by omega), List.getElem?_eq_getElem (by omega)⟩
      obtain ⟨b2, o2, c2', he2, _, _, hc2⟩ := hsu.elem1 (k := j - 1) (u := .int .i64 y) (by simp [hy])
      cases he2
      iterate 3 refine DL.qf rfl (.yes rfl rfl rfl) rfl rfl (Yld.pure rfl) ?_
      refine DL.re (d := 19) rfl rfl (sub_i64 (z := ((j - 1 : Nat) : Int)) (by omega) (by omega) (by omega)) ?_
      refine DL.qf rfl (.yes rfl rfl rfl) rfl rfl (Yld.indexAddrN u37 i3 rfl rfl (by omega)) ?_
      refine DL.q rfl (.yes rfl rfl rfl) rfl rfl rfl (Yld.load p3 rfl (atM (hg2.cell (hc2 (j - 1) (.int .i64 y) (by simp [hy])) (fun h => h)) (fun h => h))) (Mod.drew _ _) ?_
      iterate 2 refine DL.qf rfl (.yes rfl rfl rfl) rfl rfl (Yld.pure rfl) ?_
      refine DL.qf rfl (.yes rfl rfl rfl) rfl rfl (Yld.indexAddrN u37 i3 rfl rfl (by omega)) ?_
      refine DL.q rfl (.yes rfl rfl rfl) rfl rfl rfl (Yld.load p3 rfl (atM (hin _ hg2) (fun h => h))) (Mod.drew _ _) ?_
      refine DL.qf rfl (.yes rfl rfl rfl) rfl rfl (Yld.pure rfl) ?_
      refine DL.p rfl rfl rfl ?_
      refine DL.done ?_
      first | refine RK.condD rfl (fun h27 => ?_) (fun h27 => ?_) | refine RK.condN rfl (fun h27 => ?_) (fun h27 => ?_) | refine RK.cond rfl (fun h27 => ?_) (fun h27 => ?_)
      · refine RK.skip ?_
        refine RK.block ?_
        refine RK.region ?_
        iterate 2 refine RL.p rfl rfl ?_
        refine RL.re (d := 29) rfl rfl (sub_i64 (z := ((j - 1 : Nat) : Int)) (by omega) (by omega) (by omega)) ?_
        refine RL.p rfl rfl ?_
        refine RL.done ?_
        refine RK.inBlock ?_
        exact RK.back (ih2 (j - 1) _ ⟨hg2.trans (Mod.drew _ _), by omega, fun z hz => by
            rw [show L.drop (j - 1) = y :: L.drop j by rw [List.drop_eq_getElem_cons (by omega : j - 1 < L.length), show j - 1 + 1 = j by omega, (List.getElem?_eq_some_iff.1 hy).2]] at hz
            rcases List.mem_cons.1 hz with rfl | hz
            · exact decide_eq_true h27
            · exact hD z hz
          ⟩ (by omega)) ⟨rfl, rfl, rfl, rfl, trivial⟩
      · have hpos : pos ltI x L = j := pos_split hj hD (fun z _ hz => by rw [hy] at hz; cases hz; exact decide_eq_false h27)
        have hg3 : Grow w' w2.drew := hg2.trans (Mod.drew _ _)
        refine RK.exit rfl ?_
        iterate 2 refine RK.seq ?_
        refine RK.drawM No [(0, false), (1, false), (2, false), (3, false), (4, false), (5, false), (6, false), (7, false), (8, false), (9, false), (10, false), (11, false), (12, false), (13, false)] [] mixed (by kernel_rfl) ?_
        iterate 3 refine DL.p rfl rfl rfl ?_
        refine DL.knownT (d := 32) rfl rfl (decide_eq_true h15) ?_
        iterate 3 refine DL.qf rfl (.yes rfl rfl rfl) rfl rfl (Yld.pure rfl) ?_
        refine DL.re (d := 35) rfl rfl (sub_i64 (z := ((j - 1 : Nat) : Int)) (by omega) (by omega) (by omega)) ?_
        refine DL.qf rfl (.yes rfl rfl rfl) rfl rfl (Yld.indexAddrN u37 i3 rfl rfl (by omega)) ?_
        refine DL.q rfl (.yes rfl rfl rfl) rfl rfl rfl (Yld.load p3 rfl (atM (hg3.cell (hc2 (j - 1) (.int .i64 y) (by simp [hy])) (fun h => h)) (fun h => h))) (Mod.drew _ _) ?_
        iterate 2 refine DL.qf rfl (.yes rfl rfl rfl) rfl rfl (Yld.pure rfl) ?_
        refine DL.qf rfl (.yes rfl rfl rfl) rfl rfl (Yld.indexAddrN u37 i3 rfl rfl (by omega)) ?_
        refine DL.q rfl (.yes rfl rfl rfl) rfl rfl rfl (Yld.load p3 rfl (atM (hin _ hg3) (fun h => h))) (Mod.drew _ _) ?_
        refine DL.qf rfl (.yes rfl rfl rfl) rfl rfl (Yld.pure rfl) ?_
        refine DL.p rfl rfl rfl ?_
        refine DL.done ?_
        first | refine RK.condD rfl (fun h43 => ?_) (fun h43 => ?_) | refine RK.condN rfl (fun h43 => ?_) (fun h43 => ?_) | refine RK.cond rfl (fun h43 => ?_) (fun h43 => ?_)
        · have hL : insR L x = L := by unfold insR; rw [hpos, if_pos ⟨by omega, by rw [hy, h43]⟩]
          refine RK.exit rfl ?_
          refine RK.region ?_
          iterate 2 refine RL.p rfl rfl ?_
          refine RL.re (d := 11) rfl rfl (succ_i64 (by have := hv.big; omega)) ?_
          refine RL.p rfl rfl ?_
          refine RL.done ?_
          exact RK.back (ih (i + 1, _) _ ⟨by rw [htk, rise_snoc, hLe, hL]; exact (hr.mod hg3 (fun _ _ h => h)).mod (Mod.drew No _) (fun _ _ h => h), hfr, (hg.trans hg3).trans (Mod.drew _ _), by simp; omega⟩ (by simp; omega)) ⟨rfl, rfl, rfl, trivial⟩
        · have hI : insR L x = L.take j ++ x :: L.drop j := by unfold insR; rw [hpos, if_neg (by rintro ⟨_, h⟩; rw [hy] at h; cases h; exact h43 rfl)]
          have hgr0 : Grow w' w2.drew.drew := hg3.trans (Mod.drew _ _)
          obtain ⟨w9, hw9⟩ : ∃ w9, w9 = w2.drew.drew := ⟨_, rfl⟩
          rw [← hw9]
          have hgr : Grow w' w9 := hw9 ▸ hgr0
          have hgd : Grow w' w9.drew := hgr.trans (Mod.drew _ _)
          refine RK.skip ?_
          refine RK.drawF No [(0, false), (1, false), (2, false), (4, false), (5, false), (6, false), (7, false), (10, false), (11, false), (12, false)] 3 8 [(8, true), (9, true), (13, true), (14, false)] [(3, true), (9, true), (13, true), (14, false)] [] mixed (by kernel_rfl) ?_
          iterate 2 refine DL.p rfl rfl rfl ?_
          refine DL.qf rfl (.free rfl) rfl rfl (Yld.sliceHi u37 i3 (m := j) rfl rfl (by omega)) ?_
          iterate 2 refine DL.p rfl rfl rfl ?_
          refine DL.qf rfl (.free rfl) rfl rfl (Yld.indexAddrN u37 i3 rfl rfl (by omega)) ?_
          refine DL.q rfl (.free rfl) rfl rfl rfl (Yld.load p3 rfl (atM (hin _ hgr) (fun h => h))) (Mod.drew _ _) ?_
          iterate 2 refine DL.p rfl rfl rfl ?_
          refine DL.qf rfl (.free rfl) rfl rfl (Yld.sliceFrom u37 i3 (m := j) rfl rfl hj) ?_
          refine DL.fork ?_ ?_
          · refine DL.op rfl (.free rfl) rfl rfl (Does.append u37 i3 rfl rfl rfl rfl rfl (Row.nil _ _ _) (hhi _ hgd) (allOne_ints _) (by omega)) ?_
            rintro u1 v1 ⟨hr1, hm1, hu1⟩
            have hg1 : Grow w9.drew v1 := hm1.mono (fun b _ e => by simp [Value.ownBlock] at e)
            refine ⟨(Mod.drew _ _).trans hg1, ?_⟩
            refine DL.op rfl (.free rfl) rfl rfl (Does.slice1 u37 i3 rfl rfl rfl rfl rfl) ?_
            rintro _ v2 ⟨b2, rfl, hn2⟩
            refine ⟨((Mod.drew _ _).trans hg1).trans hn2.grow, ?_⟩
            refine DL.op rfl (.free rfl) rfl rfl (Does.append u37 i3 rfl rfl rfl rfl rfl (hr1.mod hn2.grow (fun _ _ h => h)) (Sl.new hn2 1 1 rfl (by omega) (fun h => h)) (rfl) (by omega)) ?_
            rintro u3 v3 ⟨hr3, hm3, hu3⟩
            have hf1 : Fresh w9.drew.heap.size u1 := fun b e => by
                rcases hu1 with h | h <;> rw [h] at e
                · simp [Value.ownBlock] at e
                · cases e; omega
            have hf3 : Fresh w9.drew.heap.size u3 := fun b e => by
                have h1 := hg1.size; have h2 := hn2.size
                rcases hu3 with h | h <;> rw [h] at e
                · exact hf1 b e
                · cases e; omega
            have hg13 : Grow w9.drew v3 := (hg1.trans hn2.grow).then hm3 (fun b hb e => by have := hf1 b e; omega)
            refine ⟨(Mod.drew _ _).trans hg13, ?_⟩
            refine DL.op rfl (.free rfl) rfl rfl (Does.append u37 i3 rfl rfl rfl rfl rfl (hr3) (hlo _ (hgd.trans hg13)) (allOne_ints _) (by omega)) ?_
            rintro u4 v4 ⟨hr4, hm4, hu4⟩
            have hg14 : Grow w9.drew v4 := hg13.then hm4 (fun b hb e => by have := hf3 b e; omega)
            have hf4 : Fresh w.heap.size u4 := fun b e => by
                have h1 := hg13.size; have h2 := (hg.trans hgd).size
                rcases hu4 with h | h <;> rw [h] at e
                · have := hf3 b e; omega
                · cases e; omega
            refine ⟨(Mod.drew _ _).trans hg14, ?_⟩
            refine DL.p rfl rfl rfl ?_
            refine DL.done ?_
            refine RK.inBlock ?_
            refine RK.region ?_
            iterate 2 refine RL.p rfl rfl ?_
            refine RL.re (d := 11) rfl rfl (succ_i64 (by have := hv.big; omega)) ?_
            refine RL.p rfl rfl ?_
            refine RL.done ?_
            exact RK.back (ih (i + 1, u4) _ ⟨by rw [htk, rise_snoc, hLe]; exact laid hj hI hr4, hf4, (hg.trans hgd).trans hg14, by simp; omega⟩ (by simp; omega)) ⟨rfl, rfl, rfl, trivial⟩
          · refine DL.op rfl (.free rfl) rfl rfl (Does.slice1 u37 i3 rfl rfl rfl rfl rfl) ?_
            rintro _ v2 ⟨b2, rfl, hn2⟩
            refine ⟨(Mod.drew _ _).trans hn2.grow, ?_⟩
            refine DL.op rfl (.free rfl) rfl rfl (Does.append u37 i3 rfl rfl rfl rfl rfl (Row.nil _ _ _) (hhi _ (hgd.trans hn2.grow)) (allOne_ints _) (by omega)) ?_
            rintro u1 v1 ⟨hr1, hm1, hu1⟩
            have hg1' : Grow v2 v1 := hm1.mono (fun b _ e => by simp [Value.ownBlock] at e)
            have hg1 : Grow w9.drew v1 := hn2.grow.trans hg1'
            refine ⟨(Mod.drew _ _).trans hg1, ?_⟩
            refine DL.op rfl (.free rfl) rfl rfl (Does.append u37 i3 rfl rfl rfl rfl rfl (hr1) ((Sl.new hn2 1 1 rfl (by omega) (fun h => h)).mod hg1') (rfl) (by omega)) ?_
            rintro u3 v3 ⟨hr3, hm3, hu3⟩
            have hf1 : Fresh w9.drew.heap.size u1 := fun b e => by
                have h2 := hn2.size
                rcases hu1 with h | h <;> rw [h] at e
                · simp [Value.ownBlock] at e
                · cases e; omega
            have hf3 : Fresh w9.drew.heap.size u3 := fun b e => by
                have h1 := hg1.size
                rcases hu3 with h | h <;> rw [h] at e
                · exact hf1 b e
                · cases e; omega
            have hg13 : Grow w9.drew v3 := hg1.then hm3 (fun b hb e => by have := hf1 b e; omega)
            refine ⟨(Mod.drew _ _).trans hg13, ?_⟩
            refine DL.op rfl (.free rfl) rfl rfl (Does.append u37 i3 rfl rfl rfl rfl rfl (hr3) (hlo _ (hgd.trans hg13)) (allOne_ints _) (by omega)) ?_
            rintro u4 v4 ⟨hr4, hm4, hu4⟩
            have hg14 : Grow w9.drew v4 := hg13.then hm4 (fun b hb e => by have := hf3 b e; omega)
            have hf4 : Fresh w.heap.size u4 := fun b e => by
                have h1 := hg13.size; have h2 := (hg.trans hgd).size
                rcases hu4 with h | h <;> rw [h] at e
                · have := hf3 b e; omega
                · cases e; omega
            refine ⟨(Mod.drew _ _).trans hg14, ?_⟩
            refine DL.p rfl rfl rfl ?_
            refine DL.done ?_
            refine RK.inBlock ?_
            refine RK.region ?_
            iterate 2 refine RL.p rfl rfl ?_
            refine RL.re (d := 11) rfl rfl (succ_i64 (by have := hv.big; omega)) ?_
            refine RL.p rfl rfl ?_
            refine RL.done ?_
            exact RK.back (ih (i + 1, u4) _ ⟨by rw [htk, rise_snoc, hLe]; exact laid hj hI hr4, hf4, (hg.trans hgd).trans hg14, by simp; omega⟩ (by simp; omega)) ⟨rfl, rfl, rfl, trivial⟩
    · have hj0 : j = 0 := by omega
      have hpos : pos ltI x L = j := pos_split hj hD (fun z h0 _ => by omega)
      have hI : insR L x = L.take j ++ x :: L.drop j := by unfold insR; rw [hpos, if_neg (by rintro ⟨h, _⟩; omega)]
      iterate 10 refine DL.no rfl (.no rfl rfl rfl rfl) rfl rfl ?_
      refine DL.p rfl rfl rfl ?_
      refine DL.done ?_
      refine RK.condF rfl ?_
      refine RK.exit rfl ?_
      iterate 2 refine RK.seq ?_
      refine RK.drawM No [(0, false), (1, false), (2, false), (3, false), (4, false), (5, false), (6, false), (7, false), (8, false), (9, false), (10, false), (11, false), (12, false), (13, false)] [] mixed (by kernel_rfl) ?_
      iterate 3 refine DL.p rfl rfl rfl ?_
      refine DL.knownF (d := 32) rfl rfl (decide_eq_false h15) ?_
      iterate 10 refine DL.no rfl (.no rfl rfl rfl rfl) rfl rfl ?_
      refine DL.p rfl rfl rfl ?_
      refine DL.done ?_
      obtain ⟨w9, hw9⟩ : ∃ w9, w9 = w2.drew.drew := ⟨_, rfl⟩
      have hgr : Grow w' w9 := hw9 ▸ ((hg2.trans (Mod.drew _ _)).trans (Mod.drew _ _))
      rw [← hw9]
      have hgd : Grow w' w9.drew := hgr.trans (Mod.drew _ _)
      refine RK.condF rfl ?_
      refine RK.skip ?_
      refine RK.drawF No [(0, false), (1, false), (2, false), (4, false), (5, false), (6, false), (7, false), (10, false), (11, false), (12, false)] 3 8 [(8, true), (9, true), (13, true), (14, false)] [(3, true), (9, true), (13, true), (14, false)] [] mixed (by kernel_rfl) ?_
      iterate 2 refine DL.p rfl rfl rfl ?_
      refine DL.qf rfl (.free rfl) rfl rfl (Yld.sliceHi u37 i3 (m := j) rfl rfl (by omega)) ?_
      iterate 2 refine DL.p rfl rfl rfl ?_
      refine DL.qf rfl (.free rfl) rfl rfl (Yld.indexAddrN u37 i3 rfl rfl (by omega)) ?_
      refine DL.q rfl (.free rfl) rfl rfl rfl (Yld.load p3 rfl (atM (hin _ hgr) (fun h => h))) (Mod.drew _ _) ?_
      iterate 2 refine DL.p rfl rfl rfl ?_
      refine DL.qf rfl (.free rfl) rfl rfl (Yld.sliceFrom u37 i3 (m := j) rfl rfl hj) ?_
      refine DL.fork ?_ ?_
      · refine DL.op rfl (.free rfl) rfl rfl (Does.append u37 i3 rfl rfl rfl rfl rfl (Row.nil _ _ _) (hhi _ hgd) (allOne_ints _) (by omega)) ?_
        rintro u1 v1 ⟨hr1, hm1, hu1⟩
        have hg1 : Grow w9.drew v1 := hm1.mono (fun b _ e => by simp [Value.ownBlock] at e)
        refine ⟨(Mod.drew _ _).trans hg1, ?_⟩
        refine DL.op rfl (.free rfl) rfl rfl (Does.slice1 u37 i3 rfl rfl rfl rfl rfl) ?_
        rintro _ v2 ⟨b2, rfl, hn2⟩
        refine ⟨((Mod.drew _ _).trans hg1).trans hn2.grow, ?_⟩
        refine DL.op rfl (.free rfl) rfl rfl (Does.append u37 i3 rfl rfl rfl rfl rfl (hr1.mod hn2.grow (fun _ _ h => h)) (Sl.new hn2 1 1 rfl (by omega) (fun h => h)) (rfl) (by omega)) ?_
        rintro u3 v3 ⟨hr3, hm3, hu3⟩
        have hf1 : Fresh w9.drew.heap.size u1 := fun b e => by
            rcases hu1 with h | h <;> rw [h] at e
            · simp [Value.ownBlock] at e
            · cases e; omega
        have hf3 : Fresh w9.drew.heap.size u3 := fun b e => by
            have h1 := hg1.size; have h2 := hn2.size
            rcases hu3 with h | h <;> rw [h] at e
            · exact hf1 b e
            · cases e; omega
        have hg13 : Grow w9.drew v3 := (hg1.trans hn2.grow).then hm3 (fun b hb e => by have := hf1 b e; omega)
        refine ⟨(Mod.drew _ _).trans hg13, ?_⟩
        refine DL.op rfl (.free rfl) rfl rfl (Does.append u37 i3 rfl rfl rfl rfl rfl (hr3) (hlo _ (hgd.trans hg13)) (allOne_ints _) (by omega)) ?_
        rintro u4 v4 ⟨hr4, hm4, hu4⟩
        have hg14 : Grow w9.drew v4 := hg13.then hm4 (fun b hb e => by have := hf3 b e; omega)
        have hf4 : Fresh w.heap.size u4 := fun b e => by
            have h1 := hg13.size; have h2 := (hg.trans hgd).size
            rcases hu4 with h | h <;> rw [h] at e
            · have := hf3 b e; omega
            · cases e; omega
        refine ⟨(Mod.drew _ _).trans hg14, ?_⟩
        refine DL.p rfl rfl rfl ?_
        refine DL.done ?_
        refine RK.inBlock ?_
        refine RK.region ?_
        iterate 2 refine RL.p rfl rfl ?_
        refine RL.re (d := 11) rfl rfl (succ_i64 (by have := hv.big; omega)) ?_
        refine RL.p rfl rfl ?_
        refine RL.done ?_
        exact RK.back (ih (i + 1, u4) _ ⟨by rw [htk, rise_snoc, hLe]; exact laid hj hI hr4, hf4, (hg.trans hgd).trans hg14, by simp; omega⟩ (by simp; omega)) ⟨rfl, rfl, rfl, trivial⟩
      · refine DL.op rfl (.free rfl) rfl rfl (Does.slice1 u37 i3 rfl rfl rfl rfl rfl) ?_
        rintro _ v2 ⟨b2, rfl, hn2⟩
        refine ⟨(Mod.drew _ _).trans hn2.grow, ?_⟩
        refine DL.op rfl (.free rfl) rfl rfl (Does.append u37 i3 rfl rfl rfl rfl rfl (Row.nil _ _ _) (hhi _ (hgd.trans hn2.grow)) (allOne_ints _) (by omega)) ?_
        rintro u1 v1 ⟨hr1, hm1, hu1⟩
        have hg1' : Grow v2 v1 := hm1.mono (fun b _ e => by simp [Value.ownBlock] at e)
        have hg1 : Grow w9.drew v1 := hn2.grow.trans hg1'
        refine ⟨(Mod.drew _ _).trans hg1, ?_⟩
        refine DL.op rfl (.free rfl) rfl rfl (Does.append u37 i3 rfl rfl rfl rfl rfl (hr1) ((Sl.new hn2 1 1 rfl (by omega) (fun h => h)).mod hg1') (rfl) (by omega)) ?_
        rintro u3 v3 ⟨hr3, hm3, hu3⟩
        have hf1 : Fresh w9.drew.heap.size u1 := fun b e => by
            have h2 := hn2.size
            rcases hu1 with h | h <;> rw [h] at e
            · simp [Value.ownBlock] at e
            · cases e; omega
        have hf3 : Fresh w9.drew.heap.size u3 := fun b e => by
            have h1 := hg1.size
            rcases hu3 with h | h <;> rw [h] at e
            · exact hf1 b e
            · cases e; omega
        have hg13 : Grow w9.drew v3 := hg1.then hm3 (fun b hb e => by have := hf1 b e; omega)
        refine ⟨(Mod.drew _ _).trans hg13, ?_⟩
        refine DL.op rfl (.free rfl) rfl rfl (Does.append u37 i3 rfl rfl rfl rfl rfl (hr3) (hlo _ (hgd.trans hg13)) (allOne_ints _) (by omega)) ?_
        rintro u4 v4 ⟨hr4, hm4, hu4⟩
        have hg14 : Grow w9.drew v4 := hg13.then hm4 (fun b hb e => by have := hf3 b e; omega)
        have hf4 : Fresh w.heap.size u4 := fun b e => by
            have h1 := hg13.size; have h2 := (hg.trans hgd).size
            rcases hu4 with h | h <;> rw [h] at e
            · have := hf3 b e; omega
            · cases e; omega
        refine ⟨(Mod.drew _ _).trans hg14, ?_⟩
        refine DL.p rfl rfl rfl ?_
        refine DL.done ?_
        refine RK.inBlock ?_
        refine RK.region ?_
        iterate 2 refine RL.p rfl rfl ?_
        refine RL.re (d := 11) rfl rfl (succ_i64 (by have := hv.big; omega)) ?_
        refine RL.p rfl rfl ?_
        refine RL.done ?_
        exact RK.back (ih (i + 1, u4) _ ⟨by rw [htk, rise_snoc, hLe]; exact laid hj hI hr4, hf4, (hg.trans hgd).trans hg14, by simp; omega⟩ (by simp; omega)) ⟨rfl, rfl, rfl, trivial⟩
  · have ek : xs.take i = xs := List.take_of_length_le (by omega)
    rw [ek] at hr
    refine RK.exit rfl ?_
    refine RK.seq ?_
    refine RK.region ?_
    iterate 2 refine RL.p rfl rfl ?_
    refine RL.done ?_
    refine RK.ret_of Tryz.func92 (res1 rfl rfl) ?_ _
    exact ⟨_, rfl, hr, hfr, hg⟩
end Go.Proofs.YthbjfhhiajihfaaGreat
set_option linter.unusedVariables false
set_option linter.unusedSimpArgs false
set_option maxHeartbeats 400000
set_option maxRecDepth 100000
namespace Go.Proofs.YthbjfhhiajihfaaGreat
open Go Go.X
abbrev Ris (l : List Int) : Prop := l.Pairwise fun x y => x < y
theorem Ris.nodup {l : List Int} (h : Ris l) : l.Nodup := List.Pairwise.imp (fun h e => by omega) h
theorem ext_ris {l1 l2 : List Int} (h1 : Ris l1) (h2 : Ris l2) (h : ∀ x, x ∈ l1 ↔ x ∈ l2) : l1 = l2 := by
 have hp : l1.Perm l2 := (List.perm_ext_iff_of_nodup h1.nodup h2.nodup).2 h
 exact List.Perm.eq_of_pairwise (le := fun a b => a < b) (fun a b _ _ h1 h2 => by omega) h1 h2 hp
theorem compactUpTo_mem (d : Array Int) : ∀ m, m ≤ d.size → ∀ x, x ∈ Lib.compactUpTo d m ↔ ∃ j, j < m ∧ d[j]! = x := by
 intro m
 induction m with
 | zero => intro _ x; simp [Lib.compactUpTo]
 | succ m ih =>
  intro hm x
  rw [Lib.compactUpTo_succ, List.mem_append, ih (by omega)]
  constructor
  ·rintro (⟨j, hj, e⟩ | h)
   ·exact ⟨j, by omega, e⟩
   ·split at h
    ·simp at h; exact ⟨m, by omega, h.symm⟩
    ·simp at h
  ·rintro ⟨j, hj, e⟩
   by_cases hjm : j = m
   ·subst hjm
    cases hk : Lib.keeps d j with
    | true => right; simp [e]
    | false =>
     left
     simp only [Lib.keeps, decide_eq_false_iff_not, not_or, Decidable.not_not] at hk
     exact ⟨j - 1, by omega, by rw [← hk.2]; exact e⟩
   ·exact .inl ⟨j, by omega, e⟩
theorem mem_compact (zs : List Int) (x : Int) : x ∈ Lib.compact zs ↔ x ∈ zs := by
 unfold Lib.compact
 rw [compactUpTo_mem _ _ (by simp)]
 constructor
 ·rintro ⟨j, hj, e⟩
  have : zs.toArray[j]! = zs[j] := by simp [hj]
  rw [this] at e; subst e; exact List.getElem_mem _
 ·intro h
  obtain ⟨j, hj, e⟩ := List.getElem_of_mem h
  exact ⟨j, hj, by simp [hj, e]⟩
theorem compact_ris (zs : List Int) (h : zs.Pairwise fun x y => x ≤ y) : Ris (Lib.compact zs) := by
 unfold Lib.compact
 have key : ∀ m, m ≤ zs.length → Ris (Lib.compactUpTo zs.toArray m) := by
  intro m
  induction m with
  | zero => intro _; simp [Lib.compactUpTo]
  | succ m ih =>
   intro hm
   rw [Lib.compactUpTo_succ]
   refine List.pairwise_append.2 ⟨ih (by omega), by split <;> simp, fun a ha b hb => ?_⟩
   obtain ⟨j, hj, rfl⟩ := (compactUpTo_mem _ m (by simp; omega) a).1 ha
   split at hb
   ·rename_i hk
    have hb := List.mem_singleton.1 hb
    subst hb
    simp only [Lib.keeps, decide_eq_true_eq] at hk
    have e1 : ∀ i, (hi : i < zs.length) → zs.toArray[i]! = zs[i] := fun i hi => by simp [hi]
    rcases hk with rfl | hk
    ·omega
    ·rw [e1 m (by omega), e1 (m - 1) (by omega)] at hk
     rw [e1 j (by omega), e1 m (by omega)]
     have hle := List.pairwise_iff_getElem.1 h
     have h2 := hle (m - 1) m (by omega) (by omega) (by omega)
     by_cases hjm : j = m - 1
     ·subst hjm; omega
     ·have h3 := hle j (m - 1) (by omega) (by omega) (by omega)
      omega
   ·simp at hb
 exact key _ (Nat.le_refl _)
theorem sortI_le (xs : List Int) : (sortI xs).Pairwise fun x y => x ≤ y := by
 have := List.pairwise_mergeSort (le := fun x y : Int => decide (x ≤ y)) (fun a b c h1 h2 => by simp only [decide_eq_true_eq] at *; omega) (fun a b => by simp only [Bool.or_eq_true, decide_eq_true_eq]; omega) xs
 exact this.imp fun h => by simpa using h
theorem mem_mkRow {xs : List Int} {x : Int} : x ∈ mkRow xs ↔ x ∈ xs := by
 unfold mkRow
 rw [mem_compact]
 simp [sortI]
theorem mkRow_ris (xs : List Int) : Ris (mkRow xs) := compact_ris _ (sortI_le xs)
theorem pos_cut (x : Int) (L : List Int) : ∃ A T, L = A ++ T ∧ pos ltI x L = A.length ∧ (∀ y ∈ T, x < y) ∧ ∀ A' y, A = A' ++ [y] → ¬ x < y := by
 have e : L = (L.reverse.dropWhile (ltI x)).reverse ++ (L.reverse.takeWhile (ltI x)).reverse := by
  rw [← List.reverse_append, List.takeWhile_append_dropWhile, List.reverse_reverse]
 refine ⟨(L.reverse.dropWhile (ltI x)).reverse, (L.reverse.takeWhile (ltI x)).reverse, e, ?_, fun y hy => ?_, fun A' y h => ?_⟩
 ·have h1 := congrArg List.length e
  unfold pos
  simp only [List.length_append, List.length_reverse] at h1 ⊢
  omega
 ·exact of_decide_eq_true (List.all_eq_true.1 (List.all_takeWhile (p := ltI x) (l := L.reverse)) y (by simpa using hy))
 ·have h2 : L.reverse.dropWhile (ltI x) = y :: A'.reverse := by have := congrArg List.reverse h; simpa using this
  have := List.head_dropWhile_not (ltI x) (l := L.reverse) (by rw [h2]; simp)
  simpa [h2, ltI] using this
theorem pos_spec (x : Int) (L : List Int) : pos ltI x L ≤ L.length ∧ (∀ y ∈ L.drop (pos ltI x L), x < y) ∧ ∀ y, 0 < pos ltI x L → L[pos ltI x L - 1]? = some y → ¬ x < y := by
 obtain ⟨A, T, rfl, hp, hT, hA⟩ := pos_cut x L
 refine ⟨Nat.sub_le _ _, fun y hy => ?_, fun y h0 hy => ?_⟩
 ·rw [hp, List.drop_left] at hy; exact hT y hy
 ·rw [hp] at hy h0
  rcases List.eq_nil_or_concat A with rfl | ⟨A', z, rfl⟩
  ·simp at h0
  ·rw [List.concat_eq_append] at hy hA
   rw [List.getElem?_append_left (by simp)] at hy
   simp at hy
   subst hy
   exact hA A' z rfl
theorem insR_mem {L : List Int} {x y : Int} : y ∈ insR L x ↔ y ∈ L ∨ y = x := by
 unfold insR
 split
 ·rename_i h
  have := List.mem_of_getElem? h.2
  constructor
  ·exact .inl
  ·rintro (h | rfl) <;> assumption
 ·have : y ∈ L ↔ y ∈ L.take (pos ltI x L) ∨ y ∈ L.drop (pos ltI x L) := by rw [← List.mem_append, List.take_append_drop]
  rw [this, List.mem_append, List.mem_cons]
  constructor
  ·rintro (h | h | h) <;> simp [h]
  ·rintro ((h | h) | h) <;> simp [h]
theorem insR_ris {L : List Int} (x : Int) (hL : Ris L) : Ris (insR L x) := by
 obtain ⟨h1, h2, h3⟩ := pos_spec x L
 unfold insR
 split
 ·exact hL
 ·rename_i hn
  generalize pos ltI x L = j at *
  have hs : Ris (L.take j ++ L.drop j) := by rw [List.take_append_drop]; exact hL
  obtain ⟨a1, a2, a3⟩ := List.pairwise_append.1 hs
  refine List.pairwise_append.2 ⟨a1, List.pairwise_cons.2 ⟨h2, a2⟩, fun a ha b hb => ?_⟩
  have hax : a < x := by
   obtain ⟨i, hi, rfl⟩ := List.getElem_of_mem ha
   simp at hi
   have hj0 : 0 < j := by omega
   have hlast : L[j - 1]? = some (L[j - 1]'(by omega)) := List.getElem?_eq_getElem (by omega)
   have h4 := h3 _ hj0 hlast
   have h5 : L[j - 1]'(by omega) ≠ x := fun e => hn ⟨hj0, by rw [hlast, e]⟩
   rw [List.getElem_take]
   by_cases e : i = j - 1
   ·subst e; omega
   ·have := List.pairwise_iff_getElem.1 hL i (j - 1) (by omega) (by omega) (by omega)
    omega
  rcases List.mem_cons.1 hb with rfl | hb
  ·exact hax
  ·have := h2 b hb; omega
theorem rise_spec (xs : List Int) : Ris (rise xs) ∧ ∀ y, y ∈ rise xs ↔ y ∈ xs := by
 have key : ∀ (xs L : List Int), Ris L → Ris (xs.foldl insR L) ∧ ∀ y, y ∈ xs.foldl insR L ↔ y ∈ L ∨ y ∈ xs := by
  intro xs
  induction xs with
  | nil => intro L h; simp [h]
  | cons x xs ih =>
   intro L h
   obtain ⟨h1, h2⟩ := ih (insR L x) (insR_ris x h)
   refine ⟨h1, fun y => ?_⟩
   rw [List.foldl_cons, h2, insR_mem, List.mem_cons]
   constructor
   ·rintro ((h | h) | h) <;> simp [h]
   ·rintro (h | h | h) <;> simp [h]
 obtain ⟨h1, h2⟩ := key xs [] List.Pairwise.nil
 exact ⟨h1, fun y => by rw [show rise xs = xs.foldl insR [] from rfl, h2]; simp⟩
theorem rise_ris (xs : List Int) : Ris (rise xs) := (rise_spec xs).1
theorem mem_rise {xs : List Int} {y : Int} : y ∈ rise xs ↔ y ∈ xs := (rise_spec xs).2 y
end Go.Proofs.YthbjfhhiajihfaaGreat
set_option linter.unusedVariables false
set_option linter.unusedSimpArgs false
set_option maxHeartbeats 400000
set_option maxRecDepth 100000
namespace Go.Proofs.YthbjfhhiajihfaaGreat
open Go Go.X
def cutRow (row : List Int) (id : Int) : List Int := (mkRow row).filter fun y => decide (y ≠ id)
theorem mem_cutRow {row : List Int} {id x : Int} : x ∈ cutRow row id ↔ x ∈ row ∧ x ≠ id := by simp [cutRow, mem_mkRow]
theorem cutRow_ris (row : List Int) (id : Int) : Ris (cutRow row id) := (mkRow_ris row).sublist List.filter_sublist
def cutRow1 (id : Int) (r : List (LabK × List Int)) (x : Lab) : List (LabK × List Int) :=
 if cutRow ((lookM r (labK x)).getD []) id = [] then cutM (putM r (labK x) (cutRow ((lookM r (labK x)).getD []) id)) (labK x) else putM r (labK x) (cutRow ((lookM r (labK x)).getD []) id)
def dropRows (rows : List (LabK × List Int)) (id : Int) (ls : List Lab) : List (LabK × List Int) := ls.foldl (cutRow1 id) rows
theorem cutRow_le (row : List Int) (id : Int) : (cutRow row id).length ≤ row.length := Nat.le_trans (List.length_filter_le _ _) (mkRow_le row)
theorem mem_cutM' {κ α : Type} [DecidableEq κ] {k : κ} {l : List (κ × α)} {t : κ × α} (h : t ∈ cutM l k) : t ∈ l := (cutM_sub k l).mem h
theorem mkRow_ne {xs : List Int} {x : Int} (h : x ∈ xs) : mkRow xs ≠ [] := fun e => by
 have := mem_mkRow.2 h
 rw [e] at this
 cases this
end Go.Proofs.YthbjfhhiajihfaaGreat
set_option linter.unusedVariables false
set_option linter.unusedSimpArgs false
set_option maxHeartbeats 1000000
set_option maxRecDepth 100000
namespace Go.Proofs.YthbjfhhiajihfaaGreat
open Go Go.X
theorem value2_ok (s : ByteArray) (w : World) : Fx Tryz.prog 204 [.string s] w (fun v w' => v = .bool (valS s) ∧ w = w') := by
 refine enter Tryz.func204 rfl rfl rfl _ (Pick.sub (l := [0]) (.cons rfl .nil)) ?_
 refine GG ?_
 refine QQ (Yld.lenStr u9 rfl) ?_
 refine GG ?_
 refine SP 6 (fun h6 => ?_) (fun h6 => ?_)
 ·refine QQ (Yld.pure rfl) ?_
  refine QQ (Yld.lenStr u9 rfl) ?_
  refine QQ (Yld.pure rfl) ?_
  refine GG ?_
  refine RK.ret_of Tryz.func204 (res1 rfl rfl) ?_ _
  exact ⟨_, rfl, congrArg _ (by rw [Bool.eq_iff_iff]; simp [valS]; omega), rfl⟩
 ·iterate 3 refine RL.no (.no rfl rfl rfl rfl) rfl rfl ?_
  refine GG ?_
  refine RK.ret_of Tryz.func204 (res1 rfl rfl) ?_ _
  exact ⟨_, rfl, congrArg _ (by rw [Bool.eq_iff_iff]; simp [valS]; omega), rfl⟩
def NmTo (s : ByteArray) (k : Nat) : Prop := (∀ i, i < k → chS (bt s i).toNat = true) ∧ (0 < k → letS (bt s 0).toNat = true)
theorem NmTo.no {s : ByteArray} {k : Nat} (hk : k < s.size) (h : letS (bt s k).toNat = false) (h' : k = 0 ∨ ¬ (48 ≤ ((bt s k).toNat : Int) ∧ ((bt s k).toNat : Int) ≤ 57)) : nameS s = false := by
 rcases h' with rfl | h'
 ·exact name_no2 h
 ·exact name_no3 hk (by simp [chS, h]; omega)
theorem NmTo.step {s : ByteArray} {k : Nat} (h : NmTo s k) (h' : letS (bt s k).toNat = true ∨ k ≠ 0 ∧ 48 ≤ ((bt s k).toNat : Int) ∧ ((bt s k).toNat : Int) ≤ 57) : NmTo s (k + 1) := by
 refine ⟨fun i hi => ?_, fun _ => ?_⟩
 ·by_cases e : i = k
  ·subst e
   rcases h' with h' | h'
   ·simp [chS, h']
   ·simp [chS]; exact .inr (by omega)
  ·exact h.1 i (by omega)
 ·by_cases e : k = 0
  ·subst e
   rcases h' with h' | h'
   ·exact h'
   ·exact absurd rfl h'.1
  ·exact h.2 (by omega)
theorem NmTo.end {s : ByteArray} {k : Nat} (h : NmTo s k) (hk : k = s.size) : nameS s = decide (1 ≤ s.size ∧ s.size ≤ 12) := by
 subst hk
 by_cases hs : 1 ≤ s.size ∧ s.size ≤ 12
 ·rw [decide_eq_true hs]
  exact name_yes hs.1 hs.2 (h.2 (by omega)) h.1
 ·rw [decide_eq_false hs]
  exact name_no1 hs
theorem name2_ok (s : ByteArray) (hsz : s.size ≤ 9223372036854775807) (w : World) : Fx Tryz.prog 81 [.string s] w (fun v w' => v = .bool (nameS s) ∧ w = w') := by
 refine enter Tryz.func81 rfl rfl rfl _ (Pick.sub (l := [0]) (.cons rfl .nil)) ?_
 refine GG ?_
 refine RK.loop (fun k : Nat => [(0, .string s), (3, .int .i64 k)]) (fun k w' => w = w' ∧ k ≤ s.size ∧ NmTo s k) (fun k => s.size - k) 0 ⟨rfl, rfl, trivial⟩ ⟨rfl, by omega, fun i hi => by omega, fun h => by omega⟩ (fun k w' hI ih => ?_)
 obtain ⟨rfl, hk, hn⟩ := hI
 refine GG ?_
 refine QQ (Yld.lenStr u9 rfl) ?_
 refine GG ?_
 refine CD (fun h9 => ?_) (fun h9 => ?_)
 ·refine GG ?_
  refine QQ (Yld.idxStrN u9 rfl rfl (by omega)) ?_
  refine GG ?_
  refine SP 17 (fun h17 => ?_) (fun h17 => ?_)
  ·iterate 2 refine QQ (Yld.pure rfl) ?_
   refine GG ?_
   refine SP 21 (fun h21 => ?_) (fun h21 => ?_)
   ·iterate 6 refine RL.no (.no rfl rfl rfl rfl) rfl rfl ?_
    refine GG ?_
    iterate 2 refine RL.no (.no rfl rfl rfl rfl) rfl rfl ?_
    refine GG ?_
    iterate 10 refine RL.no (.no rfl rfl rfl rfl) rfl rfl ?_
    refine GG ?_
    refine RK.condF rfl ?_
    refine RK.skip ?_
    refine RK.inBlock ?_
    refine RK.region ?_
    iterate 2 refine RL.p rfl rfl ?_
    refine RL.re (d := 11) rfl rfl (succ_i64 (by omega)) ?_
    refine GG ?_
    exact RK.back (ih (k + 1) _ ⟨rfl, by omega, hn.step (by first | exact .inl (by simp [letS]; omega) | exact .inr (by omega))⟩ (by omega)) ⟨rfl, rfl, trivial⟩
   ·iterate 3 refine QQ (Yld.pure rfl) ?_
    refine SP 24 (fun h24 => ?_) (fun h24 => ?_)
    ·iterate 3 refine QQ (Yld.pure rfl) ?_
     refine GG ?_
     refine SP 29 (fun h29 => ?_) (fun h29 => ?_)
     ·iterate 2 refine RL.no (.no rfl rfl rfl rfl) rfl rfl ?_
      refine GG ?_
      iterate 10 refine RL.no (.no rfl rfl rfl rfl) rfl rfl ?_
      refine GG ?_
      refine RK.condF rfl ?_
      refine RK.skip ?_
      refine RK.inBlock ?_
      refine RK.region ?_
      iterate 2 refine RL.p rfl rfl ?_
      refine RL.re (d := 11) rfl rfl (succ_i64 (by omega)) ?_
      refine GG ?_
      exact RK.back (ih (k + 1) _ ⟨rfl, by omega, hn.step (by first | exact .inl (by simp [letS]; omega) | exact .inr (by omega))⟩ (by omega)) ⟨rfl, rfl, trivial⟩
     ·iterate 2 refine QQ (Yld.pure rfl) ?_
      refine GG ?_
      refine SP 35 (fun h35 => ?_) (fun h35 => ?_)
      ·iterate 3 refine QQ (Yld.pure rfl) ?_
       refine SP 38 (fun h38 => ?_) (fun h38 => ?_)
       ·iterate 2 refine RL.no (.no rfl rfl rfl rfl) rfl rfl ?_
        iterate 2 refine QQ (Yld.pure rfl) ?_
        iterate 2 refine RL.no (.no rfl rfl rfl rfl) rfl rfl ?_
        refine QQ (Yld.pure rfl) ?_
        refine GG ?_
        refine RK.condT rfl ?_
        refine GG ?_
        refine RK.ret_of Tryz.func81 (res1 rfl rfl) ?_ _
        exact ⟨_, rfl, congrArg _ (by first
          | exact (NmTo.no (k := k) (by omega) (by simp [letS]; omega) (by omega)).symm
          | (rw [hn.end (by omega)]; rw [Bool.eq_iff_iff]; simp; omega)), rfl⟩
       ·iterate 4 refine QQ (Yld.pure rfl) ?_
        refine SP 42 (fun h42 => ?_) (fun h42 => ?_)
        ·iterate 2 refine RL.no (.no rfl rfl rfl rfl) rfl rfl ?_
         refine QQ (Yld.pure rfl) ?_
         refine GG ?_
         refine RK.condT rfl ?_
         refine GG ?_
         refine RK.ret_of Tryz.func81 (res1 rfl rfl) ?_ _
         exact ⟨_, rfl, congrArg _ (by first
           | exact (NmTo.no (k := k) (by omega) (by simp [letS]; omega) (by omega)).symm
           | (rw [hn.end (by omega)]; rw [Bool.eq_iff_iff]; simp; omega)), rfl⟩
        ·iterate 3 refine QQ (Yld.pure rfl) ?_
         refine GG ?_
         refine CD (fun h46 => ?_) (fun h46 => ?_)
         ·refine GG ?_
          refine RK.ret_of Tryz.func81 (res1 rfl rfl) ?_ _
          exact ⟨_, rfl, congrArg _ (by first
            | exact (NmTo.no (k := k) (by omega) (by simp [letS]; omega) (by omega)).symm
            | (rw [hn.end (by omega)]; rw [Bool.eq_iff_iff]; simp; omega)), rfl⟩
         ·refine RK.skip ?_
          refine RK.inBlock ?_
          refine RK.region ?_
          iterate 2 refine RL.p rfl rfl ?_
          refine RL.re (d := 11) rfl rfl (succ_i64 (by omega)) ?_
          refine GG ?_
          exact RK.back (ih (k + 1) _ ⟨rfl, by omega, hn.step (by first | exact .inl (by simp [letS]; omega) | exact .inr (by omega))⟩ (by omega)) ⟨rfl, rfl, trivial⟩
      ·iterate 10 refine RL.no (.no rfl rfl rfl rfl) rfl rfl ?_
       refine GG ?_
       refine RK.condF rfl ?_
       refine RK.skip ?_
       refine RK.inBlock ?_
       refine RK.region ?_
       iterate 2 refine RL.p rfl rfl ?_
       refine RL.re (d := 11) rfl rfl (succ_i64 (by omega)) ?_
       refine GG ?_
       exact RK.back (ih (k + 1) _ ⟨rfl, by omega, hn.step (by first | exact .inl (by simp [letS]; omega) | exact .inr (by omega))⟩ (by omega)) ⟨rfl, rfl, trivial⟩
    ·iterate 2 refine RL.no (.no rfl rfl rfl rfl) rfl rfl ?_
     refine QQ (Yld.pure rfl) ?_
     refine GG ?_
     iterate 2 refine QQ (Yld.pure rfl) ?_
     refine GG ?_
     refine SP 35 (fun h35 => ?_) (fun h35 => ?_)
     ·iterate 3 refine QQ (Yld.pure rfl) ?_
      refine SP 38 (fun h38 => ?_) (fun h38 => ?_)
      ·iterate 2 refine RL.no (.no rfl rfl rfl rfl) rfl rfl ?_
       iterate 2 refine QQ (Yld.pure rfl) ?_
       iterate 2 refine RL.no (.no rfl rfl rfl rfl) rfl rfl ?_
       refine QQ (Yld.pure rfl) ?_
       refine GG ?_
       refine RK.condT rfl ?_
       refine GG ?_
       refine RK.ret_of Tryz.func81 (res1 rfl rfl) ?_ _
       exact ⟨_, rfl, congrArg _ (by first
         | exact (NmTo.no (k := k) (by omega) (by simp [letS]; omega) (by omega)).symm
         | (rw [hn.end (by omega)]; rw [Bool.eq_iff_iff]; simp; omega)), rfl⟩
      ·iterate 4 refine QQ (Yld.pure rfl) ?_
       refine SP 42 (fun h42 => ?_) (fun h42 => ?_)
       ·iterate 2 refine RL.no (.no rfl rfl rfl rfl) rfl rfl ?_
        refine QQ (Yld.pure rfl) ?_
        refine GG ?_
        refine RK.condT rfl ?_
        refine GG ?_
        refine RK.ret_of Tryz.func81 (res1 rfl rfl) ?_ _
        exact ⟨_, rfl, congrArg _ (by first
          | exact (NmTo.no (k := k) (by omega) (by simp [letS]; omega) (by omega)).symm
          | (rw [hn.end (by omega)]; rw [Bool.eq_iff_iff]; simp; omega)), rfl⟩
       ·iterate 3 refine QQ (Yld.pure rfl) ?_
        refine GG ?_
        refine CD (fun h46 => ?_) (fun h46 => ?_)
        ·refine GG ?_
         refine RK.ret_of Tryz.func81 (res1 rfl rfl) ?_ _
         exact ⟨_, rfl, congrArg _ (by first
           | exact (NmTo.no (k := k) (by omega) (by simp [letS]; omega) (by omega)).symm
           | (rw [hn.end (by omega)]; rw [Bool.eq_iff_iff]; simp; omega)), rfl⟩
        ·refine RK.skip ?_
         refine RK.inBlock ?_
         refine RK.region ?_
         iterate 2 refine RL.p rfl rfl ?_
         refine RL.re (d := 11) rfl rfl (succ_i64 (by omega)) ?_
         refine GG ?_
         exact RK.back (ih (k + 1) _ ⟨rfl, by omega, hn.step (by first | exact .inl (by simp [letS]; omega) | exact .inr (by omega))⟩ (by omega)) ⟨rfl, rfl, trivial⟩
     ·iterate 10 refine RL.no (.no rfl rfl rfl rfl) rfl rfl ?_
      refine GG ?_
      refine RK.condF rfl ?_
      refine RK.skip ?_
      refine RK.inBlock ?_
      refine RK.region ?_
      iterate 2 refine RL.p rfl rfl ?_
      refine RL.re (d := 11) rfl rfl (succ_i64 (by omega)) ?_
      refine GG ?_
      exact RK.back (ih (k + 1) _ ⟨rfl, by omega, hn.step (by first | exact .inl (by simp [letS]; omega) | exact .inr (by omega))⟩ (by omega)) ⟨rfl, rfl, trivial⟩
  ·iterate 2 refine RL.no (.no rfl rfl rfl rfl) rfl rfl ?_
   refine GG ?_
   iterate 3 refine QQ (Yld.pure rfl) ?_
   refine SP 24 (fun h24 => ?_) (fun h24 => ?_)
   ·iterate 3 refine QQ (Yld.pure rfl) ?_
    refine GG ?_
    refine SP 29 (fun h29 => ?_) (fun h29 => ?_)
    ·iterate 2 refine RL.no (.no rfl rfl rfl rfl) rfl rfl ?_
     refine GG ?_
     iterate 10 refine RL.no (.no rfl rfl rfl rfl) rfl rfl ?_
     refine GG ?_
     refine RK.condF rfl ?_
     refine RK.skip ?_
     refine RK.inBlock ?_
     refine RK.region ?_
     iterate 2 refine RL.p rfl rfl ?_
     refine RL.re (d := 11) rfl rfl (succ_i64 (by omega)) ?_
     refine GG ?_
     exact RK.back (ih (k + 1) _ ⟨rfl, by omega, hn.step (by first | exact .inl (by simp [letS]; omega) | exact .inr (by omega))⟩ (by omega)) ⟨rfl, rfl, trivial⟩
    ·iterate 2 refine QQ (Yld.pure rfl) ?_
     refine GG ?_
     refine SP 35 (fun h35 => ?_) (fun h35 => ?_)
     ·iterate 3 refine QQ (Yld.pure rfl) ?_
      refine SP 38 (fun h38 => ?_) (fun h38 => ?_)
      ·iterate 2 refine RL.no (.no rfl rfl rfl rfl) rfl rfl ?_
       iterate 2 refine QQ (Yld.pure rfl) ?_
       iterate 2 refine RL.no (.no rfl rfl rfl rfl) rfl rfl ?_
       refine QQ (Yld.pure rfl) ?_
       refine GG ?_
       refine RK.condT rfl ?_
       refine GG ?_
       refine RK.ret_of Tryz.func81 (res1 rfl rfl) ?_ _
       exact ⟨_, rfl, congrArg _ (by first
         | exact (NmTo.no (k := k) (by omega) (by simp [letS]; omega) (by omega)).symm
         | (rw [hn.end (by omega)]; rw [Bool.eq_iff_iff]; simp; omega)), rfl⟩
      ·iterate 4 refine QQ (Yld.pure rfl) ?_
       refine SP 42 (fun h42 => ?_) (fun h42 => ?_)
       ·iterate 2 refine RL.no (.no rfl rfl rfl rfl) rfl rfl ?_
        refine QQ (Yld.pure rfl) ?_
        refine GG ?_
        refine RK.condT rfl ?_
        refine GG ?_
        refine RK.ret_of Tryz.func81 (res1 rfl rfl) ?_ _
        exact ⟨_, rfl, congrArg _ (by first
          | exact (NmTo.no (k := k) (by omega) (by simp [letS]; omega) (by omega)).symm
          | (rw [hn.end (by omega)]; rw [Bool.eq_iff_iff]; simp; omega)), rfl⟩
       ·iterate 3 refine QQ (Yld.pure rfl) ?_
        refine GG ?_
        refine CD (fun h46 => ?_) (fun h46 => ?_)
        ·refine GG ?_
         refine RK.ret_of Tryz.func81 (res1 rfl rfl) ?_ _
         exact ⟨_, rfl, congrArg _ (by first
           | exact (NmTo.no (k := k) (by omega) (by simp [letS]; omega) (by omega)).symm
           | (rw [hn.end (by omega)]; rw [Bool.eq_iff_iff]; simp; omega)), rfl⟩
        ·refine RK.skip ?_
         refine RK.inBlock ?_
         refine RK.region ?_
         iterate 2 refine RL.p rfl rfl ?_
         refine RL.re (d := 11) rfl rfl (succ_i64 (by omega)) ?_
         refine GG ?_
         exact RK.back (ih (k + 1) _ ⟨rfl, by omega, hn.step (by first | exact .inl (by simp [letS]; omega) | exact .inr (by omega))⟩ (by omega)) ⟨rfl, rfl, trivial⟩
     ·iterate 10 refine RL.no (.no rfl rfl rfl rfl) rfl rfl ?_
      refine GG ?_
      refine RK.condF rfl ?_
      refine RK.skip ?_
      refine RK.inBlock ?_
      refine RK.region ?_
      iterate 2 refine RL.p rfl rfl ?_
      refine RL.re (d := 11) rfl rfl (succ_i64 (by omega)) ?_
      refine GG ?_
      exact RK.back (ih (k + 1) _ ⟨rfl, by omega, hn.step (by first | exact .inl (by simp [letS]; omega) | exact .inr (by omega))⟩ (by omega)) ⟨rfl, rfl, trivial⟩
   ·iterate 2 refine RL.no (.no rfl rfl rfl rfl) rfl rfl ?_
    refine QQ (Yld.pure rfl) ?_
    refine GG ?_
    iterate 2 refine QQ (Yld.pure rfl) ?_
    refine GG ?_
    refine SP 35 (fun h35 => ?_) (fun h35 => ?_)
    ·iterate 3 refine QQ (Yld.pure rfl) ?_
     refine SP 38 (fun h38 => ?_) (fun h38 => ?_)
     ·iterate 2 refine RL.no (.no rfl rfl rfl rfl) rfl rfl ?_
      iterate 2 refine QQ (Yld.pure rfl) ?_
      iterate 2 refine RL.no (.no rfl rfl rfl rfl) rfl rfl ?_
      refine QQ (Yld.pure rfl) ?_
      refine GG ?_
      refine RK.condT rfl ?_
      refine GG ?_
      refine RK.ret_of Tryz.func81 (res1 rfl rfl) ?_ _
      exact ⟨_, rfl, congrArg _ (by first
        | exact (NmTo.no (k := k) (by omega) (by simp [letS]; omega) (by omega)).symm
        | (rw [hn.end (by omega)]; rw [Bool.eq_iff_iff]; simp; omega)), rfl⟩
     ·iterate 4 refine QQ (Yld.pure rfl) ?_
      refine SP 42 (fun h42 => ?_) (fun h42 => ?_)
      ·iterate 2 refine RL.no (.no rfl rfl rfl rfl) rfl rfl ?_
       refine QQ (Yld.pure rfl) ?_
       refine GG ?_
       refine RK.condT rfl ?_
       refine GG ?_
       refine RK.ret_of Tryz.func81 (res1 rfl rfl) ?_ _
       exact ⟨_, rfl, congrArg _ (by first
         | exact (NmTo.no (k := k) (by omega) (by simp [letS]; omega) (by omega)).symm
         | (rw [hn.end (by omega)]; rw [Bool.eq_iff_iff]; simp; omega)), rfl⟩
      ·iterate 3 refine QQ (Yld.pure rfl) ?_
       refine GG ?_
       refine CD (fun h46 => ?_) (fun h46 => ?_)
       ·refine GG ?_
        refine RK.ret_of Tryz.func81 (res1 rfl rfl) ?_ _
        exact ⟨_, rfl, congrArg _ (by first
          | exact (NmTo.no (k := k) (by omega) (by simp [letS]; omega) (by omega)).symm
          | (rw [hn.end (by omega)]; rw [Bool.eq_iff_iff]; simp; omega)), rfl⟩
       ·refine RK.skip ?_
        refine RK.inBlock ?_
        refine RK.region ?_
        iterate 2 refine RL.p rfl rfl ?_
        refine RL.re (d := 11) rfl rfl (succ_i64 (by omega)) ?_
        refine GG ?_
        exact RK.back (ih (k + 1) _ ⟨rfl, by omega, hn.step (by first | exact .inl (by simp [letS]; omega) | exact .inr (by omega))⟩ (by omega)) ⟨rfl, rfl, trivial⟩
    ·iterate 10 refine RL.no (.no rfl rfl rfl rfl) rfl rfl ?_
     refine GG ?_
     refine RK.condF rfl ?_
     refine RK.skip ?_
     refine RK.inBlock ?_
     refine RK.region ?_
     iterate 2 refine RL.p rfl rfl ?_
     refine RL.re (d := 11) rfl rfl (succ_i64 (by omega)) ?_
     refine GG ?_
     exact RK.back (ih (k + 1) _ ⟨rfl, by omega, hn.step (by first | exact .inl (by simp [letS]; omega) | exact .inr (by omega))⟩ (by omega)) ⟨rfl, rfl, trivial⟩
 ·refine RK.exit rfl ?_
  refine GG ?_
  refine QQ (Yld.lenStr u9 rfl) ?_
  refine GG ?_
  refine SP 50 (fun h50 => ?_) (fun h50 => ?_)
  ·refine QQ (Yld.pure rfl) ?_
   refine QQ (Yld.lenStr u9 rfl) ?_
   refine QQ (Yld.pure rfl) ?_
   refine GG ?_
   refine RK.ret_of Tryz.func81 (res1 rfl rfl) ?_ _
   exact ⟨_, rfl, congrArg _ (by first
     | exact (NmTo.no (k := k) (by omega) (by simp [letS]; omega) (by omega)).symm
     | (rw [hn.end (by omega)]; rw [Bool.eq_iff_iff]; simp; omega)), rfl⟩
  ·iterate 3 refine RL.no (.no rfl rfl rfl rfl) rfl rfl ?_
   refine GG ?_
   refine RK.ret_of Tryz.func81 (res1 rfl rfl) ?_ _
   exact ⟨_, rfl, congrArg _ (by first
     | exact (NmTo.no (k := k) (by omega) (by simp [letS]; omega) (by omega)).symm
     | (rw [hn.end (by omega)]; rw [Bool.eq_iff_iff]; simp; omega)), rfl⟩
theorem isSet_ok (M : Nat → Prop) (ls : List Lab) (hsz : ∀ x ∈ ls, x.name.size ≤ 9223372036854775807) (v : Value) (w : World) (hv : SlL M w v ls) : Fx Tryz.prog 149 [v] w (fun u w' => u = .bool (isS ls) ∧ Grow w w') := by
  obtain ⟨ad, c, rfl⟩ := hv.shape
  have hbig := hv.big
  refine enter Tryz.func149 rfl rfl rfl _ (Pick.sub (l := [0]) (.cons rfl .nil)) ?_
  refine RK.seq ?_
  refine RK.region ?_
  refine RL.p rfl rfl ?_
  refine RL.done ?_
  iterate 2 refine RK.seq ?_
  refine RK.region ?_
  refine RL.p rfl rfl ?_
  refine RL.q (.free rfl) rfl rfl (Yld.lenSl u33 rfl) ?_
  iterate 2 refine RL.p rfl rfl ?_
  first | refine RL.splitD (d := 7) rfl rfl (fun h7 => ?_) (fun h7 => ?_) | refine RL.splitN (d := 7) rfl rfl (fun h7 => ?_) (fun h7 => ?_) | refine RL.split (d := 7) rfl rfl (fun h7 => ?_) (fun h7 => ?_)
  · iterate 3 refine RL.no (.no rfl rfl rfl rfl) rfl rfl ?_
    refine RL.p rfl rfl ?_
    refine RL.done ?_
    refine RK.condT rfl ?_
    refine RK.seq ?_
    refine RK.region ?_
    refine RL.p rfl rfl ?_
    refine RL.done ?_
    refine RK.ret_of Tryz.func149 (res1 rfl rfl) ?_ _
    exact ⟨_, rfl, congrArg _ (by first
        | exact (is_no1 (by omega)).symm
        | exact (is_no2 (i := k) (by omega) (okAt_no1 hx (by simpa using h25))).symm
        | exact (is_no2 (i := k) (by omega) (okAt_no2 hx (by simpa using h34))).symm
        | exact (is_no2 (i := k) (by omega) (okAt_no3 hx hj hy h51)).symm
        | exact (is_yes (by omega) (by omega) fun i hi => hall i (by omega)).symm), by first
        | exact Mod.refl _ _
        | exact hg.trans (Mod.drew _ _)
        | exact hg⟩
  · refine RL.q (.yes rfl rfl rfl) rfl rfl (Yld.pure rfl) ?_
    refine RL.q (.yes rfl rfl rfl) rfl rfl (Yld.lenSl u33 rfl) ?_
    refine RL.q (.yes rfl rfl rfl) rfl rfl (Yld.pure rfl) ?_
    refine RL.p rfl rfl ?_
    refine RL.done ?_
    first | refine RK.condD rfl (fun h11 => ?_) (fun h11 => ?_) | refine RK.condN rfl (fun h11 => ?_) (fun h11 => ?_) | refine RK.cond rfl (fun h11 => ?_) (fun h11 => ?_)
    · refine RK.seq ?_
      refine RK.region ?_
      refine RL.p rfl rfl ?_
      refine RL.done ?_
      refine RK.ret_of Tryz.func149 (res1 rfl rfl) ?_ _
      exact ⟨_, rfl, congrArg _ (by first
          | exact (is_no1 (by omega)).symm
          | exact (is_no2 (i := k) (by omega) (okAt_no1 hx (by simpa using h25))).symm
          | exact (is_no2 (i := k) (by omega) (okAt_no2 hx (by simpa using h34))).symm
          | exact (is_no2 (i := k) (by omega) (okAt_no3 hx hj hy h51)).symm
          | exact (is_yes (by omega) (by omega) fun i hi => hall i (by omega)).symm), by first
          | exact Mod.refl _ _
          | exact hg.trans (Mod.drew _ _)
          | exact hg⟩
    · refine RK.skip ?_
      iterate 2 refine RK.seq ?_
      refine RK.region ?_
      refine RL.p rfl rfl ?_
      refine RL.done ?_
      refine RK.block ?_
      refine RK.loop (fun k : Nat => [(0, .slice ad ls.length c), (3, .int .i64 k)]) (fun k w' => Grow w w' ∧ k ≤ ls.length ∧ ∀ i, i < k → okAt ls i = true) (fun k => ls.length - k) 0 ⟨rfl, rfl, trivial⟩ ⟨Mod.refl _ _, by omega, fun i hi => by omega⟩ (fun k w' hI ih => ?_)
      obtain ⟨hg, hk, hall⟩ := hI
      iterate 2 refine RK.seq ?_
      refine RK.region ?_
      iterate 2 refine RL.p rfl rfl ?_
      refine RL.q (.free rfl) rfl rfl (Yld.lenSl u33 rfl) ?_
      refine RL.p rfl rfl ?_
      refine RL.done ?_
      first | refine RK.condD rfl (fun h15 => ?_) (fun h15 => ?_) | refine RK.condN rfl (fun h15 => ?_) (fun h15 => ?_) | refine RK.cond rfl (fun h15 => ?_) (fun h15 => ?_)
      · obtain ⟨x, hx⟩ : ∃ x, ls[k]? = some x := ⟨ls[k]'(by omega), List.getElem?_eq_getElem (by omega)⟩
        obtain ⟨b, o, c', he, hb, hkl, hcell⟩ := hv.elem labC_len hx
        cases he
        refine RK.skip ?_
        refine RK.seq ?_
        refine RK.block ?_
        refine RK.seq ?_
        refine RK.drawM No [(0, false), (1, false), (2, false), (3, false), (4, false), (5, true), (6, false), (7, false), (8, false), (9, false), (10, false), (11, false), (12, false), (13, true), (14, false), (15, false), (16, false), (17, false), (18, false), (19, false), (20, false), (21, false), (22, false), (23, false), (24, false), (25, false), (26, false), (27, false), (28, false), (29, false), (30, false), (31, false), (32, false), (33, false)] [] mixed (by kernel_rfl) ?_
        iterate 2 refine DL.p rfl rfl rfl ?_
        refine DL.qf rfl (.free rfl) rfl rfl (Yld.indexAddrN u33 i79 rfl rfl (by omega)) ?_
        refine DL.qf rfl (.free rfl) rfl rfl (Yld.fieldAddr fo79_0 rfl) ?_
        refine DL.q rfl (.free rfl) rfl rfl rfl (Yld.load p9 rfl (atM (hg.cell (hcell 0 _ rfl) (fun h => h)) (fun h => h))) (Mod.drew _ _) ?_
        refine DL.op rfl (.free rfl) rfl rfl (Does.call rfl e81 (name2_ok _ (hsz x (List.mem_of_getElem? hx)) _)) ?_
        rintro _ _ ⟨rfl, rfl⟩
        refine ⟨Mod.drew _ _, ?_⟩
        iterate 2 refine DL.p rfl rfl rfl ?_
        first | refine DL.splitD (d := 25) rfl rfl (fun h25 => ?_) (fun h25 => ?_) | refine DL.splitN (d := 25) rfl rfl (fun h25 => ?_) (fun h25 => ?_) | refine DL.split (d := 25) rfl rfl (fun h25 => ?_) (fun h25 => ?_)
        · iterate 5 refine DL.no rfl (.no rfl rfl rfl rfl) rfl rfl ?_
          refine DL.lno rfl (.no rfl rfl rfl rfl) rfl rfl ?_
          refine DL.no rfl (.no rfl rfl rfl rfl) rfl rfl ?_
          iterate 2 refine DL.p rfl rfl rfl ?_
          iterate 16 refine DL.no rfl (.no rfl rfl rfl rfl) rfl rfl ?_
          refine DL.p rfl rfl rfl ?_
          refine DL.done ?_
          refine RK.condT rfl ?_
          refine RK.seq ?_
          refine RK.region ?_
          refine RL.p rfl rfl ?_
          refine RL.done ?_
          refine RK.ret_of Tryz.func149 (res1 rfl rfl) ?_ _
          exact ⟨_, rfl, congrArg _ (by first
              | exact (is_no1 (by omega)).symm
              | exact (is_no2 (i := k) (by omega) (okAt_no1 hx (by simpa using h25))).symm
              | exact (is_no2 (i := k) (by omega) (okAt_no2 hx (by simpa using h34))).symm
              | exact (is_no2 (i := k) (by omega) (okAt_no3 hx hj hy h51)).symm
              | exact (is_yes (by omega) (by omega) fun i hi => hall i (by omega)).symm), by first
              | exact Mod.refl _ _
              | exact hg.trans (Mod.drew _ _)
              | exact hg⟩
        · iterate 2 refine DL.qf rfl (.yes rfl rfl rfl) rfl rfl (Yld.pure rfl) ?_
          refine DL.qf rfl (.yes rfl rfl rfl) rfl rfl (Yld.indexAddrN u33 i79 rfl rfl (by omega)) ?_
          refine DL.qf rfl (.yes rfl rfl rfl) rfl rfl (Yld.fieldAddr fo79_1 rfl) ?_
          refine DL.q rfl (.yes rfl rfl rfl) rfl rfl rfl (Yld.load p9 rfl (atM (hg.cell (hcell 1 _ rfl) (fun h => h)) (fun h => h))) (Mod.drew _ _) ?_
          refine DL.op rfl (.yes rfl rfl rfl) rfl rfl (Does.call rfl e204 (value2_ok _ _)) ?_
          rintro _ _ ⟨rfl, rfl⟩
          refine ⟨Mod.drew _ _, ?_⟩
          refine DL.qf rfl (.yes rfl rfl rfl) rfl rfl (Yld.pure rfl) ?_
          iterate 2 refine DL.p rfl rfl rfl ?_
          first | refine DL.splitD (d := 34) rfl rfl (fun h34 => ?_) (fun h34 => ?_) | refine DL.splitN (d := 34) rfl rfl (fun h34 => ?_) (fun h34 => ?_) | refine DL.split (d := 34) rfl rfl (fun h34 => ?_) (fun h34 => ?_)
          · iterate 16 refine DL.no rfl (.no rfl rfl rfl rfl) rfl rfl ?_
            refine DL.p rfl rfl rfl ?_
            refine DL.done ?_
            refine RK.condT rfl ?_
            refine RK.seq ?_
            refine RK.region ?_
            refine RL.p rfl rfl ?_
            refine RL.done ?_
            refine RK.ret_of Tryz.func149 (res1 rfl rfl) ?_ _
            exact ⟨_, rfl, congrArg _ (by first
                | exact (is_no1 (by omega)).symm
                | exact (is_no2 (i := k) (by omega) (okAt_no1 hx (by simpa using h25))).symm
                | exact (is_no2 (i := k) (by omega) (okAt_no2 hx (by simpa using h34))).symm
                | exact (is_no2 (i := k) (by omega) (okAt_no3 hx hj hy h51)).symm
                | exact (is_yes (by omega) (by omega) fun i hi => hall i (by omega)).symm), by first
                | exact Mod.refl _ _
                | exact hg.trans (Mod.drew _ _)
                | exact hg⟩
          · iterate 3 refine DL.qf rfl (.yes rfl rfl rfl) rfl rfl (Yld.pure rfl) ?_
            first | refine DL.splitD (d := 37) rfl rfl (fun h37 => ?_) (fun h37 => ?_) | refine DL.splitN (d := 37) rfl rfl (fun h37 => ?_) (fun h37 => ?_) | refine DL.split (d := 37) rfl rfl (fun h37 => ?_) (fun h37 => ?_)
            · obtain ⟨j, hj⟩ : ∃ j, k = j + 1 := ⟨k - 1, by omega⟩
              obtain ⟨y, hy⟩ : ∃ y, ls[j]? = some y := ⟨ls[j]'(by omega), List.getElem?_eq_getElem (by omega)⟩
              obtain ⟨b', o', c', he, hb', hkl', hcell'⟩ := hv.elem labC_len hy
              cases he
              iterate 2 refine DL.qf rfl (.yes rfl rfl rfl) rfl rfl (Yld.pure rfl) ?_
              refine DL.qf rfl (.yes rfl rfl rfl) rfl rfl (Yld.indexAddrN u33 i79 rfl rfl (by omega)) ?_
              refine DL.qf rfl (.yes rfl rfl rfl) rfl rfl (Yld.fieldAddr fo79_0 rfl) ?_
              refine DL.q rfl (.yes rfl rfl rfl) rfl rfl rfl (Yld.load p9 rfl (atM (hg.cell (hcell 0 _ rfl) (fun h => h)) (fun h => h))) (Mod.drew _ _) ?_
              iterate 3 refine DL.qf rfl (.yes rfl rfl rfl) rfl rfl (Yld.pure rfl) ?_
              refine DL.re (d := 45) rfl rfl (sub_i64 (z := (j : Int)) (by omega) (by omega) (by omega)) ?_
              refine DL.qf rfl (.yes rfl rfl rfl) rfl rfl (Yld.indexAddrN u33 i79 rfl rfl (by omega)) ?_
              refine DL.qf rfl (.yes rfl rfl rfl) rfl rfl (Yld.fieldAddr fo79_0 rfl) ?_
              refine DL.q rfl (.yes rfl rfl rfl) rfl rfl rfl (Yld.load p9 rfl (atM (hg.cell (hcell' 0 _ rfl) (fun h => h)) (fun h => h))) (Mod.drew _ _) ?_
              iterate 2 refine DL.qf rfl (.yes rfl rfl rfl) rfl rfl (Yld.pure rfl) ?_
              refine DL.p rfl rfl rfl ?_
              refine DL.done ?_
              first | refine RK.condD rfl (fun h51 => ?_) (fun h51 => ?_) | refine RK.condN rfl (fun h51 => ?_) (fun h51 => ?_) | refine RK.cond rfl (fun h51 => ?_) (fun h51 => ?_)
              · refine RK.seq ?_
                refine RK.region ?_
                refine RL.p rfl rfl ?_
                refine RL.done ?_
                refine RK.ret_of Tryz.func149 (res1 rfl rfl) ?_ _
                exact ⟨_, rfl, congrArg _ (by first
                    | exact (is_no1 (by omega)).symm
                    | exact (is_no2 (i := k) (by omega) (okAt_no1 hx (by simpa using h25))).symm
                    | exact (is_no2 (i := k) (by omega) (okAt_no2 hx (by simpa using h34))).symm
                    | exact (is_no2 (i := k) (by omega) (okAt_no3 hx hj hy h51)).symm
                    | exact (is_yes (by omega) (by omega) fun i hi => hall i (by omega)).symm), by first
                    | exact Mod.refl _ _
                    | exact hg.trans (Mod.drew _ _)
                    | exact hg⟩
              · refine RK.skip ?_
                refine RK.inBlock ?_
                refine RK.region ?_
                iterate 2 refine RL.p rfl rfl ?_
                refine RL.re (d := 17) rfl rfl (succ_i64 (by omega)) ?_
                refine RL.p rfl rfl ?_
                refine RL.done ?_
                exact RK.back (ih (k + 1) _ ⟨hg.trans (Mod.drew _ _), by omega, ok_snoc hall (by first | exact okAt_yes1 hx (by simpa using h25) (by simpa using h34) hj hy h51 | exact okAt_yes0 hx (by simpa using h25) (by simpa using h34) (by omega))⟩ (by omega)) ⟨rfl, rfl, trivial⟩
            · iterate 12 refine DL.no rfl (.no rfl rfl rfl rfl) rfl rfl ?_
              refine DL.qf rfl (.yes rfl rfl rfl) rfl rfl (Yld.pure rfl) ?_
              refine DL.p rfl rfl rfl ?_
              refine DL.done ?_
              refine RK.condF rfl ?_
              refine RK.skip ?_
              refine RK.inBlock ?_
              refine RK.region ?_
              iterate 2 refine RL.p rfl rfl ?_
              refine RL.re (d := 17) rfl rfl (succ_i64 (by omega)) ?_
              refine RL.p rfl rfl ?_
              refine RL.done ?_
              exact RK.back (ih (k + 1) _ ⟨hg.trans (Mod.drew _ _), by omega, ok_snoc hall (by first | exact okAt_yes1 hx (by simpa using h25) (by simpa using h34) hj hy h51 | exact okAt_yes0 hx (by simpa using h25) (by simpa using h34) (by omega))⟩ (by omega)) ⟨rfl, rfl, trivial⟩
      · refine RK.exit rfl ?_
        refine RK.seq ?_
        refine RK.region ?_
        refine RL.p rfl rfl ?_
        refine RL.done ?_
        refine RK.ret_of Tryz.func149 (res1 rfl rfl) ?_ _
        exact ⟨_, rfl, congrArg _ (by first
            | exact (is_no1 (by omega)).symm
            | exact (is_no2 (i := k) (by omega) (okAt_no1 hx (by simpa using h25))).symm
            | exact (is_no2 (i := k) (by omega) (okAt_no2 hx (by simpa using h34))).symm
            | exact (is_no2 (i := k) (by omega) (okAt_no3 hx hj hy h51)).symm
            | exact (is_yes (by omega) (by omega) fun i hi => hall i (by omega)).symm), by first
            | exact Mod.refl _ _
            | exact hg.trans (Mod.drew _ _)
            | exact hg⟩
end Go.Proofs.YthbjfhhiajihfaaGreat
set_option linter.unusedVariables false
set_option linter.unusedSimpArgs false
set_option maxHeartbeats 400000
set_option maxRecDepth 100000
namespace Go.Proofs.YthbjfhhiajihfaaGreat
open Go Go.X
def PredI (w : World) (fv : Value) (p : Int → Bool) : Prop := ∃ g cap, fv = .func (.func g) #[] cap ∧ Go.Proofs.Enters Tryz.prog g ∧ ∀ (n : Int) w', Grow w w' → Fx Tryz.prog g ([.int .i64 n] ++ cap.toList) w' (fun u w'' => u = .bool (p n) ∧ Grow w' w'')
theorem PredI.grow {w w' : World} {fv : Value} {p : Int → Bool} (h : PredI w fv p) (hg : Grow w w') : PredI w' fv p := by
 obtain ⟨g, cap, h1, h2, h3⟩ := h
 exact ⟨g, cap, h1, h2, fun n w'' h => h3 n w'' (hg.trans h)⟩
def ixF (p : Int → Bool) (xs : List Int) : Int := optI (xs.findIdx? p)
theorem indexFuncI_ok (M : Nat → Prop) (xs : List Int) (v fv : Value) (p : Int → Bool) (w : World) (hv : Sl M w v 1 xs.length (ints xs)) (hp : PredI w fv p) :
  Fx Tryz.prog 236 [v, fv] w (fun u w' => u = .int .i64 (ixF p xs) ∧ Grow w w') := by
 obtain ⟨ad, c, rfl⟩ := hv.shape
 obtain ⟨g, cap, rfl, hE, hp⟩ := hp
 have hbig := hv.big
 refine enter Tryz.func236 rfl rfl rfl _ (Pick.sub (l := [0, 1]) (.cons rfl (.cons rfl .nil))) ?_
 refine GG ?_
 refine QQ (Yld.lenSl u37 rfl) ?_
 refine GG ?_
 refine RK.loop (fun k : Nat => [(0, .slice ad xs.length c), (1, .func (.func g) #[] cap), (7, .int .i64 xs.length), (8, .int .i64 k)]) (fun k w' => Grow w w' ∧ k ≤ xs.length ∧ ∀ i a, i < k → xs[i]? = some a → p a = false) (fun k => xs.length - k) 0 ⟨rfl, rfl, rfl, rfl, trivial⟩ ⟨Mod.refl _ _, by omega, fun i a h => by omega⟩ (fun k w' hI ih => ?_)
 obtain ⟨hg, hk, hno⟩ := hI
 refine GG ?_
 refine CD (fun h9 => ?_) (fun h9 => ?_)
 ·obtain ⟨x, hx⟩ : ∃ x, xs[k]? = some x := ⟨xs[k]'(by omega), List.getElem?_eq_getElem (by omega)⟩
  obtain ⟨b1, o1, c1', he1, _, _, hc1⟩ := hv.elem1 (k := k) (u := .int .i64 x) (by simp [hx])
  cases he1
  refine GG ?_
  refine QQ (Yld.indexAddrN u37 i3 rfl rfl (by omega)) ?_
  refine QQ (Yld.load p3 rfl (at1 (hg.cell (hc1 k (.int .i64 x) (by simp [hx])) (fun h => h)))) ?_
  refine OP (Does.callv rfl rfl (by assumption) (hp x _ hg)) ?_
  rintro _ w2 ⟨rfl, hg2⟩
  refine RL.done ?_
  refine CD (fun h16 => ?_) (fun h16 => ?_)
  ·refine GG ?_
   refine RK.ret_of Tryz.func236 (res1 rfl rfl) ?_ _
   exact ⟨_, rfl, congrArg _ (by
     have : xs.findIdx? p = some k := by
      rw [List.findIdx?_eq_some_iff_getElem]
      refine ⟨by omega, ?_, ?_⟩
      ·rw [(List.getElem?_eq_some_iff.1 hx).2]; exact h16
      ·intro j hj
       simpa using hno j (xs[j]'(by omega)) hj (List.getElem?_eq_getElem (by omega))
     unfold ixF; rw [this]; rfl), hg.trans hg2⟩
  ·refine RK.skip ?_
   refine RK.inBlock ?_
   refine RK.region ?_
   refine RL.p rfl rfl ?_
   refine RL.re (d := 18) rfl rfl (succ_i64 (by omega)) ?_
   refine GG ?_
   exact RK.back (ih (k + 1) _ ⟨hg.trans hg2, by omega, fun i a' hi ha' => by by_cases e : i = k; (subst e; rw [hx] at ha'; cases ha'; exact h16); exact hno i a' (by omega) ha'⟩ (by omega)) ⟨rfl, rfl, rfl, rfl, trivial⟩
 ·refine RK.exit rfl ?_
  refine GG ?_
  refine RK.ret_of Tryz.func236 (res1 rfl rfl) ?_ _
  exact ⟨_, rfl, congrArg _ (by
    have : xs.findIdx? p = none := by
     rw [List.findIdx?_eq_none_iff]
     intro x hx
     obtain ⟨i, hi⟩ := List.getElem?_of_mem hx
     have hil := (List.getElem?_eq_some_iff.1 hi).1
     exact hno i x (by omega) hi
    unfold ixF; rw [this]; rfl), hg⟩
def keepI (p : Int → Bool) (xs : List Int) : List Int := xs.filter fun x => !p x
theorem keep_snoc (p : Int → Bool) {xs : List Int} {k : Nat} {x : Int} (hx : xs[k]? = some x) : keepI p (xs.take (k + 1)) = keepI p (xs.take k) ++ (if p x then [] else [x]) := by
 have hk := (List.getElem?_eq_some_iff.1 hx).1
 unfold keepI
 rw [List.take_succ_eq_append_getElem hk, (List.getElem?_eq_some_iff.1 hx).2, List.filter_append]
 cases h : p x <;> simp [h]
theorem set_snoc {cs : List Value} {i : Nat} {ys : List Int} {x : Int} (h : cs.take i = ints ys) (hi : i < cs.length) : (cs.set i (.int .i64 x)).take (i + 1) = ints (ys ++ [x]) := by
 have e : (cs.set i (.int .i64 x)).length = cs.length := List.length_set
 rw [List.take_succ_eq_append_getElem (by omega), List.getElem_set_self]
 have : (cs.set i (Value.int .i64 x)).take i = cs.take i := by
  apply List.ext_getElem?
  intro j
  simp only [List.getElem?_take]
  split
  ·rw [List.getElem?_set_ne (by omega)]
  ·rfl
 rw [this, h]
 simp [ints]
theorem deleteFuncI_ok (w0 : World) (xs : List Int) (v fv : Value) (p : Int → Bool) (w : World) (hv : Row w 3 1 v xs.length (ints xs)) (hf : Fresh w0.heap.size v) (hg0 : Grow w0 w) (hp : PredI w0 fv p) :
  Fx Tryz.prog 192 [v, fv] w (fun u w' => Row w' 3 1 u (keepI p xs).length (ints (keepI p xs)) ∧ u.ownBlock = v.ownBlock ∧ Mod (fun b => v.ownBlock = some b) w w') := by
 have hcall := indexFuncI_ok No xs v fv p w (Sl.own hv (fun _ _ h => h)) (hp.grow hg0)
 obtain ⟨g, cap, rfl, hE, hp⟩ := hp
 have hbig : xs.length ≤ 9223372036854775807 := (Sl.own (M := No) hv (fun _ _ h => h)).big
 by_cases hn : xs.findIdx? p = none
 ·have hix : ixF p xs = -1 := by unfold ixF; rw [hn]; rfl
  rw [hix] at hcall
  have hkeep : keepI p xs = xs := List.filter_eq_self.2 fun x hx => by simp [List.findIdx?_eq_none_iff.1 hn x hx]
  refine enter Tryz.func192 rfl rfl rfl _ (Pick.sub (l := [0, 1]) (.cons rfl (.cons rfl .nil))) ?_
  refine GG ?_
  refine OP (Does.call rfl e236 (hcall)) ?_
  rintro _ w2 ⟨rfl, hg2⟩
  refine GG ?_
  refine RK.condT (hcT rfl (decide_eq_true rfl)) ?_
  refine GG ?_
  refine RK.ret_of Tryz.func192 (res1 rfl rfl) ?_ _
  exact ⟨_, rfl, by rw [hkeep]; exact hv.mod hg2 (fun _ _ h => h), rfl, Mod.any' hg2⟩
 ·obtain ⟨i0, hi0⟩ : ∃ i, xs.findIdx? p = some i := by cases h : xs.findIdx? p with | none => exact absurd h hn | some i => exact ⟨i, rfl⟩
  have hix : ixF p xs = (i0 : Int) := by unfold ixF; rw [hi0]; rfl
  rw [hix] at hcall
  obtain ⟨hi0l, hpi0, hlt0⟩ := List.findIdx?_eq_some_iff_getElem.1 hi0
  have hx0 : xs[i0]? = some xs[i0] := List.getElem?_eq_getElem hi0l
  have hk0 : keepI p (xs.take i0) = xs.take i0 := List.filter_eq_self.2 fun x hx => by
   obtain ⟨j, hj, rfl⟩ := List.getElem_of_mem hx
   simp at hj
   rw [List.getElem_take]
   simpa using hlt0 j (by omega)
  have hk1 : keepI p (xs.take (i0 + 1)) = xs.take i0 := by rw [keep_snoc p hx0, hk0]; simp [hpi0]
  obtain ⟨gb, cp, cs, rfl, hb, hl, hkc, hcm, htk⟩ := hv.whole (by omega)
  rw [Nat.mul_one] at hl htk
  have hgb : w0.heap.size ≤ gb := hf gb rfl
  refine enter Tryz.func192 rfl rfl rfl _ (Pick.sub (l := [0, 1]) (.cons rfl (.cons rfl .nil))) ?_
  refine GG ?_
  refine OP (Does.call rfl e236 (hcall)) ?_
  rintro _ w2 ⟨rfl, hg2⟩
  refine GG ?_
  refine RK.condF (hcF rfl (decide_eq_false (by omega))) ?_
  refine RK.skip ?_
  iterate 2 refine RK.seq ?_
  refine RK.region ?_
  iterate 2 refine RL.p rfl rfl ?_
  refine RL.re (d := 15) rfl rfl (add_i64 (z := ((i0 + 1 : Nat) : Int)) (by simp) (by omega) (by omega)) ?_
  refine GG ?_
  refine RK.loop (fun s : Nat × Nat => [(0, .slice (some ⟨gb, 0, none⟩) xs.length cp), (1, .func (.func g) #[] cap), (5, .int .i64 (s.1 : Int)), (6, .int .i64 (s.2 : Int))]) (fun s w' => Mod (· = gb) w w' ∧ s.1 < s.2 ∧ s.2 ≤ xs.length ∧ s.1 = (keepI p (xs.take s.2)).length ∧ ∃ cs', Blk w' gb 3 cs' ∧ cs'.length = cp ∧ cs'.take s.1 = ints (keepI p (xs.take s.2)) ∧ ∀ t x, s.2 ≤ t → xs[t]? = some x → cs'[t]? = some (.int .i64 x)) (fun s => xs.length - s.2) (i0, i0 + 1) ⟨rfl, rfl, rfl, rfl, trivial⟩ ⟨Mod.any' hg2, by omega, by simp only; omega, by rw [hk1]; simp; omega, cs, hb.mod hg2 (fun h => h), hl, by rw [hk1]; simp only; have := congrArg (List.take i0) htk; rw [List.take_take, Nat.min_eq_left (by omega)] at this; rw [this]; simp [ints, List.map_take], fun t x ht hx => by have hxl := (List.getElem?_eq_some_iff.1 hx).1; have := congrArg (fun l => l[t]?) htk; simp only [List.getElem?_take, if_pos hxl] at this; rw [this]; simp [hx]⟩ (fun s w' hI ih => ?_)
  obtain ⟨i, j⟩ := s
  obtain ⟨hm, hij, hj, hic, cs1, hb1, hl1, ht1, hr1⟩ := hI
  simp only at hm hij hj hic ht1 hr1
  refine GG ?_
  refine QQ (Yld.lenSl u37 rfl) ?_
  refine GG ?_
  refine CD (fun h19 => ?_) (fun h19 => ?_)
  ·obtain ⟨x, hx⟩ : ∃ x, xs[j]? = some x := ⟨xs[j]'(by omega), List.getElem?_eq_getElem (by omega)⟩
   have hks := keep_snoc p hx
   refine GG ?_
   refine QQ (Yld.indexAddrN u37 i3 rfl rfl (by omega)) ?_
   refine QQ (Yld.load p3 rfl (at1 (hb1.at1 (hr1 j x (Nat.le_refl _) hx)))) ?_
   refine GG ?_
   refine OP (Does.callv rfl rfl (by assumption) (hp x _ (hg0.then hm (fun b hb e => by have e' : b = gb := e; omega)))) ?_
   rintro _ w3 ⟨rfl, hg3⟩
   have hm3 : Mod (· = gb) w w3 := hm.trans (Mod.any' hg3)
   have hb3 := hb1.mod hg3 (fun h => h)
   refine GG ?_
   refine CD (fun h29 => ?_) (fun h29 => ?_)
   ·have hpx : p x = false := by simpa using h29
    refine GG ?_
    refine QQ (Yld.indexAddrN u37 i3 rfl rfl (by omega)) ?_
    refine OQ (Does.store i3 rfl rfl rfl hb3 (SetAt.of (by omega))) ?_
    rintro _ w4 ⟨hb4, hm4, _⟩
    have hil : i < cs1.length := by omega
    have e0 : 0 + i * 1 = i := by omega
    rw [e0] at hb4
    refine RL.done ?_
    refine RK.region ?_
    iterate 2 refine RL.p rfl rfl ?_
    refine RL.re (d := 35) rfl rfl (succ_i64 (by omega)) ?_
    refine RL.p rfl rfl ?_
    refine RL.done ?_
    refine RK.inBlock ?_
    refine RK.region ?_
    iterate 2 refine RL.p rfl rfl ?_
    refine RL.re (d := 21) rfl rfl (succ_i64 (by omega)) ?_
    refine GG ?_
    exact RK.back (ih (i + 1, j + 1) _ ⟨hm3.trans hm4, by omega, by simp only; omega, by rw [hks, hpx]; simpa using hic, _, hb4, by simpa using hl1, by rw [hks, hpx]; simp only [Bool.false_eq_true, if_false]; exact set_snoc ht1 hil, fun t y ht hy => by rw [List.getElem?_set_ne (by simp only at ht; omega)]; exact hr1 t y (by simp only at ht; omega) hy⟩ (by simp only; omega)) ⟨rfl, rfl, rfl, rfl, trivial⟩
   ·have hpx : p x = true := by simpa using h29
    refine RK.skip ?_
    refine RK.inBlock ?_
    refine RK.region ?_
    iterate 2 refine RL.p rfl rfl ?_
    refine RL.re (d := 21) rfl rfl (succ_i64 (by omega)) ?_
    refine GG ?_
    exact RK.back (ih (i, j + 1) _ ⟨hm3, by omega, by simp only; omega, by rw [hks, hpx]; simpa using hic, cs1, hb3, hl1, by rw [hks, hpx]; simpa using ht1, fun t y ht hy => hr1 t y (by simp only at ht; omega) hy⟩ (by simp only; omega)) ⟨rfl, rfl, rfl, rfl, trivial⟩
  ·have ek : xs.take j = xs := List.take_of_length_le (by omega)
   rw [ek] at hic ht1
   refine RK.exit rfl ?_
   refine GG ?_
   refine QQ (Yld.sliceFrom u37 i3 rfl rfl (by omega)) ?_
   refine OQ (Does.clear u37 i3 (cap := cp) (lo := i) (m := xs.length - i) rfl (by simp [Value.cells, Value.oneCell']) rfl hb1 (by rw [Nat.mul_one]; exact hl1) (by omega)) ?_
   rintro _ w5 ⟨⟨cs5, hb5, hl5, ht5⟩, hm5, hs5⟩
   refine GG ?_
   refine QQ (Yld.sliceHi u37 i3 rfl rfl (by omega)) ?_
   refine GG ?_
   refine RK.ret_of Tryz.func192 (res1 rfl rfl) ?_ _
   exact ⟨_, rfl, by have h9 := Row.shut (sz := 1) (k := i) hb5 (by rw [hl5, hl1, Nat.mul_one]) (by omega) hcm; rw [ht5] at h9; rw [Nat.mul_one, ht1] at h9; rw [← hic]; exact h9, rfl, (hm.trans hm5).mono fun b _ e => congrArg some e.symm⟩
theorem kept1_ok (w : World) (b : Nat) (fv : Value) (p : Int → Bool) (hb : Blk w b 172 [fv]) (hp : PredI w fv p) (n : Int) : Fx Tryz.prog 251 [.int .i64 n, pp b] w (fun u w' => u = .bool (!p n) ∧ Grow w w') := by
 obtain ⟨g, cap, rfl, hE, hp⟩ := hp
 refine enter Tryz.func251 rfl rfl rfl _ (Pick.sub (l := [0, 1]) (.cons rfl (.cons rfl .nil))) ?_
 refine GG ?_
 refine QQ (Yld.load p172 rfl (at1 (hb.cell rfl))) ?_
 refine RL.p rfl rfl ?_
 refine OP (Does.callv rfl rfl (by assumption) (hp n _ (Mod.refl _ _))) ?_
 rintro _ w2 ⟨rfl, hg2⟩
 refine GG ?_
 refine RK.ret_of Tryz.func251 (res1 rfl rfl) ?_ _
 exact ⟨_, rfl, rfl, hg2⟩
theorem kept_ok (M : Nat → Prop) (xs : List Int) (v fv : Value) (p : Int → Bool) (w : World) (hv : Sl M w v 1 xs.length (ints xs)) (hb : xs.length * 8 ≤ 140737488355328) (hp : PredI w fv p) :
  Fx Tryz.prog 201 [v, fv] w (fun u w' => Row w' 3 1 u ((mkRow xs).filter p).length (ints ((mkRow xs).filter p)) ∧ Fresh w.heap.size u ∧ Grow w w') := by
 obtain ⟨g, cap, rfl, hE, hp0⟩ := id hp
 have he : keepI (fun n => !p n) (mkRow xs) = (mkRow xs).filter p := by unfold keepI; simp
 refine enter Tryz.func201 rfl rfl rfl _ (Pick.sub (l := [0, 1]) (.cons rfl (.cons rfl .nil))) ?_
 refine GG ?_
 refine OP (Does.box rfl) ?_
 rintro _ w1 ⟨b1, rfl, hn1⟩
 refine GG ?_
 refine OP (Does.call rfl e78 (make_ok No xs v _ (hv.mod (Mod.any' hn1.grow)).noM hb)) ?_
 rintro u2 w2 ⟨hr2, hf2, hg2⟩
 refine RL.p rfl rfl ?_
 refine OP (Does.call rfl e192 (deleteFuncI_ok w1 (mkRow xs) u2 _ (fun n => !p n) _ hr2 hf2 hg2 ⟨_, _, rfl, e251, fun n w' hg => kept1_ok w' b1 _ p (hn1.blk.mod hg (fun h => h)) (hp.grow (hn1.grow.trans hg)) n⟩)) ?_
 rintro u3 w3 ⟨hr3, hu3, hm3⟩
 refine GG ?_
 refine RK.ret_of Tryz.func201 (res1 rfl rfl) ?_ _
 exact ⟨_, rfl, he ▸ hr3, fun b hb => by rw [hu3] at hb; have := hf2 b hb; have := hn1.grow.size; omega, (hn1.grow.trans hg2).then hm3 (fun x hx e => by have := hf2 x e; have := hn1.grow.size; omega)⟩
theorem contains_ok (M : Nat → Prop) (xs : List Int) (v : Value) (x : Int) (w : World) (hv : Sl M w v 1 xs.length (ints xs)) : Fx Tryz.prog 252 [v, .int .i64 x] w (fun u w' => u = .bool (xs.contains x) ∧ w = w') := by
 obtain ⟨ad, c, b, o, rfl, hf⟩ := hv.open
 by_cases h0 : xs.length = 0
 ·have : xs = [] := List.eq_nil_of_length_eq_zero h0
  subst this
  refine Calls.mono (Tryz.slices_Contains_int_empty ad c x w) ?_
  rintro e w' ⟨rfl, rfl⟩
  exact ⟨_, rfl, rfl, rfl⟩
 ·obtain ⟨rfl, _, hc⟩ := hf (by omega)
  refine Calls.mono (Tryz.slices_Contains_int b o xs.length c xs x w (Nat.le_refl _) hv.big (fun j hj => hc j _ (by simp [hj]))) ?_
  rintro e w' ⟨rfl, rfl⟩
  exact ⟨_, rfl, by rw [List.take_length], rfl⟩
theorem has_ok (M : Nat → Prop) (xs : List Int) (v : Value) (x : Int) (w : World) (hv : Sl M w v 1 xs.length (ints xs)) : Fx Tryz.prog 203 [v, .int .i64 x] w (fun u w' => u = .bool (xs.contains x) ∧ w = w') := by
 refine enter Tryz.func203 rfl rfl rfl _ (Pick.sub (l := [0, 1]) (.cons rfl (.cons rfl .nil))) ?_
 refine GG ?_
 refine OP (Does.call rfl e252 (contains_ok M xs v x _ hv)) ?_
 rintro _ _ ⟨rfl, rfl⟩
 refine GG ?_
 refine RK.ret_of Tryz.func203 (res1 rfl rfl) ?_ _
 exact ⟨_, rfl, rfl, rfl⟩
theorem not1_ok (M : Nat → Prop) (w : World) (b : Nat) (ys : List Int) (vb : Value) (hb : Blk w b 37 [vb]) (hv : Sl M w vb 1 ys.length (ints ys)) (n : Int) : Fx Tryz.prog 202 [.int .i64 n, pp b] w (fun u w' => u = .bool (!ys.contains n) ∧ Grow w w') := by
 refine enter Tryz.func202 rfl rfl rfl _ (Pick.sub (l := [0, 1]) (.cons rfl (.cons rfl .nil))) ?_
 refine GG ?_
 refine QQ (Yld.load p37 rfl (at1 (hb.cell rfl))) ?_
 refine RL.p rfl rfl ?_
 refine OP (Does.call rfl e203 (has_ok M ys vb n _ hv)) ?_
 rintro _ _ ⟨rfl, rfl⟩
 refine GG ?_
 refine RK.ret_of Tryz.func202 (res1 rfl rfl) ?_ _
 exact ⟨_, rfl, rfl, Mod.refl _ _⟩
theorem not_ok (M : Nat → Prop) (xs ys : List Int) (va vb : Value) (w : World) (ha : Sl M w va 1 xs.length (ints xs)) (hvb : Sl M w vb 1 ys.length (ints ys)) (hb : xs.length * 8 ≤ 140737488355328) :
  Fx Tryz.prog 148 [va, vb] w (fun u w' => Row w' 3 1 u ((mkRow xs).filter fun n => !ys.contains n).length (ints ((mkRow xs).filter fun n => !ys.contains n)) ∧ Fresh w.heap.size u ∧ Grow w w') := by
 obtain ⟨ad', c', rfl⟩ := hvb.shape
 refine enter Tryz.func148 rfl rfl rfl _ (Pick.sub (l := [0, 1]) (.cons rfl (.cons rfl .nil))) ?_
 refine GG ?_
 refine OP (Does.box rfl) ?_
 rintro _ w1 ⟨b1, rfl, hn1⟩
 refine GG ?_
 refine OP (Does.call rfl e201 (kept_ok No xs va _ (fun n => !ys.contains n) _ (ha.mod (Mod.any' hn1.grow)).noM hb ⟨_, _, rfl, e202, fun n w' hg => not1_ok No w' b1 ys _ (hn1.blk.mod hg (fun h => h)) (hvb.noM.mod (hn1.grow.trans hg)) n⟩)) ?_
 rintro u2 w2 ⟨hr2, hf2, hg2⟩
 refine GG ?_
 refine RK.ret_of Tryz.func148 (res1 rfl rfl) ?_ _
 exact ⟨_, rfl, hr2, fun b hb => by have := hf2 b hb; have := hn1.grow.size; omega, hn1.grow.trans hg2⟩
theorem cut_ok (M : Nat → Prop) (xs : List Int) (x : Int) (v : Value) (w : World) (hv : Sl M w v 1 xs.length (ints xs)) (hb : xs.length * 8 ≤ 140737488355328) :
  Fx Tryz.prog 82 [v, .int .i64 x] w (fun u w' => Row w' 3 1 u (cutRow xs x).length (ints (cutRow xs x)) ∧ Fresh w.heap.size u ∧ Grow w w') := by
 have he : (mkRow xs).filter (fun n => ![x].contains n) = cutRow xs x := by
  unfold cutRow
  apply List.filter_congr
  intro y _
  by_cases h : y = x <;> simp [h]
 refine enter Tryz.func82 rfl rfl rfl _ (Pick.sub (l := [0, 1]) (.cons rfl (.cons rfl .nil))) ?_
 refine GG ?_
 refine OP (Does.slice1 u37 i3 rfl rfl rfl rfl rfl) ?_
 rintro _ w1 ⟨b1, rfl, hn1⟩
 refine OP (Does.call rfl e148 (not_ok No xs [x] v _ _ (hv.mod (Mod.any' hn1.grow)).noM (Sl.new hn1 1 1 rfl (by omega) (fun h => h)) hb)) ?_
 rintro u2 w2 ⟨hr2, hf2, hg2⟩
 refine GG ?_
 refine RK.ret_of Tryz.func82 (res1 rfl rfl) ?_ _
 exact ⟨_, rfl, by rw [he] at hr2; exact hr2, fun b hb => by have := hf2 b hb; have := hn1.grow.size; omega, hn1.grow.trans hg2⟩
end Go.Proofs.YthbjfhhiajihfaaGreat
set_option linter.unusedVariables false
set_option linter.unusedSimpArgs false
set_option maxHeartbeats 800000
set_option maxRecDepth 100000
namespace Go.Proofs.YthbjfhhiajihfaaGreat
open Go Go.X
end Go.Proofs.YthbjfhhiajihfaaGreat
set_option linter.unusedVariables false
set_option linter.unusedSimpArgs false
set_option maxHeartbeats 400000
set_option maxRecDepth 100000
namespace Go.Proofs.YthbjfhhiajihfaaGreat
open Go Go.X
def giveS (out : List Int) (id : Int) : List Int := if out.contains id then cutRow out id else out
theorem cmpInt_ok (x y : Int) (w : World) : Fx Tryz.prog 160 [.int .i64 x, .int .i64 y] w (fun u w' => u = .int .i64 (Lib.compareInt x y) ∧ w = w') := by
 refine Calls.mono (Tryz.cmp_Compare_int x y w) ?_
 rintro e w' ⟨rfl, rfl⟩
 exact ⟨_, rfl, rfl, rfl⟩
end Go.Proofs.YthbjfhhiajihfaaGreat
set_option linter.unusedVariables false
set_option linter.unusedSimpArgs false
set_option maxHeartbeats 800000
set_option maxRecDepth 100000
namespace Go.Proofs.YthbjfhhiajihfaaGreat
open Go Go.X
end Go.Proofs.YthbjfhhiajihfaaGreat
set_option linter.unusedVariables false
set_option linter.unusedSimpArgs false
set_option maxHeartbeats 800000
set_option maxRecDepth 100000
namespace Go.Proofs.YthbjfhhiajihfaaGreat
open Go Go.X
def placeS (s : St) (id : Int) : Option Nat := s.al.findIdx? fun a => decide (a.1 = id)
def resolveS (s : St) (id : Int) : St × Int :=
 match placeS s id with
 | none => (s, 5)
 | some i => ({ s with al := s.al.eraseIdx i, out := giveS s.out id, has := cutM s.has id, rows := dropRows s.rows id ((lookM s.has id).getD []) }, 0)
end Go.Proofs.YthbjfhhiajihfaaGreat
set_option linter.unusedVariables false
set_option linter.unusedSimpArgs false
set_option maxHeartbeats 800000
set_option maxRecDepth 100000
namespace Go.Proofs.YthbjfhhiajihfaaGreat
open Go Go.X
end Go.Proofs.YthbjfhhiajihfaaGreat
set_option linter.unusedVariables false
set_option linter.unusedSimpArgs false
set_option maxHeartbeats 400000
set_option maxRecDepth 100000
namespace Go.Proofs.YthbjfhhiajihfaaGreat
open Go Go.X
end Go.Proofs.YthbjfhhiajihfaaGreat
