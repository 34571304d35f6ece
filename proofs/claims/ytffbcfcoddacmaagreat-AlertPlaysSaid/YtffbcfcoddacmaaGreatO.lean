/- The document's own sets of numbers: rising, without doubles. -/
import Derived.Test.YtffbcfcoddacmaaGreatU
import Derived.Test.YtffbcfcoddacmaaGreatXB
set_option linter.unusedVariables false
set_option linter.unusedSimpArgs false
set_option maxHeartbeats 400000
set_option maxRecDepth 100000
namespace Go.Proofs.YtffbcfcoddacmaaGreat
open Go Go.X

def ltI (x y : Int) : Bool := decide (x < y)
def insR (L : List Int) (x : Int) : List Int := if 0 < pos ltI x L ∧ L[pos ltI x L - 1]? = some x then L else L.take (pos ltI x L) ++ x :: L.drop (pos ltI x L)
def rise (xs : List Int) : List Int := xs.foldl insR []
theorem rise_snoc (xs : List Int) (x : Int) : rise (xs ++ [x]) = insR (rise xs) x := by simp [rise]
theorem pos_split {lt : Int → Int → Bool} {x : Int} {L : List Int} {j : Nat} (hj : j ≤ L.length) (hD : ∀ y ∈ L.drop j, lt x y = true) (hA : ∀ y, 0 < j → L[j - 1]? = some y → lt x y = false) : pos lt x L = j := by
  have h1 : L.reverse.takeWhile (lt x) = (L.drop j).reverse := by
    have e : L.reverse = (L.drop j).reverse ++ (L.take j).reverse := by rw [← List.reverse_append, List.take_append_drop]
    rw [e, List.takeWhile_append_of_pos (by intro y hy; exact hD y (by simpa using hy))]
    have : (L.take j).reverse.takeWhile (lt x) = [] := by
      cases hr : (L.take j).reverse with
      | nil => rfl
      | cons y l =>
        have e2 : L.take j = l.reverse ++ [y] := by have := congrArg List.reverse hr; simpa using this
        have hjl : j = l.length + 1 := by have := congrArg List.length e2; simp at this; omega
        have hy : L[j - 1]? = some y := by
          have h3 : (L.take j)[l.length]? = some y := by rw [e2]; simp
          rw [List.getElem?_take_of_lt (by omega)] at h3
          rw [hjl]; exact h3
        simp [List.takeWhile, hA y (by omega) hy]
    rw [this, List.append_nil]
  unfold pos
  rw [h1]
  simp; omega
theorem insR_new {L : List Int} {x : Int} (h : x ∉ L) : (insR L x).length = L.length + 1 ∧ ∀ y, y ∈ insR L x ↔ y ∈ L ∨ y = x := by
  have hp : pos ltI x L ≤ L.length := Nat.sub_le _ _
  have hn : ¬ (0 < pos ltI x L ∧ L[pos ltI x L - 1]? = some x) := fun h' => h (List.mem_of_getElem? h'.2)
  unfold insR
  rw [if_neg hn]
  refine ⟨by simp; omega, fun y => ?_⟩
  have : y ∈ L ↔ y ∈ L.take (pos ltI x L) ∨ y ∈ L.drop (pos ltI x L) := by rw [← List.mem_append, List.take_append_drop]
  rw [this, List.mem_append, List.mem_cons]
  constructor
  · rintro (h | h | h) <;> simp [h]
  · rintro ((h | h) | h) <;> simp [h]
theorem rise_len {xs : List Int} (h : xs.Nodup) : (rise xs).length = xs.length := by
  have key : ∀ (xs L : List Int), xs.Nodup → (∀ x ∈ xs, x ∉ L) → (xs.foldl insR L).length = xs.length + L.length := by
    intro xs
    induction xs with
    | nil => intro L _ _; simp
    | cons x xs ih =>
      intro L hn hx
      obtain ⟨h1, h2⟩ := insR_new (hx x (by simp))
      rw [List.nodup_cons] at hn
      rw [List.foldl_cons, ih _ hn.2 (fun y hy hm => by rcases (h2 y).1 hm with h3 | rfl; exact hx y (by simp [hy]) h3; exact hn.1 hy), h1]
      simp; omega
  unfold rise
  simpa using key xs [] h (by simp)
theorem insR_len (L : List Int) (x : Int) : (insR L x).length ≤ L.length + 1 := by
  have hp : pos ltI x L ≤ L.length := Nat.sub_le _ _
  unfold insR
  split
  · omega
  · simp; omega
theorem rise_le (xs : List Int) : (rise xs).length ≤ xs.length := by
  have key : ∀ (xs L : List Int), (xs.foldl insR L).length ≤ xs.length + L.length := by
    intro xs
    induction xs with
    | nil => intro L; simp
    | cons x xs ih => intro L; rw [List.foldl_cons]; have := ih (insR L x); have := insR_len L x; simp; omega
  unfold rise
  simpa using key xs []
/-- The new row of numbers is the elder one with x laid in. -/
theorem laid {w : World} {t : TypeId} {u : Value} {L : List Int} {j : Nat} {x : Int} {R : List Int} (hj : j ≤ L.length) (hI : R = L.take j ++ x :: L.drop j) (h : Row w t 1 u (0 + j + 1 + (L.length - j)) (([] ++ ints (L.take j)) ++ (Value.int .i64 x).cells.toList ++ ints (L.drop j))) : Row w t 1 u R.length (ints R) := by
  subst hI
  have e1 : ([] ++ ints (L.take j)) ++ (Value.int .i64 x).cells.toList ++ ints (L.drop j) = ints (L.take j ++ x :: L.drop j) := by simp [Value.cells]
  have e2 : 0 + j + 1 + (L.length - j) = (L.take j ++ x :: L.drop j).length := by simp; omega
  rw [e1, e2] at h
  exact h
theorem rising_ok (M : Nat → Prop) (xs : List Int) (v : Value) (w : World) (hv : Sl M w v 1 xs.length (ints xs)) (hb : xs.length ≤ 1000000000000) :
    Fx Tryz.prog 44 [v] w (fun u w' => Row w' 3 1 u (rise xs).length (ints (rise xs)) ∧ Fresh w.heap.size u ∧ Grow w w') := by
  obtain ⟨ad, c, rfl⟩ := hv.shape
  refine enter Tryz.func44 rfl rfl rfl _ (Pick.sub (l := [0]) (.cons rfl .nil)) ?_
  refine RK.seq ?_
  refine RK.region ?_
  refine RL.p rfl rfl ?_
  refine RL.done ?_
  refine RK.seq ?_
  refine RK.region ?_
  refine RL.p rfl rfl ?_
  refine RL.done ?_
  iterate 2 refine RK.seq ?_
  refine RK.region ?_
  refine RL.p rfl rfl ?_
  refine RL.done ?_
  refine RK.block ?_
  refine RK.loop (fun s : Nat × Value => [(0, .slice ad xs.length c), (3, s.2), (4, .int .i64 (s.1 : Int))]) (fun s w' => Row w' 3 1 s.2 (rise (xs.take s.1)).length (ints (rise (xs.take s.1))) ∧ Fresh w.heap.size s.2 ∧ Grow w w' ∧ s.1 ≤ xs.length) (fun s => xs.length - s.1) (0, .slice none 0 0) ⟨rfl, rfl, rfl, trivial⟩ ⟨by simpa [rise] using Row.nil _ _ _, fun b hb => by simp [Value.ownBlock] at hb, Mod.refl _ _, by omega⟩ (fun s w' hI ih => ?_)
  obtain ⟨i, u⟩ := s
  obtain ⟨hr, hfr, hg, hi⟩ := hI
  simp only at hr hfr hi
  iterate 2 refine RK.seq ?_
  refine RK.region ?_
  iterate 2 refine RL.p rfl rfl ?_
  refine RL.q (.free rfl) rfl rfl (Yld.lenSl u22 rfl) ?_
  refine RL.p rfl rfl ?_
  refine RL.done ?_
  first | refine RK.condD rfl (fun h9 => ?_) (fun h9 => ?_) | refine RK.condN rfl (fun h9 => ?_) (fun h9 => ?_) | refine RK.cond rfl (fun h9 => ?_) (fun h9 => ?_)
  · obtain ⟨x, hx⟩ : ∃ x, xs[i]? = some x := ⟨xs[i]'(by omega), List.getElem?_eq_getElem (by omega)⟩
    have htk : xs.take (i + 1) = xs.take i ++ [x] := by rw [List.take_succ_eq_append_getElem (by omega)]; congr 2; exact (List.getElem?_eq_some_iff.1 hx).2
    obtain ⟨b1, o1, c1', he1, _, _, hc1⟩ := hv.elem1 (k := i) (u := .int .i64 x) (by simp [hx])
    cases he1
    have hLle : (rise (xs.take i)).length ≤ i := Nat.le_trans (rise_le _) (by simp; omega)
    generalize hLe : rise (xs.take i) = L at *
    obtain ⟨adu, cu, rfl, hcu⟩ := hr.cap
    have hsu : Sl No w' (.slice adu L.length cu) 1 L.length (ints L) := Sl.own hr (fun _ _ h => h)
    refine RK.skip ?_
    refine RK.seq ?_
    refine RK.block ?_
    refine RK.seq ?_
    refine RK.region ?_
    refine RL.p rfl rfl ?_
    refine RL.q (.free rfl) rfl rfl (Yld.lenSl u22 rfl) ?_
    refine RL.p rfl rfl ?_
    refine RL.done ?_
    refine RK.seq ?_
    refine RK.block ?_
    refine RK.loop (fun j : Nat => [(0, .slice (some ⟨b1, o1, none⟩) xs.length c), (3, .slice adu L.length cu), (4, .int .i64 (i : Int)), (5, .int .i64 (j : Int))]) (fun j w2 => Grow w' w2 ∧ j ≤ L.length ∧ ∀ y ∈ L.drop j, ltI x y = true) (fun j => j) L.length ⟨rfl, rfl, rfl, rfl, trivial⟩ ⟨Mod.refl _ _, Nat.le_refl _, by simp⟩ (fun j w2 hI2 ih2 => ?_)
    obtain ⟨hg2, hj, hD⟩ := hI2
    have hin : ∀ w3, Grow w' w3 → w3.cell? ⟨b1, o1 + i * 1, none⟩ = some (.int .i64 x) := fun w3 h3 => (hg.trans h3).cell (hc1 i (.int .i64 x) (by simp [hx])) (fun h => h)
    have hhi : ∀ w3, Grow w' w3 → Sl No w3 (.slice adu j cu) 1 j (ints (L.take j)) := fun w3 h3 => by have := (hsu.mod h3).take hj; rwa [← List.map_take] at this
    have hlo : ∀ w3, Grow w' w3 → Sl No w3 (.slice (fromAt adu cu j 1) (L.length - j) (cu - j)) 1 (L.length - j) (ints (L.drop j)) := fun w3 h3 => by have := (hsu.mod h3).from hj hcu; rwa [← List.map_drop] at this
    iterate 2 refine RK.seq ?_
    refine RK.drawM No [(0, false), (1, false), (2, false), (3, false), (4, false), (5, false), (6, false), (7, false), (8, false), (9, false), (10, false), (11, false), (12, false), (13, false)] [] mixed (by kernel_rfl) ?_
    iterate 3 refine DL.p rfl rfl rfl ?_
    first | refine DL.splitD (d := 16) rfl rfl (fun h15 => ?_) (fun h15 => ?_) | refine DL.splitN (d := 16) rfl rfl (fun h15 => ?_) (fun h15 => ?_) | refine DL.split (d := 16) rfl rfl (fun h15 => ?_) (fun h15 => ?_)
    · obtain ⟨y, hy⟩ : ∃ y, L[j - 1]? = some y := ⟨L[j - 1]'(by omega), List.getElem?_eq_getElem (by omega)⟩
      obtain ⟨b2, o2, c2', he2, _, _, hc2⟩ := hsu.elem1 (k := j - 1) (u := .int .i64 y) (by simp [hy])
      cases he2
      iterate 3 refine DL.qf rfl (.yes rfl rfl rfl) rfl rfl (Yld.pure rfl) ?_
      refine DL.re (d := 19) rfl rfl (sub_i64 (z := ((j - 1 : Nat) : Int)) (by omega) (by omega) (by omega)) ?_
      refine DL.qf rfl (.yes rfl rfl rfl) rfl rfl (Yld.indexAddrN u22 i3 rfl rfl (by omega)) ?_
      refine DL.q rfl (.yes rfl rfl rfl) rfl rfl rfl (Yld.load p3 rfl (atM (hg2.cell (hc2 (j - 1) (.int .i64 y) (by simp [hy])) (fun h => h)) (fun h => h))) (Mod.drew _ _) ?_
      iterate 2 refine DL.qf rfl (.yes rfl rfl rfl) rfl rfl (Yld.pure rfl) ?_
      refine DL.qf rfl (.yes rfl rfl rfl) rfl rfl (Yld.indexAddrN u22 i3 rfl rfl (by omega)) ?_
      refine DL.q rfl (.yes rfl rfl rfl) rfl rfl rfl (Yld.load p3 rfl (atM (hin _ hg2) (fun h => h))) (Mod.drew _ _) ?_
      refine DL.qf rfl (.yes rfl rfl rfl) rfl rfl (Yld.pure rfl) ?_
      refine DL.p rfl rfl rfl ?_
      refine DL.done ?_
      first | refine RK.condD rfl (fun h27 => ?_) (fun h27 => ?_) | refine RK.condN rfl (fun h27 => ?_) (fun h27 => ?_) | refine RK.cond rfl (fun h27 => ?_) (fun h27 => ?_)
      · refine RK.skip ?_
        refine RK.block ?_
        refine RK.region ?_
        iterate 2 refine RL.p rfl rfl ?_
        refine RL.re (d := 29) rfl rfl (sub_i64 (z := ((j - 1 : Nat) : Int)) (by omega) (by omega) (by omega)) ?_
        refine RL.p rfl rfl ?_
        refine RL.done ?_
        refine RK.inBlock ?_
        exact RK.back (ih2 (j - 1) _ ⟨hg2.trans (Mod.drew _ _), by omega, fun z hz => by
            rw [show L.drop (j - 1) = y :: L.drop j by rw [List.drop_eq_getElem_cons (by omega : j - 1 < L.length), show j - 1 + 1 = j by omega, (List.getElem?_eq_some_iff.1 hy).2]] at hz
            rcases List.mem_cons.1 hz with rfl | hz
            · exact decide_eq_true h27
            · exact hD z hz
          ⟩ (by omega)) ⟨rfl, rfl, rfl, rfl, trivial⟩
      · have hpos : pos ltI x L = j := pos_split hj hD (fun z _ hz => by rw [hy] at hz; cases hz; exact decide_eq_false h27)
        have hg3 : Grow w' w2.drew := hg2.trans (Mod.drew _ _)
        refine RK.exit rfl ?_
        iterate 2 refine RK.seq ?_
        refine RK.drawM No [(0, false), (1, false), (2, false), (3, false), (4, false), (5, false), (6, false), (7, false), (8, false), (9, false), (10, false), (11, false), (12, false), (13, false)] [] mixed (by kernel_rfl) ?_
        iterate 3 refine DL.p rfl rfl rfl ?_
        refine DL.knownT (d := 32) rfl rfl (decide_eq_true h15) ?_
        iterate 3 refine DL.qf rfl (.yes rfl rfl rfl) rfl rfl (Yld.pure rfl) ?_
        refine DL.re (d := 35) rfl rfl (sub_i64 (z := ((j - 1 : Nat) : Int)) (by omega) (by omega) (by omega)) ?_
        refine DL.qf rfl (.yes rfl rfl rfl) rfl rfl (Yld.indexAddrN u22 i3 rfl rfl (by omega)) ?_
        refine DL.q rfl (.yes rfl rfl rfl) rfl rfl rfl (Yld.load p3 rfl (atM (hg3.cell (hc2 (j - 1) (.int .i64 y) (by simp [hy])) (fun h => h)) (fun h => h))) (Mod.drew _ _) ?_
        iterate 2 refine DL.qf rfl (.yes rfl rfl rfl) rfl rfl (Yld.pure rfl) ?_
        refine DL.qf rfl (.yes rfl rfl rfl) rfl rfl (Yld.indexAddrN u22 i3 rfl rfl (by omega)) ?_
        refine DL.q rfl (.yes rfl rfl rfl) rfl rfl rfl (Yld.load p3 rfl (atM (hin _ hg3) (fun h => h))) (Mod.drew _ _) ?_
        refine DL.qf rfl (.yes rfl rfl rfl) rfl rfl (Yld.pure rfl) ?_
        refine DL.p rfl rfl rfl ?_
        refine DL.done ?_
        first | refine RK.condD rfl (fun h43 => ?_) (fun h43 => ?_) | refine RK.condN rfl (fun h43 => ?_) (fun h43 => ?_) | refine RK.cond rfl (fun h43 => ?_) (fun h43 => ?_)
        · have hL : insR L x = L := by unfold insR; rw [hpos, if_pos ⟨by omega, by rw [hy, h43]⟩]
          refine RK.exit rfl ?_
          refine RK.region ?_
          iterate 2 refine RL.p rfl rfl ?_
          refine RL.re (d := 11) rfl rfl (succ_i64 (by have := hv.big; omega)) ?_
          refine RL.p rfl rfl ?_
          refine RL.done ?_
          exact RK.back (ih (i + 1, _) _ ⟨by rw [htk, rise_snoc, hLe, hL]; exact (hr.mod hg3 (fun _ _ h => h)).mod (Mod.drew No _) (fun _ _ h => h), hfr, (hg.trans hg3).trans (Mod.drew _ _), by simp; omega⟩ (by simp; omega)) ⟨rfl, rfl, rfl, trivial⟩
        · have hI : insR L x = L.take j ++ x :: L.drop j := by unfold insR; rw [hpos, if_neg (by rintro ⟨_, h⟩; rw [hy] at h; cases h; exact h43 rfl)]
          have hgr0 : Grow w' w2.drew.drew := hg3.trans (Mod.drew _ _)
          obtain ⟨w9, hw9⟩ : ∃ w9, w9 = w2.drew.drew := ⟨_, rfl⟩
          rw [← hw9]
          have hgr : Grow w' w9 := hw9 ▸ hgr0
          have hgd : Grow w' w9.drew := hgr.trans (Mod.drew _ _)
          refine RK.skip ?_
          refine RK.drawF No [(0, false), (1, false), (2, false), (4, false), (5, false), (6, false), (7, false), (10, false), (11, false), (12, false)] 3 8 [(8, true), (9, true), (13, true), (14, false)] [(3, true), (9, true), (13, true), (14, false)] [] mixed (by kernel_rfl) ?_
          iterate 2 refine DL.p rfl rfl rfl ?_
          refine DL.qf rfl (.free rfl) rfl rfl (Yld.sliceHi u22 i3 (m := j) rfl rfl (by omega)) ?_
          iterate 2 refine DL.p rfl rfl rfl ?_
          refine DL.qf rfl (.free rfl) rfl rfl (Yld.indexAddrN u22 i3 rfl rfl (by omega)) ?_
          refine DL.q rfl (.free rfl) rfl rfl rfl (Yld.load p3 rfl (atM (hin _ hgr) (fun h => h))) (Mod.drew _ _) ?_
          iterate 2 refine DL.p rfl rfl rfl ?_
          refine DL.qf rfl (.free rfl) rfl rfl (Yld.sliceFrom u22 i3 (m := j) rfl rfl hj) ?_
          refine DL.fork ?_ ?_
          · refine DL.op rfl (.free rfl) rfl rfl (Does.append u22 i3 rfl rfl rfl rfl rfl (Row.nil _ _ _) (hhi _ hgd) (allOne_ints _) (by omega)) ?_
            rintro u1 v1 ⟨hr1, hm1, hu1⟩
            have hg1 : Grow w9.drew v1 := hm1.mono (fun b _ e => by simp [Value.ownBlock] at e)
            refine ⟨(Mod.drew _ _).trans hg1, ?_⟩
            refine DL.op rfl (.free rfl) rfl rfl (Does.slice1 u22 i3 rfl rfl rfl rfl rfl) ?_
            rintro _ v2 ⟨b2, rfl, hn2⟩
            refine ⟨((Mod.drew _ _).trans hg1).trans hn2.grow, ?_⟩
            refine DL.op rfl (.free rfl) rfl rfl (Does.append u22 i3 rfl rfl rfl rfl rfl (hr1.mod hn2.grow (fun _ _ h => h)) (Sl.new hn2 1 1 rfl (by omega) (fun h => h)) (rfl) (by omega)) ?_
            rintro u3 v3 ⟨hr3, hm3, hu3⟩
            have hf1 : Fresh w9.drew.heap.size u1 := fun b e => by
                rcases hu1 with h | h <;> rw [h] at e
                · simp [Value.ownBlock] at e
                · cases e; omega
            have hf3 : Fresh w9.drew.heap.size u3 := fun b e => by
                have h1 := hg1.size; have h2 := hn2.size
                rcases hu3 with h | h <;> rw [h] at e
                · exact hf1 b e
                · cases e; omega
            have hg13 : Grow w9.drew v3 := (hg1.trans hn2.grow).then hm3 (fun b hb e => by have := hf1 b e; omega)
            refine ⟨(Mod.drew _ _).trans hg13, ?_⟩
            refine DL.op rfl (.free rfl) rfl rfl (Does.append u22 i3 rfl rfl rfl rfl rfl (hr3) (hlo _ (hgd.trans hg13)) (allOne_ints _) (by omega)) ?_
            rintro u4 v4 ⟨hr4, hm4, hu4⟩
            have hg14 : Grow w9.drew v4 := hg13.then hm4 (fun b hb e => by have := hf3 b e; omega)
            have hf4 : Fresh w.heap.size u4 := fun b e => by
                have h1 := hg13.size; have h2 := (hg.trans hgd).size
                rcases hu4 with h | h <;> rw [h] at e
                · have := hf3 b e; omega
                · cases e; omega
            refine ⟨(Mod.drew _ _).trans hg14, ?_⟩
            refine DL.p rfl rfl rfl ?_
            refine DL.done ?_
            refine RK.inBlock ?_
            refine RK.region ?_
            iterate 2 refine RL.p rfl rfl ?_
            refine RL.re (d := 11) rfl rfl (succ_i64 (by have := hv.big; omega)) ?_
            refine RL.p rfl rfl ?_
            refine RL.done ?_
            exact RK.back (ih (i + 1, u4) _ ⟨by rw [htk, rise_snoc, hLe]; exact laid hj hI hr4, hf4, (hg.trans hgd).trans hg14, by simp; omega⟩ (by simp; omega)) ⟨rfl, rfl, rfl, trivial⟩
          · refine DL.op rfl (.free rfl) rfl rfl (Does.slice1 u22 i3 rfl rfl rfl rfl rfl) ?_
            rintro _ v2 ⟨b2, rfl, hn2⟩
            refine ⟨(Mod.drew _ _).trans hn2.grow, ?_⟩
            refine DL.op rfl (.free rfl) rfl rfl (Does.append u22 i3 rfl rfl rfl rfl rfl (Row.nil _ _ _) (hhi _ (hgd.trans hn2.grow)) (allOne_ints _) (by omega)) ?_
            rintro u1 v1 ⟨hr1, hm1, hu1⟩
            have hg1' : Grow v2 v1 := hm1.mono (fun b _ e => by simp [Value.ownBlock] at e)
            have hg1 : Grow w9.drew v1 := hn2.grow.trans hg1'
            refine ⟨(Mod.drew _ _).trans hg1, ?_⟩
            refine DL.op rfl (.free rfl) rfl rfl (Does.append u22 i3 rfl rfl rfl rfl rfl (hr1) ((Sl.new hn2 1 1 rfl (by omega) (fun h => h)).mod hg1') (rfl) (by omega)) ?_
            rintro u3 v3 ⟨hr3, hm3, hu3⟩
            have hf1 : Fresh w9.drew.heap.size u1 := fun b e => by
                have h2 := hn2.size
                rcases hu1 with h | h <;> rw [h] at e
                · simp [Value.ownBlock] at e
                · cases e; omega
            have hf3 : Fresh w9.drew.heap.size u3 := fun b e => by
                have h1 := hg1.size
                rcases hu3 with h | h <;> rw [h] at e
                · exact hf1 b e
                · cases e; omega
            have hg13 : Grow w9.drew v3 := hg1.then hm3 (fun b hb e => by have := hf1 b e; omega)
            refine ⟨(Mod.drew _ _).trans hg13, ?_⟩
            refine DL.op rfl (.free rfl) rfl rfl (Does.append u22 i3 rfl rfl rfl rfl rfl (hr3) (hlo _ (hgd.trans hg13)) (allOne_ints _) (by omega)) ?_
            rintro u4 v4 ⟨hr4, hm4, hu4⟩
            have hg14 : Grow w9.drew v4 := hg13.then hm4 (fun b hb e => by have := hf3 b e; omega)
            have hf4 : Fresh w.heap.size u4 := fun b e => by
                have h1 := hg13.size; have h2 := (hg.trans hgd).size
                rcases hu4 with h | h <;> rw [h] at e
                · have := hf3 b e; omega
                · cases e; omega
            refine ⟨(Mod.drew _ _).trans hg14, ?_⟩
            refine DL.p rfl rfl rfl ?_
            refine DL.done ?_
            refine RK.inBlock ?_
            refine RK.region ?_
            iterate 2 refine RL.p rfl rfl ?_
            refine RL.re (d := 11) rfl rfl (succ_i64 (by have := hv.big; omega)) ?_
            refine RL.p rfl rfl ?_
            refine RL.done ?_
            exact RK.back (ih (i + 1, u4) _ ⟨by rw [htk, rise_snoc, hLe]; exact laid hj hI hr4, hf4, (hg.trans hgd).trans hg14, by simp; omega⟩ (by simp; omega)) ⟨rfl, rfl, rfl, trivial⟩
    · have hj0 : j = 0 := by omega
      have hpos : pos ltI x L = j := pos_split hj hD (fun z h0 _ => by omega)
      have hI : insR L x = L.take j ++ x :: L.drop j := by unfold insR; rw [hpos, if_neg (by rintro ⟨h, _⟩; omega)]
      iterate 10 refine DL.no rfl (.no rfl rfl rfl rfl) rfl rfl ?_
      refine DL.p rfl rfl rfl ?_
      refine DL.done ?_
      refine RK.condF rfl ?_
      refine RK.exit rfl ?_
      iterate 2 refine RK.seq ?_
      refine RK.drawM No [(0, false), (1, false), (2, false), (3, false), (4, false), (5, false), (6, false), (7, false), (8, false), (9, false), (10, false), (11, false), (12, false), (13, false)] [] mixed (by kernel_rfl) ?_
      iterate 3 refine DL.p rfl rfl rfl ?_
      refine DL.knownF (d := 32) rfl rfl (decide_eq_false h15) ?_
      iterate 10 refine DL.no rfl (.no rfl rfl rfl rfl) rfl rfl ?_
      refine DL.p rfl rfl rfl ?_
      refine DL.done ?_
      obtain ⟨w9, hw9⟩ : ∃ w9, w9 = w2.drew.drew := ⟨_, rfl⟩
      have hgr : Grow w' w9 := hw9 ▸ ((hg2.trans (Mod.drew _ _)).trans (Mod.drew _ _))
      rw [← hw9]
      have hgd : Grow w' w9.drew := hgr.trans (Mod.drew _ _)
      refine RK.condF rfl ?_
      refine RK.skip ?_
      refine RK.drawF No [(0, false), (1, false), (2, false), (4, false), (5, false), (6, false), (7, false), (10, false), (11, false), (12, false)] 3 8 [(8, true), (9, true), (13, true), (14, false)] [(3, true), (9, true), (13, true), (14, false)] [] mixed (by kernel_rfl) ?_
      iterate 2 refine DL.p rfl rfl rfl ?_
      refine DL.qf rfl (.free rfl) rfl rfl (Yld.sliceHi u22 i3 (m := j) rfl rfl (by omega)) ?_
      iterate 2 refine DL.p rfl rfl rfl ?_
      refine DL.qf rfl (.free rfl) rfl rfl (Yld.indexAddrN u22 i3 rfl rfl (by omega)) ?_
      refine DL.q rfl (.free rfl) rfl rfl rfl (Yld.load p3 rfl (atM (hin _ hgr) (fun h => h))) (Mod.drew _ _) ?_
      iterate 2 refine DL.p rfl rfl rfl ?_
      refine DL.qf rfl (.free rfl) rfl rfl (Yld.sliceFrom u22 i3 (m := j) rfl rfl hj) ?_
      refine DL.fork ?_ ?_
      · refine DL.op rfl (.free rfl) rfl rfl (Does.append u22 i3 rfl rfl rfl rfl rfl (Row.nil _ _ _) (hhi _ hgd) (allOne_ints _) (by omega)) ?_
        rintro u1 v1 ⟨hr1, hm1, hu1⟩
        have hg1 : Grow w9.drew v1 := hm1.mono (fun b _ e => by simp [Value.ownBlock] at e)
        refine ⟨(Mod.drew _ _).trans hg1, ?_⟩
        refine DL.op rfl (.free rfl) rfl rfl (Does.slice1 u22 i3 rfl rfl rfl rfl rfl) ?_
        rintro _ v2 ⟨b2, rfl, hn2⟩
        refine ⟨((Mod.drew _ _).trans hg1).trans hn2.grow, ?_⟩
        refine DL.op rfl (.free rfl) rfl rfl (Does.append u22 i3 rfl rfl rfl rfl rfl (hr1.mod hn2.grow (fun _ _ h => h)) (Sl.new hn2 1 1 rfl (by omega) (fun h => h)) (rfl) (by omega)) ?_
        rintro u3 v3 ⟨hr3, hm3, hu3⟩
        have hf1 : Fresh w9.drew.heap.size u1 := fun b e => by
            rcases hu1 with h | h <;> rw [h] at e
            · simp [Value.ownBlock] at e
            · cases e; omega
        have hf3 : Fresh w9.drew.heap.size u3 := fun b e => by
            have h1 := hg1.size; have h2 := hn2.size
            rcases hu3 with h | h <;> rw [h] at e
            · exact hf1 b e
            · cases e; omega
        have hg13 : Grow w9.drew v3 := (hg1.trans hn2.grow).then hm3 (fun b hb e => by have := hf1 b e; omega)
        refine ⟨(Mod.drew _ _).trans hg13, ?_⟩
        refine DL.op rfl (.free rfl) rfl rfl (Does.append u22 i3 rfl rfl rfl rfl rfl (hr3) (hlo _ (hgd.trans hg13)) (allOne_ints _) (by omega)) ?_
        rintro u4 v4 ⟨hr4, hm4, hu4⟩
        have hg14 : Grow w9.drew v4 := hg13.then hm4 (fun b hb e => by have := hf3 b e; omega)
        have hf4 : Fresh w.heap.size u4 := fun b e => by
            have h1 := hg13.size; have h2 := (hg.trans hgd).size
            rcases hu4 with h | h <;> rw [h] at e
            · have := hf3 b e; omega
            · cases e; omega
        refine ⟨(Mod.drew _ _).trans hg14, ?_⟩
        refine DL.p rfl rfl rfl ?_
        refine DL.done ?_
        refine RK.inBlock ?_
        refine RK.region ?_
        iterate 2 refine RL.p rfl rfl ?_
        refine RL.re (d := 11) rfl rfl (succ_i64 (by have := hv.big; omega)) ?_
        refine RL.p rfl rfl ?_
        refine RL.done ?_
        exact RK.back (ih (i + 1, u4) _ ⟨by rw [htk, rise_snoc, hLe]; exact laid hj hI hr4, hf4, (hg.trans hgd).trans hg14, by simp; omega⟩ (by simp; omega)) ⟨rfl, rfl, rfl, trivial⟩
      · refine DL.op rfl (.free rfl) rfl rfl (Does.slice1 u22 i3 rfl rfl rfl rfl rfl) ?_
        rintro _ v2 ⟨b2, rfl, hn2⟩
        refine ⟨(Mod.drew _ _).trans hn2.grow, ?_⟩
        refine DL.op rfl (.free rfl) rfl rfl (Does.append u22 i3 rfl rfl rfl rfl rfl (Row.nil _ _ _) (hhi _ (hgd.trans hn2.grow)) (allOne_ints _) (by omega)) ?_
        rintro u1 v1 ⟨hr1, hm1, hu1⟩
        have hg1' : Grow v2 v1 := hm1.mono (fun b _ e => by simp [Value.ownBlock] at e)
        have hg1 : Grow w9.drew v1 := hn2.grow.trans hg1'
        refine ⟨(Mod.drew _ _).trans hg1, ?_⟩
        refine DL.op rfl (.free rfl) rfl rfl (Does.append u22 i3 rfl rfl rfl rfl rfl (hr1) ((Sl.new hn2 1 1 rfl (by omega) (fun h => h)).mod hg1') (rfl) (by omega)) ?_
        rintro u3 v3 ⟨hr3, hm3, hu3⟩
        have hf1 : Fresh w9.drew.heap.size u1 := fun b e => by
            have h2 := hn2.size
            rcases hu1 with h | h <;> rw [h] at e
            · simp [Value.ownBlock] at e
            · cases e; omega
        have hf3 : Fresh w9.drew.heap.size u3 := fun b e => by
            have h1 := hg1.size
            rcases hu3 with h | h <;> rw [h] at e
            · exact hf1 b e
            · cases e; omega
        have hg13 : Grow w9.drew v3 := hg1.then hm3 (fun b hb e => by have := hf1 b e; omega)
        refine ⟨(Mod.drew _ _).trans hg13, ?_⟩
        refine DL.op rfl (.free rfl) rfl rfl (Does.append u22 i3 rfl rfl rfl rfl rfl (hr3) (hlo _ (hgd.trans hg13)) (allOne_ints _) (by omega)) ?_
        rintro u4 v4 ⟨hr4, hm4, hu4⟩
        have hg14 : Grow w9.drew v4 := hg13.then hm4 (fun b hb e => by have := hf3 b e; omega)
        have hf4 : Fresh w.heap.size u4 := fun b e => by
            have h1 := hg13.size; have h2 := (hg.trans hgd).size
            rcases hu4 with h | h <;> rw [h] at e
            · have := hf3 b e; omega
            · cases e; omega
        refine ⟨(Mod.drew _ _).trans hg14, ?_⟩
        refine DL.p rfl rfl rfl ?_
        refine DL.done ?_
        refine RK.inBlock ?_
        refine RK.region ?_
        iterate 2 refine RL.p rfl rfl ?_
        refine RL.re (d := 11) rfl rfl (succ_i64 (by have := hv.big; omega)) ?_
        refine RL.p rfl rfl ?_
        refine RL.done ?_
        exact RK.back (ih (i + 1, u4) _ ⟨by rw [htk, rise_snoc, hLe]; exact laid hj hI hr4, hf4, (hg.trans hgd).trans hg14, by simp; omega⟩ (by simp; omega)) ⟨rfl, rfl, rfl, trivial⟩
  · have ek : xs.take i = xs := List.take_of_length_le (by omega)
    rw [ek] at hr
    refine RK.exit rfl ?_
    refine RK.seq ?_
    refine RK.region ?_
    iterate 2 refine RL.p rfl rfl ?_
    refine RL.done ?_
    refine RK.ret_of Tryz.func44 (res1 rfl rfl) ?_ _
    exact ⟨_, rfl, hr, hfr, hg⟩
end Go.Proofs.YtffbcfcoddacmaaGreat

