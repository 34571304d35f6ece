import Derived.Test.YtffbcfcoddacmaaGreatGrA
/- real.Rank: an insertion sort of up to twenty. -/
set_option linter.unusedVariables false
set_option linter.unusedSimpArgs false
set_option maxHeartbeats 400000
set_option maxRecDepth 100000
namespace Go.Proofs.YtffbcfcoddacmaaGreat
open Go Go.X

abbrev flts (vs : List Nat) : List Value := vs.map (Value.float .f64)
abbrev nats (xs : List Nat) : List Value := xs.map fun x : Nat => Value.int .i64 (x : Int)
theorem rank1_ok (vs : List Nat) (bx : Nat) (v : Value) (i j a b : Nat) (w : World) (hb : Blk w bx 148 [v]) (hv : Sl No w v 1 vs.length (flts vs)) (hi : vs[i]? = some a) (hj : vs[j]? = some b) (ha : a < 18446744073709551616) (hb' : b < 18446744073709551616) :
    Fx Tryz.prog 136 [.int .i64 i, .int .i64 j, pp bx] w (fun u w' => u = .int .i64 (rankS a b) ∧ Grow w w') := by
  obtain ⟨g, o, c, rfl, _, hin, hc⟩ := hv.elem1 (k := i) (u := .float .f64 a) (by simp [hi])
  have hjn : j < vs.length := (List.getElem?_eq_some_iff.1 hj).1
  refine enter Tryz.func136 rfl rfl rfl _ (Pick.sub (l := [0, 1, 2]) (.cons rfl (.cons rfl (.cons rfl .nil)))) ?_
  refine RK.seq ?_
  refine RK.region ?_
  refine RL.p rfl rfl ?_
  refine RL.done ?_
  refine RK.seq ?_
  refine RK.drawM No [(0, false), (1, false), (2, false), (3, false), (4, false), (5, false), (6, false), (7, false), (8, false), (9, false)] [] mixed (by kernel_rfl) ?_
  refine DL.q rfl (.free rfl) rfl rfl rfl (Yld.load p148 rfl (atM (hb.cell rfl) id)) (Mod.drew _ _) ?_
  refine DL.p rfl rfl rfl ?_
  refine DL.qf rfl (.free rfl) rfl rfl (Yld.indexAddrN u148 i23 rfl rfl (hin)) ?_
  refine DL.q rfl (.free rfl) rfl rfl rfl (Yld.load p23 rfl (atM (hc i (.float .f64 a) (by simp [hi])) id)) (Mod.drew _ _) ?_
  refine DL.q rfl (.free rfl) rfl rfl rfl (Yld.load p148 rfl (atM (hb.cell rfl) id)) (Mod.drew _ _) ?_
  refine DL.p rfl rfl rfl ?_
  refine DL.qf rfl (.free rfl) rfl rfl (Yld.indexAddrN u148 i23 rfl rfl (hjn)) ?_
  refine DL.q rfl (.free rfl) rfl rfl rfl (Yld.load p23 rfl (atM (hc j (.float .f64 b) (by simp [hj])) id)) (Mod.drew _ _) ?_
  iterate 2 refine DL.p rfl rfl rfl ?_
  refine DL.done ?_
  iterate 2 refine RK.seq ?_
  refine RK.region ?_
  refine RL.p rfl rfl ?_
  refine RL.op (.free rfl) rfl rfl (Does.call rfl e125 (no_ok _ _)) ?_
  rintro _ _ ⟨rfl, rfl⟩
  refine RL.p rfl rfl ?_
  refine RL.op (.free rfl) rfl rfl (Does.call rfl e125 (no_ok _ _)) ?_
  rintro _ _ ⟨rfl, rfl⟩
  refine RL.q (.free rfl) rfl rfl (Yld.neqBool u4 rfl rfl) ?_
  refine RL.done ?_
  first | refine RK.condD rfl (fun h20 => ?_) (fun h20 => ?_) | refine RK.condN rfl (fun h20 => ?_) (fun h20 => ?_) | refine RK.cond rfl (fun h20 => ?_) (fun h20 => ?_)
  · iterate 2 refine RK.seq ?_
    refine RK.region ?_
    refine RL.p rfl rfl ?_
    refine RL.op (.free rfl) rfl rfl (Does.call rfl e125 (no_ok _ _)) ?_
    rintro _ _ ⟨rfl, rfl⟩
    refine RL.done ?_
    first | refine RK.condD rfl (fun h22 => ?_) (fun h22 => ?_) | refine RK.condN rfl (fun h22 => ?_) (fun h22 => ?_) | refine RK.cond rfl (fun h22 => ?_) (fun h22 => ?_)
    · refine RK.seq ?_
      refine RK.region ?_
      refine RL.p rfl rfl ?_
      refine RL.done ?_
      refine RK.ret_of Tryz.func136 (res1 rfl rfl) ?_ _
      exact ⟨_, rfl, congrArg _ (by unfold rankS; simp_all), Mod.drew _ _⟩
    · refine RK.skip ?_
      refine RK.seq ?_
      refine RK.region ?_
      refine RL.p rfl rfl ?_
      refine RL.done ?_
      refine RK.ret_of Tryz.func136 (res1 rfl rfl) ?_ _
      exact ⟨_, rfl, congrArg _ (by unfold rankS; simp_all), Mod.drew _ _⟩
  · refine RK.skip ?_
    refine RK.seq ?_
    refine RK.region ?_
    refine RL.p rfl rfl ?_
    refine RL.op (.free rfl) rfl rfl (Does.call rfl e138 (key_ok _ hb' _)) ?_
    rintro _ _ ⟨rfl, rfl⟩
    refine RL.p rfl rfl ?_
    refine RL.op (.free rfl) rfl rfl (Does.call rfl e138 (key_ok _ ha _)) ?_
    rintro _ _ ⟨rfl, rfl⟩
    refine RL.op (.free rfl) rfl rfl (Does.call rfl e137 (compare_ok _ _ _)) ?_
    rintro _ _ ⟨rfl, rfl⟩
    refine RL.p rfl rfl ?_
    refine RL.done ?_
    refine RK.ret_of Tryz.func136 (res1 rfl rfl) ?_ _
    exact ⟨_, rfl, congrArg _ (by unfold rankS; simp_all), Mod.drew _ _⟩

/-! ### the sort, in plain words -/
section
variable {α : Type}
def pos (lt : α → α → Bool) (x : α) (L : List α) : Nat := L.length - (L.reverse.takeWhile (lt x)).length
def insE (lt : α → α → Bool) (L : List α) (x : α) : List α := L.take (pos lt x L) ++ x :: L.drop (pos lt x L)
def isort (lt : α → α → Bool) (xs : List α) : List α := xs.foldl (insE lt) []
theorem insE_split {lt : α → α → Bool} {x : α} {A D : List α} (hD : ∀ y ∈ D, lt x y = true) (hA : ∀ A' y, A = A' ++ [y] → lt x y = false) : insE lt (A ++ D) x = A ++ x :: D := by
  have h1 : (A ++ D).reverse.takeWhile (lt x) = D.reverse := by
    rw [List.reverse_append, List.takeWhile_append_of_pos (by intro y hy; exact hD y (by simpa using hy))]
    have : A.reverse.takeWhile (lt x) = [] := by
      cases hr : A.reverse with
      | nil => rfl
      | cons y l =>
        have : A = l.reverse ++ [y] := by have := congrArg List.reverse hr; simpa using this
        simp [List.takeWhile, hA _ _ this]
    rw [this, List.append_nil]
  have h2 : pos lt x (A ++ D) = A.length := by unfold pos; rw [h1]; simp
  unfold insE
  rw [h2]
  simp
theorem insE_len (lt : α → α → Bool) (L : List α) (x : α) : (insE lt L x).length = L.length + 1 := by
  unfold insE
  simp
  have : pos lt x L ≤ L.length := Nat.sub_le _ _
  omega
theorem isort_snoc (lt : α → α → Bool) (xs : List α) (x : α) : isort lt (xs ++ [x]) = insE lt (isort lt xs) x := by simp [isort]
theorem isort_len (lt : α → α → Bool) (xs : List α) : (isort lt xs).length = xs.length := by
  have : ∀ xs L : List α, (xs.foldl (insE lt) L).length = xs.length + L.length := by
    intro xs
    induction xs with
    | nil => intro L; simp
    | cons x xs ih => intro L; simp only [List.foldl_cons, ih, insE_len, List.length_cons]; omega
  unfold isort
  simpa using this xs []
theorem insE_perm (lt : α → α → Bool) (L : List α) (x : α) : List.Perm (insE lt L x) (L ++ [x]) := by
  unfold insE
  refine (List.perm_middle).trans ?_
  rw [List.take_append_drop]
  exact (List.perm_append_singleton x L).symm
theorem isort_perm (lt : α → α → Bool) (xs : List α) : List.Perm (isort lt xs) xs := by
  have : ∀ xs L : List α, List.Perm (xs.foldl (insE lt) L) (L ++ xs) := by
    intro xs
    induction xs with
    | nil => intro L; simp
    | cons x xs ih =>
      intro L
      simp only [List.foldl_cons]
      refine (ih _).trans ?_
      have := (insE_perm lt L x).append_right xs
      simpa using this
  unfold isort
  simpa using this xs []
theorem swap_eq (A B : List α) (x y : α) : ((A ++ y :: x :: B).set (A.length + 1) y).set A.length x = A ++ x :: y :: B := by
  induction A with
  | nil => rfl
  | cons a A ih => simp
theorem SetAt.of : ∀ {l : List Value} {i : Nat} {v : Value}, i < l.length → SetAt l i v (l.set i v)
  | u :: l, 0, v, _ => .z
  | u :: l, i + 1, v, h => .s (SetAt.of (by simpa using h))
end
/-- Of two places: does the one's value stand ahead? -/
def ahead (vs : List Nat) (x y : Nat) : Bool := decide (rankS (vs.getD x 0) (vs.getD y 0) < 0)
theorem insSort_ok (vs : List Nat) (hlt : ∀ v ∈ vs, v < 18446744073709551616) (xs : List Nat) (hxs : ∀ x ∈ xs, x < vs.length) (hm : xs.length < 1000) (bx g : Nat) (v : Value) (w : World) (hg : Blk w g 3 (nats xs)) (hb : Blk w bx 148 [v]) (hv : Sl (· = g) w v 1 vs.length (flts vs)) (hne : bx ≠ g) :
    Fx Tryz.prog 204 [.slice (some ⟨g, 0, none⟩) xs.length xs.length, .int .i64 0, .int .i64 xs.length, .func (.func 136) #[] #[pp bx]] w
      (fun u w' => u = .tuple #[] ∧ Blk w' g 3 (nats (isort (ahead vs) xs)) ∧ Mod (· = g) w w') := by
  have hget : ∀ x, x < vs.length → vs[x]? = some (vs.getD x 0) ∧ vs.getD x 0 < 18446744073709551616 := fun x hx => by
    have h1 : vs[x]? = some (vs[x]) := List.getElem?_eq_getElem hx
    have h2 : vs.getD x 0 = vs[x] := by simp [List.getD, h1]
    rw [h2]
    exact ⟨h1, hlt _ (List.getElem_mem hx)⟩
  refine enter Tryz.func204 rfl rfl rfl _ (Pick.sub (l := [0, 1, 2, 3]) (.cons rfl (.cons rfl (.cons rfl (.cons rfl .nil))))) ?_
  refine RK.seq ?_
  refine RK.region ?_
  iterate 2 refine RL.p rfl rfl ?_
  refine RL.re (d := 11) rfl rfl (add_i64 (z := ((1 : Nat) : Int)) rfl (by omega) (by omega)) ?_
  refine RL.p rfl rfl ?_
  refine RL.done ?_
  refine RK.block ?_
  refine RK.loop (fun i : Nat => [(0, .slice (some ⟨g, 0, none⟩) xs.length xs.length), (1, .int .i64 0), (2, .int .i64 xs.length), (3, .func (.func 136) #[] #[pp bx]), (8, .int .i64 i)]) (fun i w' => Blk w' g 3 (nats (isort (ahead vs) (xs.take i) ++ xs.drop i)) ∧ Mod (· = g) w w' ∧ 1 ≤ i ∧ (i ≤ xs.length ∨ i = 1)) (fun i => xs.length - i) 1 ⟨rfl, rfl, rfl, rfl, rfl, trivial⟩ ⟨by cases xs with | nil => exact hg | cons x xs => exact hg, Mod.refl _ _, by omega, .inr rfl⟩ (fun i w' hI ih => ?_)
  obtain ⟨hd, hmod, hi1, hi⟩ := hI
  iterate 2 refine RK.seq ?_
  refine RK.region ?_
  iterate 3 refine RL.p rfl rfl ?_
  refine RL.done ?_
  first | refine RK.condD rfl (fun h14 => ?_) (fun h14 => ?_) | refine RK.condN rfl (fun h14 => ?_) (fun h14 => ?_) | refine RK.cond rfl (fun h14 => ?_) (fun h14 => ?_)
  · obtain ⟨x, hx⟩ : ∃ x, xs[i]? = some x := ⟨xs[i]'(by omega), List.getElem?_eq_getElem (by omega)⟩
    obtain ⟨R, hR⟩ : ∃ R, xs.drop i = x :: R := ⟨xs.drop (i + 1), by rw [List.drop_eq_getElem_cons (by omega)]; congr 1; exact (List.getElem?_eq_some_iff.1 hx).2⟩
    have hxn : x < vs.length := hxs x (List.mem_of_getElem? hx)
    have htk : xs.take (i + 1) = xs.take i ++ [x] := by rw [List.take_succ_eq_append_getElem (by omega)]; congr 2; exact (List.getElem?_eq_some_iff.1 hx).2
    have hdr : xs.drop (i + 1) = R := by have := congrArg List.tail hR; simpa using this
    have hLn : ∀ y ∈ isort (ahead vs) (xs.take i), y < vs.length := fun y hy => hxs y (List.mem_of_mem_take ((isort_perm _ _).mem_iff.1 hy))
    have hLl : (isort (ahead vs) (xs.take i)).length = i := by rw [isort_len]; simp; omega
    have hlen : i + R.length + 1 = xs.length := by have := congrArg List.length hR; simp at this; omega
    rw [hR] at hd
    generalize hLe : isort (ahead vs) (xs.take i) = L at *
    refine RK.skip ?_
    refine RK.seq ?_
    refine RK.block ?_
    refine RK.seq ?_
    refine RK.region ?_
    iterate 2 refine RL.p rfl rfl ?_
    refine RL.done ?_
    refine RK.block ?_
    refine RK.loop (fun s : List Nat × List Nat => [(0, .slice (some ⟨g, 0, none⟩) xs.length xs.length), (1, .int .i64 0), (2, .int .i64 xs.length), (3, .func (.func 136) #[] #[pp bx]), (8, .int .i64 i), (9, .int .i64 s.1.length)]) (fun s w' => Blk w' g 3 (nats (s.1 ++ x :: s.2 ++ R)) ∧ Mod (· = g) w w' ∧ s.1 ++ s.2 = L ∧ ∀ y ∈ s.2, ahead vs x y = true) (fun s => s.1.length) (L, []) ⟨rfl, rfl, rfl, rfl, rfl, by rw [hLl]; rfl, trivial⟩ ⟨by simpa using hd, hmod, by simp, by simp⟩ (fun s w'' hI2 ih2 => ?_)
    obtain ⟨A, D⟩ := s
    obtain ⟨hd2, hmod2, hAD, hD⟩ := hI2
    simp only at hd2 hmod2 hAD hD
    have hAl : A.length + D.length = i := by rw [← hLl, ← hAD]; simp
    refine RK.re (d := 9) rfl (v' := .int .i64 (A.length : Int)) rfl ?_
    iterate 2 refine RK.seq ?_
    refine RK.drawM No [(0, false), (1, false), (2, false), (3, false), (4, false), (5, false), (6, false), (7, false), (8, false), (9, false), (10, false), (11, false), (12, false), (13, false), (14, true), (15, false), (16, false)] [] mixed (by kernel_rfl) ?_
    iterate 4 refine DL.p rfl rfl rfl ?_
    first | refine DL.splitD (d := 21) rfl rfl (fun h20 => ?_) (fun h20 => ?_) | refine DL.splitN (d := 21) rfl rfl (fun h20 => ?_) (fun h20 => ?_) | refine DL.split (d := 21) rfl rfl (fun h20 => ?_) (fun h20 => ?_)
    · obtain ⟨A', y, rfl⟩ : ∃ A' y, A = A' ++ [y] := ⟨A.dropLast, A.getLast (by intro h; subst h; simp at h20), (List.dropLast_concat_getLast _).symm⟩
      have hyn : y < vs.length := hLn y (by rw [← hAD]; simp)
      have hAl' : (A' ++ [y]).length = A'.length + 1 := by simp
      have e1 : (nats (A' ++ [y] ++ x :: D ++ R))[(A' ++ [y]).length]? = some (.int .i64 (x : Int)) := by simp
      have e2 : (nats (A' ++ [y] ++ x :: D ++ R))[A'.length]? = some (.int .i64 (y : Int)) := by simp
      iterate 3 refine DL.qf rfl (.yes rfl rfl rfl) rfl rfl (Yld.pure rfl) ?_
      refine DL.qf rfl (.yes rfl rfl rfl) rfl rfl (Yld.indexAddrN u22 i3 rfl rfl (by omega)) ?_
      refine DL.q rfl (.yes rfl rfl rfl) rfl rfl rfl (Yld.load p3 rfl (atM (hd2.at1 e1) (id))) (Mod.drew _ _) ?_
      iterate 3 refine DL.qf rfl (.yes rfl rfl rfl) rfl rfl (Yld.pure rfl) ?_
      refine DL.re (d := 29) rfl rfl (sub_i64 (z := (A'.length : Int)) (by simp) (by omega) (by omega)) ?_
      refine DL.qf rfl (.yes rfl rfl rfl) rfl rfl (Yld.indexAddrN u22 i3 rfl rfl (by omega)) ?_
      refine DL.q rfl (.yes rfl rfl rfl) rfl rfl rfl (Yld.load p3 rfl (atM (hd2.at1 e2) (id))) (Mod.drew _ _) ?_
      refine DL.op rfl (.yes rfl rfl rfl) rfl rfl (Does.callv rfl rfl e136 (rank1_ok vs bx v x y _ _ _ ((hb.mod hmod2 hne).mod (Mod.drew No _) id) ((hv.mod (hmod2.then (Mod.drew No _) (fun _ _ h => h.elim))).noM) (hget x hxn).1 (hget y hyn).1 (hget x hxn).2 (hget y hyn).2)) ?_
      rintro _ w3 ⟨rfl, hg3⟩
      refine ⟨(Mod.drew _ _).trans hg3, ?_⟩
      refine DL.qf rfl (.yes rfl rfl rfl) rfl rfl (Yld.pure rfl) ?_
      refine DL.p rfl rfl rfl ?_
      refine DL.done ?_
      first | refine RK.condD rfl (fun h34 => ?_) (fun h34 => ?_) | refine RK.condN rfl (fun h34 => ?_) (fun h34 => ?_) | refine RK.cond rfl (fun h34 => ?_) (fun h34 => ?_)
      · have hd3 := hd2.mod ((Mod.drew No _).trans hg3) id
        have hmod3 := hmod2.then ((Mod.drew No _).trans hg3) (fun _ _ h => h.elim)
        refine RK.skip ?_
        refine RK.seq ?_
        refine RK.block ?_
        refine RK.drawM No [(0, false), (1, false), (2, false), (3, false), (4, false), (5, false), (6, false), (7, false), (8, false), (9, false), (10, false), (11, false), (12, false), (13, false), (14, false), (15, true), (16, false), (17, true)] [15, 17] mixed (by kernel_rfl) ?_
        iterate 5 refine DL.p rfl rfl rfl ?_
        refine DL.re (d := 41) rfl rfl (sub_i64 (z := (A'.length : Int)) (by simp) (by omega) (by omega)) ?_
        iterate 3 refine DL.p rfl rfl rfl ?_
        refine DL.re (d := 44) rfl rfl (sub_i64 (z := (A'.length : Int)) (by simp) (by omega) (by omega)) ?_
        refine DL.qf rfl (.free rfl) rfl rfl (Yld.indexAddrN u22 i3 rfl rfl (by omega)) ?_
        refine DL.q rfl (.free rfl) rfl rfl rfl (Yld.load p3 rfl (atM (hd3.at1 e2) (id))) (Mod.drew _ _) ?_
        iterate 2 refine DL.p rfl rfl rfl ?_
        refine DL.qf rfl (.free rfl) rfl rfl (Yld.indexAddrN u22 i3 rfl rfl (by omega)) ?_
        refine DL.q rfl (.free rfl) rfl rfl rfl (Yld.load p3 rfl (atM (hd3.at1 e1) (id))) (Mod.drew _ _) ?_
        refine DL.qf rfl (.free rfl) rfl rfl (Yld.indexAddrN u22 i3 rfl rfl (by omega)) ?_
        refine DL.opT rfl (.free rfl) rfl rfl (Does.store i3 rfl rfl rfl (hd3.mod (Mod.drew No _) id) (SetAt.of (by simp))) ?_
        rintro _ w4 ⟨hd4, hm4, _⟩
        refine DL.qf rfl (.free rfl) rfl rfl (Yld.indexAddrN u22 i3 rfl rfl (by omega)) ?_
        refine DL.opT rfl (.free rfl) rfl rfl (Does.store i3 rfl rfl rfl hd4 (SetAt.of (by simp))) ?_
        rintro _ w5 ⟨hd5, hm5, _⟩
        have h5 : ((nats (A' ++ [y] ++ x :: D ++ R)).set (0 + (A' ++ [y]).length * 1) (.int .i64 (y : Int))).set (0 + A'.length * 1) (.int .i64 (x : Int)) = nats (A' ++ x :: (y :: D) ++ R) := by simp [nats]
        refine DL.done ?_
        refine RK.inBlock ?_
        refine RK.region ?_
        iterate 2 refine RL.p rfl rfl ?_
        refine RL.re (d := 36) rfl rfl (sub_i64 (z := (A'.length : Int)) (by simp) (by omega) (by omega)) ?_
        refine RL.p rfl rfl ?_
        refine RL.done ?_
        exact RK.back (ih2 (A', y :: D) _ ⟨h5 ▸ hd5, (hmod3.then (Mod.drew No _) (fun _ _ h => h.elim)).trans (hm4.trans hm5), by simpa using hAD, by intro z hz; simp at hz; rcases hz with rfl | hz; exact decide_eq_true h34; exact hD z hz⟩ (by simp)) ⟨rfl, rfl, rfl, rfl, rfl, rfl, trivial⟩
      · have hfin := insE_split (lt := ahead vs) (x := x) (A := A' ++ [y]) (D := D) hD (fun A2 y2 h => by obtain ⟨rfl, h3⟩ := List.append_inj' h rfl; cases h3; exact decide_eq_false h34)
        refine RK.exit rfl ?_
        refine RK.inBlock ?_
        refine RK.region ?_
        iterate 2 refine RL.p rfl rfl ?_
        refine RL.re (d := 16) rfl rfl (succ_i64 (by omega)) ?_
        refine RL.p rfl rfl ?_
        refine RL.done ?_
        exact RK.back (ih (i + 1) _ ⟨by rw [htk, isort_snoc, hLe, ← hAD, hfin, hdr]; exact hd2.mod ((Mod.drew No _).trans hg3) id, hmod2.then ((Mod.drew No _).trans hg3) (fun _ _ h => h.elim), by omega, .inl (by omega)⟩ (by omega)) ⟨rfl, rfl, rfl, rfl, rfl, trivial⟩
    · have hA0 : A = [] := List.eq_nil_of_length_eq_zero (by omega)
      subst hA0
      have hfin := insE_split (lt := ahead vs) (x := x) (A := []) (D := D) hD (fun A2 y2 h => by simp at h)
      iterate 10 refine DL.no rfl (.no rfl rfl rfl rfl) rfl rfl ?_
      refine DL.lno rfl (.no rfl rfl rfl rfl) rfl rfl ?_
      refine DL.no rfl (.no rfl rfl rfl rfl) rfl rfl ?_
      refine DL.p rfl rfl rfl ?_
      refine DL.done ?_
      refine RK.condF rfl ?_
      refine RK.exit rfl ?_
      refine RK.inBlock ?_
      refine RK.region ?_
      iterate 2 refine RL.p rfl rfl ?_
      refine RL.re (d := 16) rfl rfl (succ_i64 (by omega)) ?_
      refine RL.p rfl rfl ?_
      refine RL.done ?_
      exact RK.back (ih (i + 1) _ ⟨by rw [htk, isort_snoc, hLe, ← hAD, hfin, hdr]; exact hd2.mod (Mod.drew No _) id, hmod2.then (Mod.drew No _) (fun _ _ h => h.elim), by omega, .inl (by omega)⟩ (by omega)) ⟨rfl, rfl, rfl, rfl, rfl, trivial⟩
  · refine RK.exit rfl ?_
    refine RK.end_of Tryz.func204 (res0 rfl) ?_
    exact ⟨_, rfl, rfl, by have h1 : xs.take i = xs := List.take_of_length_le (by omega); have h2 : xs.drop i = [] := List.drop_eq_nil_of_le (by omega); rw [h1, h2, List.append_nil] at hd; exact hd, hmod⟩
end Go.Proofs.YtffbcfcoddacmaaGreat

/- real.Rank; slices.Clone, Equal at labels; alerts searched. -/
set_option linter.unusedVariables false
set_option linter.unusedSimpArgs false
set_option maxHeartbeats 400000
set_option maxRecDepth 100000
namespace Go.Proofs.YtffbcfcoddacmaaGreat
open Go Go.X

theorem stable_ok (vs : List Nat) (hlt : ∀ v ∈ vs, v < 18446744073709551616) (xs : List Nat) (hxs : ∀ x ∈ xs, x < vs.length) (hm : xs.length < 20) (bx g : Nat) (v : Value) (w : World) (hg : Blk w g 3 (nats xs)) (hb : Blk w bx 148 [v]) (hv : Sl (· = g) w v 1 vs.length (flts vs)) (hne : bx ≠ g) :
    Fx Tryz.prog 169 [.slice (some ⟨g, 0, none⟩) xs.length xs.length, .int .i64 xs.length, .func (.func 136) #[] #[pp bx]] w
      (fun u w' => u = .tuple #[] ∧ Blk w' g 3 (nats (isort (ahead vs) xs)) ∧ Mod (· = g) w w') := by
  refine enter Tryz.func169 rfl rfl rfl _ (Pick.sub (l := [0, 1, 2]) (.cons rfl (.cons rfl (.cons rfl .nil)))) ?_
  refine RK.seq ?_
  refine RK.region ?_
  refine RL.p rfl rfl ?_
  refine RL.done ?_
  refine RK.seq ?_
  refine RK.region ?_
  iterate 3 refine RL.p rfl rfl ?_
  refine RL.done ?_
  refine RK.seq ?_
  refine RK.block ?_
  refine RK.loop (fun _ : Unit => [(0, .slice (some ⟨g, 0, none⟩) xs.length xs.length), (1, .int .i64 xs.length), (2, .func (.func 136) #[] #[pp bx]), (6, .int .i64 20), (7, .int .i64 0), (8, .int .i64 20)]) (fun _ w' => w = w') (fun _ => 0) () ⟨rfl, rfl, rfl, rfl, rfl, rfl, trivial⟩ rfl (fun _ w' hI ih => ?_)
  subst hI
  iterate 2 refine RK.seq ?_
  refine RK.region ?_
  iterate 3 refine RL.p rfl rfl ?_
  refine RL.done ?_
  refine RK.condF (hcF rfl (decide_eq_false (by omega))) ?_
  refine RK.exit rfl ?_
  refine RK.seq ?_
  refine RK.region ?_
  iterate 4 refine RL.p rfl rfl ?_
  refine RL.op (.free rfl) rfl rfl (Does.call rfl e204 (insSort_ok vs hlt xs hxs (by omega) bx g v _ hg hb hv hne)) ?_
  rintro _ w2 ⟨rfl, hg2, hm2⟩
  refine RL.done ?_
  refine RK.block ?_
  refine RK.loop (fun _ : Unit => [(1, .int .i64 xs.length), (6, .int .i64 20)]) (fun _ w' => w2 = w') (fun _ => 0) () ⟨rfl, rfl, trivial⟩ rfl (fun _ w' hI ih => ?_)
  subst hI
  iterate 2 refine RK.seq ?_
  refine RK.region ?_
  iterate 3 refine RL.p rfl rfl ?_
  refine RL.done ?_
  refine RK.condF (hcF rfl (decide_eq_false (by omega))) ?_
  refine RK.exit rfl ?_
  refine RK.end_of Tryz.func169 (res0 rfl) ?_
  exact ⟨_, rfl, rfl, hg2, hm2⟩
theorem sortStable_ok (vs : List Nat) (hlt : ∀ v ∈ vs, v < 18446744073709551616) (xs : List Nat) (m : Nat) (hxm : xs.length = m) (hxs : ∀ x ∈ xs, x < vs.length) (hm : xs.length < 20) (bx g : Nat) (v : Value) (w : World) (hg : Blk w g 3 (nats xs)) (hb : Blk w bx 148 [v]) (hv : Sl (· = g) w v 1 vs.length (flts vs)) (hne : bx ≠ g) :
    Fx Tryz.prog 135 [.slice (some ⟨g, 0, none⟩) m m, .func (.func 136) #[] #[pp bx]] w
      (fun u w' => u = .tuple #[] ∧ Blk w' g 3 (nats (isort (ahead vs) xs)) ∧ Mod (· = g) w w') := by
  subst hxm
  refine enter Tryz.func135 rfl rfl rfl _ (Pick.sub (l := [0, 1]) (.cons rfl (.cons rfl .nil))) ?_
  refine RK.region ?_
  iterate 2 refine RL.p rfl rfl ?_
  refine RL.q (.free rfl) rfl rfl (Yld.lenSl u22 rfl) ?_
  refine RL.p rfl rfl ?_
  refine RL.op (.free rfl) rfl rfl (Does.call rfl e169 (stable_ok vs hlt xs hxs hm bx g v _ hg hb hv hne)) ?_
  rintro _ w2 ⟨rfl, hg2, hm2⟩
  refine RL.done ?_
  refine RK.end_of Tryz.func135 (res0 rfl) ?_
  exact ⟨_, rfl, rfl, hg2, hm2⟩
/-- The places, those of the greatest values first. -/
def rankOf (vs : List Nat) : List Nat := isort (ahead vs) (List.range vs.length)
theorem rankOf_len (vs : List Nat) : (rankOf vs).length = vs.length := by simp [rankOf, isort_len]
theorem set_fill (k n : Nat) (h : k < n) : (nats (List.range k) ++ List.replicate (n - k) (Value.int .i64 0)).set k (.int .i64 (k : Int)) = nats (List.range (k + 1)) ++ List.replicate (n - (k + 1)) (Value.int .i64 0) := by
  obtain ⟨m, rfl⟩ : ∃ m, n = k + 1 + m := ⟨n - (k + 1), by omega⟩
  have e1 : k + 1 + m - k = m + 1 := by omega
  have e2 : k + 1 + m - (k + 1) = m := by omega
  rw [e1, e2, List.replicate_succ]
  simp [List.range_succ]
theorem rank_ok (M : Nat → Prop) (vs : List Nat) (hlt : ∀ v ∈ vs, v < 18446744073709551616) (hm : vs.length < 20) (v : Value) (w : World) (hv : Sl M w v 1 vs.length (flts vs)) :
    Fx Tryz.prog 94 [v] w (fun u w' => ∃ g, u = .slice (some ⟨g, 0, none⟩) vs.length vs.length ∧ Blk w' g 3 (nats (rankOf vs)) ∧ w.heap.size ≤ g ∧ Grow w w') := by
  obtain ⟨ad, c, rfl⟩ := hv.shape
  refine enter Tryz.func94 rfl rfl rfl _ (Pick.sub (l := [0]) (.cons rfl .nil)) ?_
  refine RK.seq ?_
  refine RK.region ?_
  refine RL.op (.free rfl) rfl rfl (Does.box rfl) ?_
  rintro _ w1 ⟨bx, rfl, hbx⟩
  refine RL.p rfl rfl ?_
  refine RL.done ?_
  refine RK.seq ?_
  refine RK.region ?_
  refine RL.q (.free rfl) rfl rfl (Yld.load p148 rfl (at1 (hbx.blk.cell rfl))) ?_
  refine RL.q (.free rfl) rfl rfl (Yld.lenSl u148 rfl) ?_
  refine RL.op (.free rfl) rfl rfl (Does.mkSlice u22 i3 rfl rfl rfl (by omega) (by omega)) ?_
  rintro _ w2 ⟨g, rfl, hng⟩
  have hne : bx ≠ g := by have := hng.at_; have := hbx.at_; have := hbx.size; omega
  have hgw : w.heap.size ≤ g := by have := hng.at_; have := hbx.size; omega
  have hvg : Sl (· = g) w (.slice ad vs.length c) 1 vs.length (flts vs) := hv.noM.off (by omega) (fun b hb e => by have e' : b = g := e; omega)
  refine RL.p rfl rfl ?_
  refine RL.done ?_
  iterate 2 refine RK.seq ?_
  refine RK.region ?_
  refine RL.p rfl rfl ?_
  refine RL.q (.free rfl) rfl rfl (Yld.lenSl u22 rfl) ?_
  refine RL.p rfl rfl ?_
  refine RL.done ?_
  refine RK.block ?_
  refine RK.loop (fun k : Nat => [(1, pp bx), (3, .slice (some ⟨g, 0, none⟩) vs.length vs.length), (9, .int .i64 vs.length), (10, .int .i64 k)]) (fun k w' => Blk w' g 3 (nats (List.range k) ++ List.replicate (vs.length - k) (Value.int .i64 0)) ∧ Mod (· = g) w2 w' ∧ k ≤ vs.length) (fun k => vs.length - k) 0 ⟨rfl, rfl, rfl, rfl, trivial⟩ ⟨hng.blk, Mod.refl _ _, by omega⟩ (fun k w' hI ih => ?_)
  obtain ⟨hb, hm2, hk⟩ := hI
  refine RK.seq ?_
  refine RK.region ?_
  refine RL.p rfl rfl ?_
  refine RL.done ?_
  refine RK.seq ?_
  first | refine RK.condD rfl (fun h11 => ?_) (fun h11 => ?_) | refine RK.condN rfl (fun h11 => ?_) (fun h11 => ?_) | refine RK.cond rfl (fun h11 => ?_) (fun h11 => ?_)
  · refine RK.skip ?_
    refine RK.seq ?_
    refine RK.block ?_
    refine RK.seq ?_
    refine RK.region ?_
    iterate 2 refine RL.p rfl rfl ?_
    refine RL.done ?_
    refine RK.region ?_
    iterate 3 refine RL.p rfl rfl ?_
    refine RL.q (.free rfl) rfl rfl (Yld.indexAddrN u22 i3 rfl rfl (by omega)) ?_
    refine RL.op' (.free rfl) rfl (Does.store i3 rfl rfl rfl hb (SetAt.of (by simp; omega))) ?_
    rintro _ w3 ⟨hb3, hm3, _⟩
    refine RL.done ?_
    refine RK.inBlock ?_
    refine RK.region ?_
    refine RL.p rfl rfl ?_
    refine RL.re (d := 17) rfl rfl (succ_i64 (by omega)) ?_
    refine RL.p rfl rfl ?_
    refine RL.done ?_
    exact RK.back (ih (k + 1) _ ⟨by rw [← set_fill k _ (by omega)]; simpa using hb3, hm2.trans hm3, by omega⟩ (by omega)) ⟨rfl, rfl, rfl, rfl, trivial⟩
  · have ek : k = vs.length := by omega
    subst ek
    have hb2 : Blk w' g 3 (nats (List.range vs.length)) := by simpa using hb
    refine RK.exit rfl ?_
    refine RK.seq ?_
    refine RK.region ?_
    iterate 2 refine RL.p rfl rfl ?_
    refine RL.op (.free rfl) rfl rfl (Does.call rfl e135 (sortStable_ok vs hlt (List.range vs.length) vs.length (by simp) (fun x hx => List.mem_range.1 hx) (by simpa using hm) bx g _ _ hb2 ((hbx.blk.mod hng.grow (fun h => h)).mod hm2 hne) (hvg.mod ((Mod.any' (hbx.grow.trans hng.grow)).trans hm2)) hne)) ?_
    rintro _ w4 ⟨rfl, hb4, hm4⟩
    refine RL.done ?_
    refine RK.seq ?_
    refine RK.region ?_
    iterate 2 refine RL.p rfl rfl ?_
    refine RL.done ?_
    refine RK.ret_of Tryz.func94 (res1 rfl rfl) ?_ _
    exact ⟨_, rfl, g, rfl, hb4, hgw, (hbx.grow.trans hng.grow).then (hm2.trans hm4) (fun x hx e => by have e' : x = g := e; omega)⟩
end Go.Proofs.YtffbcfcoddacmaaGreat

/- slices.Clone, Equal at labels; alerts searched; numbers held against numbers. -/
set_option linter.unusedVariables false
set_option linter.unusedSimpArgs false
set_option maxHeartbeats 400000
set_option maxRecDepth 100000
namespace Go.Proofs.YtffbcfcoddacmaaGreat
open Go Go.X

theorem cloneL_ok (M : Nat → Prop) (ls : List Lab) (v : Value) (w : World) (hv : SlL M w v ls) (hb : ls.length ≤ 1000) :
    Fx Tryz.prog 80 [v] w (fun u w' => Row w' 46 2 u ls.length (ls.flatMap labC) ∧ Fresh w.heap.size u ∧ Grow w w') := by
  obtain ⟨ad, c, b, o, rfl, hf⟩ := hv.open
  refine enter Tryz.func80 rfl rfl rfl _ (Pick.sub (l := [0]) (.cons rfl .nil)) ?_
  refine RK.seq ?_
  refine RK.region ?_
  refine RL.p rfl rfl ?_
  refine RL.done ?_
  iterate 2 refine RK.seq ?_
  refine RK.region ?_
  refine RL.p rfl rfl ?_
  refine RL.q (.free rfl) rfl rfl (Yld.eqNil u26 rfl rfl) ?_
  refine RL.done ?_
  first | refine RK.condD rfl (fun h4 => ?_) (fun h4 => ?_) | refine RK.condN rfl (fun h4 => ?_) (fun h4 => ?_) | refine RK.cond rfl (fun h4 => ?_) (fun h4 => ?_)
  · refine RK.seq ?_
    refine RK.region ?_
    refine RL.p rfl rfl ?_
    refine RL.done ?_
    refine RK.ret_of Tryz.func80 (res1 rfl rfl) ?_ _
    exact ⟨_, rfl, by cases ad with | none => (have h0 : ls.length = 0 := by (rcases Nat.eq_zero_or_pos ls.length with h | h; exact h; exact absurd (hf h).1 (by simp))); have : ls = [] := List.eq_nil_of_length_eq_zero h0; subst this; exact ⟨Row.nil _ _ _, fun b hb => by simp [Value.ownBlock] at hb, Mod.refl _ _⟩ | some a => simp at h4⟩
  · refine RK.skip ?_
    refine RK.seq ?_
    refine RK.region ?_
    refine RL.op (.free rfl) rfl rfl (Does.slice0 u26 i46) ?_
    rintro _ w1 ⟨b1, rfl, hn1⟩
    refine RL.p rfl rfl ?_
    refine RL.op (.free rfl) rfl rfl (Does.append u26 i46 rfl rfl rfl rfl rfl (Row.new hn1 2 0 rfl (by omega)) ((hv.mod (Mod.any' hn1.grow)).noM) (allOne_labs ls) (by omega)) ?_
    rintro u w2 ⟨hr, hm, hu⟩
    refine RL.p rfl rfl ?_
    refine RL.done ?_
    refine RK.ret_of Tryz.func80 (res1 rfl rfl) ?_ _
    exact ⟨_, rfl, by simpa using hr, fun b hb => by rcases hu with hu | hu <;> rw [hu] at hb <;> simp [Value.ownBlock] at hb <;> (have := hn1.at_; have := hn1.size; omega), hn1.grow.then hm (fun x hx e => by simp [Value.ownBlock] at e; have := hn1.at_; omega)⟩
theorem take_snoc_eq {α : Type} {l1 l2 : List α} {k : Nat} {x : α} (h : l1.take k = l2.take k) (h1 : l1[k]? = some x) (h2 : l2[k]? = some x) : l1.take (k + 1) = l2.take (k + 1) := by
  rw [List.take_add_one, List.take_add_one, h, h1, h2]
theorem lab_eq {x y : Lab} : (x.name = y.name ∧ x.value = y.value) ↔ x = y := by cases x; cases y; simp
theorem equalL_ok (M : Nat → Prop) (l1 l2 : List Lab) (v1 v2 : Value) (w : World) (hv1 : SlL M w v1 l1) (hv2 : SlL M w v2 l2) :
    Fx Tryz.prog 78 [v1, v2] w (fun u w' => u = .bool (decide (l1 = l2)) ∧ Grow w w') := by
  obtain ⟨a1, c1, rfl⟩ := hv1.shape
  obtain ⟨a2, c2, rfl⟩ := hv2.shape
  have hbig := hv1.big
  refine enter Tryz.func78 rfl rfl rfl _ (Pick.sub (l := [0, 1]) (.cons rfl (.cons rfl .nil))) ?_
  refine RK.seq ?_
  refine RK.region ?_
  refine RL.p rfl rfl ?_
  refine RL.done ?_
  iterate 2 refine RK.seq ?_
  refine RK.region ?_
  refine RL.p rfl rfl ?_
  refine RL.q (.free rfl) rfl rfl (Yld.lenSl u26 rfl) ?_
  refine RL.p rfl rfl ?_
  refine RL.q (.free rfl) rfl rfl (Yld.lenSl u26 rfl) ?_
  refine RL.p rfl rfl ?_
  refine RL.done ?_
  first | refine RK.condD rfl (fun h10 => ?_) (fun h10 => ?_) | refine RK.condN rfl (fun h10 => ?_) (fun h10 => ?_) | refine RK.cond rfl (fun h10 => ?_) (fun h10 => ?_)
  · refine RK.seq ?_
    refine RK.region ?_
    refine RL.p rfl rfl ?_
    refine RL.done ?_
    refine RK.ret_of Tryz.func78 (res1 rfl rfl) ?_ _
    exact ⟨_, rfl, congrArg _ (by rw [eq_comm, decide_eq_false_iff_not]; rintro rfl; exact h10 rfl), Mod.refl _ _⟩
  · refine RK.skip ?_
    iterate 2 refine RK.seq ?_
    refine RK.region ?_
    refine RL.p rfl rfl ?_
    refine RL.q (.free rfl) rfl rfl (Yld.lenSl u26 rfl) ?_
    refine RL.p rfl rfl ?_
    refine RL.done ?_
    refine RK.block ?_
    refine RK.loop (fun k : Nat => [(0, .slice a1 l1.length c1), (1, .slice a2 l2.length c2), (12, .int .i64 l1.length), (13, .int .i64 k)]) (fun k w' => Grow w w' ∧ k ≤ l1.length ∧ l1.take k = l2.take k) (fun k => l1.length - k) 0 ⟨rfl, rfl, rfl, rfl, trivial⟩ ⟨Mod.refl _ _, by omega, by simp⟩ (fun k w' hI ih => ?_)
    obtain ⟨hg, hk, htk⟩ := hI
    have hl : l1.length = l2.length := by omega
    refine RK.seq ?_
    refine RK.region ?_
    refine RL.p rfl rfl ?_
    refine RL.done ?_
    refine RK.seq ?_
    first | refine RK.condD rfl (fun h14 => ?_) (fun h14 => ?_) | refine RK.condN rfl (fun h14 => ?_) (fun h14 => ?_) | refine RK.cond rfl (fun h14 => ?_) (fun h14 => ?_)
    · obtain ⟨x, hx⟩ : ∃ x, l1[k]? = some x := ⟨l1[k]'(by omega), List.getElem?_eq_getElem (by omega)⟩
      obtain ⟨y, hy⟩ : ∃ y, l2[k]? = some y := ⟨l2[k]'(by omega), List.getElem?_eq_getElem (by omega)⟩
      obtain ⟨b1, o1, c1', he1, _, _, hc1⟩ := hv1.elem labC_len hx
      obtain ⟨b2, o2, c2', he2, _, _, hc2⟩ := hv2.elem labC_len hy
      cases he1
      cases he2
      refine RK.skip ?_
      refine RK.seq ?_
      refine RK.block ?_
      refine RK.seq ?_
      refine RK.region ?_
      iterate 2 refine RL.p rfl rfl ?_
      refine RL.done ?_
      refine RK.seq ?_
      refine RK.drawM No [(0, false), (1, false), (2, false), (3, false), (4, false), (5, false), (6, false), (7, false), (8, false)] [] mixed (by kernel_rfl) ?_
      iterate 2 refine DL.p rfl rfl rfl ?_
      refine DL.qf rfl (.free rfl) rfl rfl (Yld.indexAddrN u26 i46 rfl rfl (by omega)) ?_
      refine DL.q rfl (.free rfl) rfl rfl rfl (Yld.loadN (cs := [.string x.name, .string x.value]) a46 rfl (atNM (fun j u hj => hg.cell (hc1 j u hj) (fun h => h)) (id))) (Mod.drew _ _) ?_
      iterate 2 refine DL.p rfl rfl rfl ?_
      refine DL.qf rfl (.free rfl) rfl rfl (Yld.indexAddrN u26 i46 rfl rfl (by omega)) ?_
      refine DL.q rfl (.free rfl) rfl rfl rfl (Yld.loadN (cs := [.string y.name, .string y.value]) a46 rfl (atNM (fun j u hj => hg.cell (hc2 j u hj) (fun h => h)) (id))) (Mod.drew _ _) ?_
      refine DL.qf rfl (.free rfl) rfl rfl (Yld.neqPair pair46 rfl rfl) ?_
      refine DL.done ?_
      first | refine RK.condD rfl (fun h24 => ?_) (fun h24 => ?_) | refine RK.condN rfl (fun h24 => ?_) (fun h24 => ?_) | refine RK.cond rfl (fun h24 => ?_) (fun h24 => ?_)
      · refine RK.seq ?_
        refine RK.region ?_
        refine RL.p rfl rfl ?_
        refine RL.done ?_
        refine RK.ret_of Tryz.func78 (res1 rfl rfl) ?_ _
        exact ⟨_, rfl, congrArg _ (by rw [eq_comm, decide_eq_false_iff_not]; rintro rfl; rw [hx] at hy; cases hy; exact h24 ⟨rfl, rfl⟩), hg.trans (Mod.drew _ _)⟩
      · refine RK.skip ?_
        refine RK.inBlock ?_
        refine RK.region ?_
        refine RL.p rfl rfl ?_
        refine RL.re (d := 25) rfl rfl (succ_i64 (by omega)) ?_
        refine RL.p rfl rfl ?_
        refine RL.done ?_
        exact RK.back (ih (k + 1) _ ⟨hg.trans (Mod.drew _ _), by omega, take_snoc_eq htk hx (by rw [lab_eq.1 h24]; exact hy)⟩ (by omega)) ⟨rfl, rfl, rfl, rfl, trivial⟩
    · refine RK.exit rfl ?_
      refine RK.seq ?_
      refine RK.region ?_
      refine RL.p rfl rfl ?_
      refine RL.done ?_
      refine RK.ret_of Tryz.func78 (res1 rfl rfl) ?_ _
      exact ⟨_, rfl, congrArg _ (by
          have e1 : k = l1.length := by omega
          have h1 : l1.take k = l1 := List.take_of_length_le (by omega)
          have h2 : l2.take k = l2 := List.take_of_length_le (by omega)
          rw [h1, h2] at htk; simp [htk]), hg⟩
theorem sameInts_ok (M : Nat → Prop) (l1 l2 : List Int) (v1 v2 : Value) (w : World) (hv1 : Sl M w v1 1 l1.length (ints l1)) (hv2 : Sl M w v2 1 l2.length (ints l2)) :
    Fx Tryz.prog 29 [v1, v2] w (fun u w' => u = .bool (decide (l1 = l2)) ∧ Grow w w') := by
  obtain ⟨a1, c1, rfl⟩ := hv1.shape
  obtain ⟨a2, c2, rfl⟩ := hv2.shape
  have hbig := hv1.big
  refine enter Tryz.func29 rfl rfl rfl _ (Pick.sub (l := [0, 1]) (.cons rfl (.cons rfl .nil))) ?_
  refine RK.seq ?_
  refine RK.region ?_
  refine RL.p rfl rfl ?_
  refine RL.done ?_
  iterate 2 refine RK.seq ?_
  refine RK.region ?_
  refine RL.p rfl rfl ?_
  refine RL.q (.free rfl) rfl rfl (Yld.lenSl u22 rfl) ?_
  refine RL.p rfl rfl ?_
  refine RL.q (.free rfl) rfl rfl (Yld.lenSl u22 rfl) ?_
  refine RL.p rfl rfl ?_
  refine RL.done ?_
  first | refine RK.condD rfl (fun h10 => ?_) (fun h10 => ?_) | refine RK.condN rfl (fun h10 => ?_) (fun h10 => ?_) | refine RK.cond rfl (fun h10 => ?_) (fun h10 => ?_)
  · refine RK.seq ?_
    refine RK.region ?_
    refine RL.p rfl rfl ?_
    refine RL.done ?_
    refine RK.ret_of Tryz.func29 (res1 rfl rfl) ?_ _
    exact ⟨_, rfl, congrArg _ (by rw [eq_comm, decide_eq_false_iff_not]; rintro rfl; simp at h10), Mod.refl _ _⟩
  · refine RK.skip ?_
    iterate 2 refine RK.seq ?_
    refine RK.region ?_
    refine RL.p rfl rfl ?_
    refine RL.done ?_
    refine RK.block ?_
    refine RK.loop (fun k : Nat => [(0, .slice a1 l1.length c1), (1, .slice a2 l2.length c2), (5, .int .i64 k)]) (fun k w' => Grow w w' ∧ k ≤ l1.length ∧ l1.take k = l2.take k) (fun k => l1.length - k) 0 ⟨rfl, rfl, rfl, trivial⟩ ⟨Mod.refl _ _, by omega, by simp⟩ (fun k w' hI ih => ?_)
    obtain ⟨hg, hk, htk⟩ := hI
    have hl : l1.length = l2.length := by simp at h10; omega
    iterate 2 refine RK.seq ?_
    refine RK.region ?_
    iterate 2 refine RL.p rfl rfl ?_
    refine RL.q (.free rfl) rfl rfl (Yld.lenSl u22 rfl) ?_
    refine RL.p rfl rfl ?_
    refine RL.done ?_
    first | refine RK.condD rfl (fun h14 => ?_) (fun h14 => ?_) | refine RK.condN rfl (fun h14 => ?_) (fun h14 => ?_) | refine RK.cond rfl (fun h14 => ?_) (fun h14 => ?_)
    · obtain ⟨x, hx⟩ : ∃ x, l1[k]? = some x := ⟨l1[k]'(by omega), List.getElem?_eq_getElem (by omega)⟩
      obtain ⟨y, hy⟩ : ∃ y, l2[k]? = some y := ⟨l2[k]'(by omega), List.getElem?_eq_getElem (by omega)⟩
      obtain ⟨b1, o1, c1', he1, _, _, hc1⟩ := hv1.elem1 (k := k) (u := .int .i64 x) (by simp [hx])
      obtain ⟨b2, o2, c2', he2, _, _, hc2⟩ := hv2.elem1 (k := k) (u := .int .i64 y) (by simp [hy])
      cases he1
      cases he2
      refine RK.skip ?_
      refine RK.seq ?_
      refine RK.block ?_
      refine RK.seq ?_
      refine RK.drawM No [(0, false), (1, false), (2, false), (3, false), (4, false), (5, false), (6, false), (7, false), (8, false)] [] mixed (by kernel_rfl) ?_
      iterate 2 refine DL.p rfl rfl rfl ?_
      refine DL.qf rfl (.free rfl) rfl rfl (Yld.indexAddrN u22 i3 rfl rfl (by omega)) ?_
      refine DL.q rfl (.free rfl) rfl rfl rfl (Yld.load p3 rfl (atM (hg.cell (hc1 k (.int .i64 x) (by simp [hx])) (fun h => h)) (id))) (Mod.drew _ _) ?_
      iterate 2 refine DL.p rfl rfl rfl ?_
      refine DL.qf rfl (.free rfl) rfl rfl (Yld.indexAddrN u22 i3 rfl rfl (by omega)) ?_
      refine DL.q rfl (.free rfl) rfl rfl rfl (Yld.load p3 rfl (atM (hg.cell (hc2 k (.int .i64 y) (by simp [hy])) (fun h => h)) (id))) (Mod.drew _ _) ?_
      refine DL.p rfl rfl rfl ?_
      refine DL.done ?_
      first | refine RK.condD rfl (fun h25 => ?_) (fun h25 => ?_) | refine RK.condN rfl (fun h25 => ?_) (fun h25 => ?_) | refine RK.cond rfl (fun h25 => ?_) (fun h25 => ?_)
      · refine RK.seq ?_
        refine RK.region ?_
        refine RL.p rfl rfl ?_
        refine RL.done ?_
        refine RK.ret_of Tryz.func29 (res1 rfl rfl) ?_ _
        exact ⟨_, rfl, congrArg _ (by rw [eq_comm, decide_eq_false_iff_not]; rintro rfl; rw [hx] at hy; cases hy; simp at h25), hg.trans (Mod.drew _ _)⟩
      · refine RK.skip ?_
        refine RK.inBlock ?_
        refine RK.region ?_
        iterate 2 refine RL.p rfl rfl ?_
        refine RL.re (d := 16) rfl rfl (succ_i64 (by omega)) ?_
        refine RL.p rfl rfl ?_
        refine RL.done ?_
        exact RK.back (ih (k + 1) _ ⟨hg.trans (Mod.drew _ _), by omega, take_snoc_eq htk hx (by
            have : x = y := by simpa using h25
            rw [this]; exact hy)⟩ (by omega)) ⟨rfl, rfl, rfl, trivial⟩
    · refine RK.exit rfl ?_
      refine RK.seq ?_
      refine RK.region ?_
      refine RL.p rfl rfl ?_
      refine RL.done ?_
      refine RK.ret_of Tryz.func29 (res1 rfl rfl) ?_ _
      exact ⟨_, rfl, congrArg _ (by
          have e1 : k = l1.length := by omega
          have h1 : l1.take k = l1 := List.take_of_length_le (by omega)
          have h2 : l2.take k = l2 := List.take_of_length_le (by omega)
          rw [h1, h2] at htk; simp [htk]), hg⟩

/-- An alert as it lies in a store: 'v' is the slice of its labels. -/
structure Al where
  id : Int
  ls : List Lab
  val : Nat
  v : Value
def alC (a : Al) : List Value := [.int .i64 a.id, a.v, .float .f64 a.val]
theorem alC_len (a : Al) : (alC a).length = 3 := rfl
theorem post1_ok (M : Nat → Prop) (a : Al) (ls : List Lab) (vl : Value) (b4 : Nat) (w : World) (ha : SlL M w a.v a.ls) (hl : SlL M w vl ls) (hb : Blk w b4 26 [vl]) :
    Fx Tryz.prog 77 [.agg #[.int .i64 a.id, a.v, .float .f64 a.val], pp b4] w (fun u w' => u = .bool (decide (a.ls = ls)) ∧ Grow w w') := by
  obtain ⟨ad, ca, hva⟩ := ha.shape
  obtain ⟨al, cl, rfl⟩ := hl.shape
  obtain ⟨id, als, val, va⟩ := a
  simp only at hva ha
  subst hva
  refine enter Tryz.func77 rfl rfl rfl _ (Pick.sub (l := [0, 1]) (.cons rfl (.cons rfl .nil))) ?_
  refine RK.seq ?_
  refine RK.region ?_
  refine RL.op (.free rfl) rfl rfl (Does.box rfl) ?_
  rintro _ w1 ⟨bx, rfl, hbx⟩
  refine RL.p rfl rfl ?_
  refine RL.done ?_
  refine RK.seq ?_
  refine RK.region ?_
  refine RL.q (.free rfl) rfl rfl (Yld.fieldAddr fo32_1 rfl) ?_
  refine RL.q (.free rfl) rfl rfl (Yld.load p26 rfl (at1 (hbx.blk.cell rfl))) ?_
  refine RL.q (.free rfl) rfl rfl (Yld.load p26 rfl (at1 ((hb.mod hbx.grow (fun h => h)).cell rfl))) ?_
  refine RL.op (.free rfl) rfl rfl (Does.call rfl e78 (equalL_ok M als ls _ _ _ (ha.mod (Mod.any' hbx.grow)) (hl.mod (Mod.any' hbx.grow)))) ?_
  rintro _ w2 ⟨rfl, hg2⟩
  refine RL.p rfl rfl ?_
  refine RL.done ?_
  refine RK.ret_of Tryz.func77 (res1 rfl rfl) ?_ _
  exact ⟨_, rfl, rfl, hbx.grow.trans hg2⟩
/-- The first alert of these labels. -/
def findS (l : List (List Lab)) (ls : List Lab) : Option Nat := l.findIdx? fun x => decide (x = ls)
def optI : Option Nat → Int
  | some i => i
  | none => -1
theorem indexFunc_ok (M : Nat → Prop) (al : List Al) (ls : List Lab) (v vl : Value) (b4 : Nat) (w : World) (hv : Sl No w v 3 al.length (al.flatMap alC)) (ha : ∀ a ∈ al, SlL M w a.v a.ls) (hl : SlL M w vl ls) (hb : Blk w b4 26 [vl]) :
    Fx Tryz.prog 76 [v, .func (.func 77) #[] #[pp b4]] w (fun u w' => u = .int .i64 (optI (findS (al.map (·.ls)) ls)) ∧ Grow w w') := by
  obtain ⟨ad, c, rfl⟩ := hv.shape
  have hbig := hv.big
  refine enter Tryz.func76 rfl rfl rfl _ (Pick.sub (l := [0, 1]) (.cons rfl (.cons rfl .nil))) ?_
  refine RK.seq ?_
  refine RK.region ?_
  refine RL.p rfl rfl ?_
  refine RL.done ?_
  iterate 2 refine RK.seq ?_
  refine RK.region ?_
  refine RL.p rfl rfl ?_
  refine RL.q (.free rfl) rfl rfl (Yld.lenSl u58 rfl) ?_
  refine RL.p rfl rfl ?_
  refine RL.done ?_
  refine RK.block ?_
  refine RK.loop (fun k : Nat => [(0, .slice ad al.length c), (1, .func (.func 77) #[] #[pp b4]), (7, .int .i64 al.length), (8, .int .i64 k)]) (fun k w' => Grow w w' ∧ k ≤ al.length ∧ ∀ i a, i < k → al[i]? = some a → a.ls ≠ ls) (fun k => al.length - k) 0 ⟨rfl, rfl, rfl, rfl, trivial⟩ ⟨Mod.refl _ _, by omega, fun i a h => by omega⟩ (fun k w' hI ih => ?_)
  obtain ⟨hg, hk, hno⟩ := hI
  refine RK.seq ?_
  refine RK.region ?_
  refine RL.p rfl rfl ?_
  refine RL.done ?_
  refine RK.seq ?_
  first | refine RK.condD rfl (fun h9 => ?_) (fun h9 => ?_) | refine RK.condN rfl (fun h9 => ?_) (fun h9 => ?_) | refine RK.cond rfl (fun h9 => ?_) (fun h9 => ?_)
  · obtain ⟨a, hx⟩ : ∃ x, al[k]? = some x := ⟨al[k]'(by omega), List.getElem?_eq_getElem (by omega)⟩
    obtain ⟨b1, o1, c1', he1, _, _, hc1⟩ := hv.elem alC_len hx
    cases he1
    have hma := ha a (List.mem_of_getElem? hx)
    refine RK.skip ?_
    refine RK.seq ?_
    refine RK.block ?_
    refine RK.seq ?_
    refine RK.region ?_
    iterate 2 refine RL.p rfl rfl ?_
    refine RL.done ?_
    refine RK.seq ?_
    refine RK.region ?_
    iterate 3 refine RL.p rfl rfl ?_
    refine RL.q (.free rfl) rfl rfl (Yld.indexAddrN u58 i32 rfl rfl (by omega)) ?_
    refine RL.q (.free rfl) rfl rfl (Yld.loadN (cs := [.int .i64 a.id, a.v, .float .f64 a.val]) a32 rfl (atN (fun j u hj => hg.cell (hc1 j u hj) (fun h => h)))) ?_
    refine RL.op (.free rfl) rfl rfl (Does.callv rfl rfl e77 (post1_ok M a ls vl b4 _ (hma.mod (Mod.any' hg)) (hl.mod (Mod.any' hg)) (hb.mod hg (fun h => h)))) ?_
    rintro _ w2 ⟨rfl, hg2⟩
    refine RL.done ?_
    first | refine RK.condD rfl (fun h16 => ?_) (fun h16 => ?_) | refine RK.condN rfl (fun h16 => ?_) (fun h16 => ?_) | refine RK.cond rfl (fun h16 => ?_) (fun h16 => ?_)
    · refine RK.seq ?_
      refine RK.region ?_
      iterate 2 refine RL.p rfl rfl ?_
      refine RL.done ?_
      refine RK.ret_of Tryz.func76 (res1 rfl rfl) ?_ _
      exact ⟨_, rfl, congrArg _ (by
          have : findS (al.map (·.ls)) ls = some k := by
            unfold findS
            rw [List.findIdx?_eq_some_iff_getElem]
            refine ⟨by simpa using h9, ?_, ?_⟩
            · simp [(List.getElem?_eq_some_iff.1 hx).2, h16]
            · intro j hj
              simpa using hno j (al[j]'(by omega)) hj (List.getElem?_eq_getElem (by omega))
          rw [this]; rfl), hg.trans hg2⟩
    · refine RK.skip ?_
      refine RK.inBlock ?_
      refine RK.region ?_
      refine RL.p rfl rfl ?_
      refine RL.re (d := 18) rfl rfl (succ_i64 (by omega)) ?_
      refine RL.p rfl rfl ?_
      refine RL.done ?_
      exact RK.back (ih (k + 1) _ ⟨hg.trans hg2, by omega, fun i a' hi ha' => by by_cases e : i = k; (subst e; rw [hx] at ha'; cases ha'; exact h16); exact hno i a' (by omega) ha'⟩ (by omega)) ⟨rfl, rfl, rfl, rfl, trivial⟩
  · refine RK.exit rfl ?_
    refine RK.seq ?_
    refine RK.region ?_
    refine RL.p rfl rfl ?_
    refine RL.done ?_
    refine RK.ret_of Tryz.func76 (res1 rfl rfl) ?_ _
    exact ⟨_, rfl, congrArg _ (by
        have : findS (al.map (·.ls)) ls = none := by
          unfold findS
          rw [List.findIdx?_eq_none_iff]
          intro x hx
          obtain ⟨a, ha, rfl⟩ := List.mem_map.1 hx
          obtain ⟨i, hi⟩ := List.getElem?_of_mem ha
          have hil := (List.getElem?_eq_some_iff.1 hi).1
          simpa using hno i a (by omega) hi
        rw [this]; rfl), hg⟩
end Go.Proofs.YtffbcfcoddacmaaGreat

/- An index: its two maps; added to; counted. A pool: taken from. -/
set_option linter.unusedVariables false
set_option linter.unusedSimpArgs false
set_option maxHeartbeats 400000
set_option maxRecDepth 100000
namespace Go.Proofs.YtffbcfcoddacmaaGreat
open Go Go.X

theorem take_ok (w : World) (p : Nat) (most last : Int) (out : List Int) (v : Value) (hp : PoolAt w p most last out v) (h1 : out.length < most) (h2 : last ≠ 2147483647) (h3 : 0 ≤ last) (h4 : last ≤ 2147483647) (h5 : out.length ≤ 1000000) :
    Fx Tryz.prog 79 [pp p] w (fun u w' => u = .tuple #[.int .i64 (last + 1), .bool true] ∧ ∃ v', PoolAt w' p most (last + 1) (out ++ [last + 1]) v' ∧ Mod (fun b => b = p ∨ v.ownBlock = some b) w w' ∧ (∀ b, v'.ownBlock = some b → v.ownBlock = some b ∨ w.heap.size ≤ b)) := by
  obtain ⟨ad, c, rfl⟩ := hp.row.slice
  refine enter Tryz.func79 rfl rfl rfl _ (Pick.sub (l := [0]) (.cons rfl .nil)) ?_
  refine RK.seq ?_
  refine RK.region ?_
  iterate 2 refine RL.p rfl rfl ?_
  refine RL.done ?_
  iterate 2 refine RK.seq ?_
  refine RK.drawM No [(0, false), (1, false), (2, false), (3, false), (4, false), (5, false), (6, false), (7, false), (8, false), (9, false), (10, false), (11, false), (12, false), (13, false), (14, false), (15, false), (16, false)] [] mixed (by kernel_rfl) ?_
  iterate 2 refine DL.p rfl rfl rfl ?_
  refine DL.qf rfl (.free rfl) rfl rfl (Yld.fieldAddr fo173_2 rfl) ?_
  refine DL.q rfl (.free rfl) rfl rfl rfl (Yld.load p22 rfl (atM (hp.blk.cell rfl) id)) (Mod.drew _ _) ?_
  refine DL.q rfl (.free rfl) rfl rfl rfl (Yld.lenSl u22 rfl) (Mod.drew _ _) ?_
  iterate 2 refine DL.p rfl rfl rfl ?_
  refine DL.qf rfl (.free rfl) rfl rfl (Yld.fieldAddr fo173_0 rfl) ?_
  refine DL.q rfl (.free rfl) rfl rfl rfl (Yld.load p3 rfl (atM (hp.blk.cell rfl) id)) (Mod.drew _ _) ?_
  iterate 2 refine DL.p rfl rfl rfl ?_
  refine DL.knownF (d := 14) rfl rfl (decide_eq_false (by omega)) ?_
  iterate 2 refine DL.qf rfl (.yes rfl rfl rfl) rfl rfl (Yld.pure rfl) ?_
  refine DL.qf rfl (.yes rfl rfl rfl) rfl rfl (Yld.fieldAddr fo173_1 rfl) ?_
  refine DL.q rfl (.yes rfl rfl rfl) rfl rfl rfl (Yld.load p3 rfl (atM (hp.blk.cell rfl) id)) (Mod.drew _ _) ?_
  refine DL.qf rfl (.yes rfl rfl rfl) rfl rfl (Yld.pure rfl) ?_
  refine DL.p rfl rfl rfl ?_
  refine DL.done ?_
  refine RK.condF (hcF rfl (decide_eq_false (by omega))) ?_
  refine RK.skip ?_
  refine RK.seq ?_
  refine RK.region ?_
  iterate 2 refine RL.p rfl rfl ?_
  refine RL.q (.free rfl) rfl rfl (Yld.fieldAddr fo173_1 rfl) ?_
  refine RL.q (.free rfl) rfl rfl (Yld.load p3 rfl (at1 (hp.blk.cell rfl))) ?_
  refine RL.p rfl rfl ?_
  refine RL.re (d := 25) rfl rfl (add_i64 (z := last + 1) rfl (by omega) (by omega)) ?_
  refine RL.p rfl rfl ?_
  refine RL.q (.free rfl) rfl rfl (Yld.fieldAddr fo173_1 rfl) ?_
  refine RL.op' (.free rfl) rfl (Does.store i3 rfl rfl rfl hp.blk (.s .z)) ?_
  rintro _ w1 ⟨hb1, hm1, hs1⟩
  have hr1 := (hp.row.mod (Mod.drew No _) (fun _ _ h => h)).mod hm1 (fun b e h => hp.ne (h ▸ e))
  refine RL.done ?_
  refine RK.seq ?_
  refine RK.drawM (fun b => (Value.slice ad out.length c).ownBlock = some b) [(0, false), (1, false), (2, false), (3, false), (4, false), (5, false), (6, false), (7, false), (8, false), (9, true), (10, true), (11, false), (12, false), (13, true)] [13] mixed (by kernel_rfl) ?_
  iterate 3 refine DL.p rfl rfl rfl ?_
  refine DL.qf rfl (.free rfl) rfl rfl (Yld.fieldAddr fo173_2 rfl) ?_
  refine DL.q rfl (.free rfl) rfl rfl rfl (Yld.load p22 rfl (atM (hb1.cell rfl) (fun h => hp.ne h))) (Mod.drew _ _) ?_
  iterate 2 refine DL.p rfl rfl rfl ?_
  refine DL.qf rfl (.free rfl) rfl rfl (Yld.fieldAddr fo173_1 rfl) ?_
  refine DL.q rfl (.free rfl) rfl rfl rfl (Yld.load p3 rfl (atM (hb1.cell rfl) (fun h => hp.ne h))) (Mod.drew _ _) ?_
  refine DL.op rfl (.free rfl) rfl rfl (Does.slice1 u22 i3 rfl rfl rfl rfl rfl) ?_
  rintro _ w2 ⟨b2, rfl, hn2⟩
  refine ⟨(Mod.drew _ _).trans (Mod.any' hn2.grow), ?_⟩
  refine DL.op rfl (.free rfl) rfl rfl (Does.append u22 i3 rfl rfl rfl rfl rfl ((hr1.mod (Mod.drew No _) (fun _ _ h => h)).mod hn2.grow (fun _ _ h => h)) (Sl.new hn2 1 1 rfl (by omega) (fun h => h)) (rfl) (by omega)) ?_
  rintro u3 w3 ⟨hr3, hm3, hu3⟩
  refine ⟨((Mod.drew _ _).trans (Mod.any' hn2.grow)).trans hm3, ?_⟩
  have hpl := hp.blk.lt
  have hu3' : ∀ b, u3.ownBlock = some b → b ≠ p ∧ ((Value.slice ad out.length c).ownBlock = some b ∨ w.heap.size ≤ b) := fun b e => by
      rcases hu3 with h | h
      · rw [h] at e; exact ⟨fun hh => hp.ne (hh ▸ e), .inl e⟩
      · rw [h] at e; cases e; have h1 := hn2.size; have h2 := hm1.size; simp only [World.drew] at h1 h2 hn2; exact ⟨by omega, .inr (by omega)⟩
  obtain ⟨ad3, c3, rfl⟩ := hr3.slice
  have hb3 := ((hb1.mod (Mod.drew No _) (fun h => h)).mod hn2.grow (fun h => h)).mod hm3 (fun e => hp.ne e)
  refine DL.p rfl rfl rfl ?_
  refine DL.qf rfl (.free rfl) rfl rfl (Yld.fieldAddr fo173_2 rfl) ?_
  refine DL.opT rfl (.free rfl) rfl rfl (Does.store i22 rfl rfl rfl hb3 (.s (.s .z))) ?_
  rintro _ w4 ⟨hb4, hm4, hs4⟩
  refine DL.done ?_
  refine RK.seq ?_
  refine RK.region ?_
  iterate 2 refine RL.p rfl rfl ?_
  refine RL.q (.free rfl) rfl rfl (Yld.fieldAddr fo173_1 rfl) ?_
  refine RL.q (.free rfl) rfl rfl (Yld.load p3 rfl (at1 (hb4.cell rfl))) ?_
  iterate 2 refine RL.p rfl rfl ?_
  refine RL.done ?_
  refine RK.ret_of Tryz.func79 (res2 rfl rfl rfl) ?_ _
  exact ⟨_, rfl, rfl, _, ⟨hb4, by (show Row _ _ _ _ (out ++ [last + 1]).length (List.map _ (out ++ [last + 1]))); rw [List.map_append, List.length_append]; exact hr3.mod hm4 (fun b e h => (hu3' b e).1 h), fun e => (hu3' p e).1 rfl⟩, ((((Mod.drew _ _).trans (hm1.mono fun b _ h => .inl h)).trans ((Mod.drew _ _).trans (Mod.any' hn2.grow))).trans (hm3.mono fun b _ h => .inr h)).trans (hm4.mono fun b _ h => .inl h), fun b e => (hu3' b e).2⟩

abbrev LabK := ByteArray × ByteArray
def labK (x : Lab) : LabK := (x.name, x.value)
structure IdxAt (M : Nat → Prop) (w : World) (ix mh mr : Nat) (has : List (Int × List Lab)) (rows : List (LabK × List Int)) : Prop where
  blk : Blk w ix 144 [.map (some mh), .map (some mr)]
  ne : mh ≠ mr
  hl : ∃ l : List (Int × (List Lab × Value)), l.map (fun t => (t.1, t.2.1)) = has ∧ MapAt (Value.int .i64) w mh (l.map fun t => (t.1, t.2.2)) ∧ ∀ t ∈ l, SlL M w t.2.2 t.2.1
  rl : ∃ r : List (LabK × (List Int × Value)), r.map (fun t => (t.1, t.2.1)) = rows ∧ MapAt pairV w mr (r.map fun t => (t.1, t.2.2)) ∧ ∀ t ∈ r, Sl M w t.2.2 1 t.2.1.length (ints t.2.1)
theorem IdxAt.mod {M M0 : Nat → Prop} {w w' : World} {ix mh mr : Nat} {has : List (Int × List Lab)} {rows : List (LabK × List Int)} (h : IdxAt M w ix mh mr has rows) (hm : Mod M0 w w') (h0 : ∀ b, b < w.heap.size → M0 b → M b) (n1 : ¬ M0 ix) (n2 : ¬ M0 mh) (n3 : ¬ M0 mr) : IdxAt M w' ix mh mr has rows := by
  obtain ⟨l, hl1, hl2, hl3⟩ := h.hl
  obtain ⟨r, hr1, hr2, hr3⟩ := h.rl
  exact ⟨h.blk.mod hm n1, h.ne, ⟨l, hl1, hl2.mod hm n2, fun t ht => (hl3 t ht).mod (hm.mono h0)⟩, ⟨r, hr1, hr2.mod hm n3, fun t ht => (hr3 t ht).mod (hm.mono h0)⟩⟩
theorem IdxAt.off {M M' : Nat → Prop} {w : World} {ix mh mr : Nat} {has : List (Int × List Lab)} {rows : List (LabK × List Int)} (h : IdxAt M w ix mh mr has rows) (hM : ∀ b, b < w.heap.size → M' b → M b) : IdxAt M' w ix mh mr has rows := by
  obtain ⟨l, hl1, hl2, hl3⟩ := h.hl
  obtain ⟨r, hr1, hr2, hr3⟩ := h.rl
  exact ⟨h.blk, h.ne, ⟨l, hl1, hl2, fun t ht => (hl3 t ht).off (by omega) hM⟩, ⟨r, hr1, hr2, fun t ht => (hr3 t ht).off (by omega) hM⟩⟩
theorem idxNew_ok (w : World) : Fx Tryz.prog 27 [] w (fun u w' => ∃ ix mh mr, u = pp ix ∧ (∀ b, b = ix ∨ b = mh ∨ b = mr → w.heap.size ≤ b) ∧ (∀ M, IdxAt M w' ix mh mr [] []) ∧ Grow w w') := by
  refine enter Tryz.func27 rfl rfl rfl _ (Pick.sub (l := []) .nil) ?_
  refine RK.seq ?_
  refine RK.region ?_
  refine RL.p rfl rfl ?_
  refine RL.done ?_
  refine RK.seq ?_
  refine RK.region ?_
  refine RL.op (.free rfl) rfl rfl (Does.makeMap (Value.int .i64)) ?_
  rintro _ w1 ⟨mh, rfl, hmh, hm1, hg1, hs1⟩
  refine RL.op (.free rfl) rfl rfl (Does.makeMap pairV) ?_
  rintro _ w2 ⟨mr, rfl, hmr, hm2, hg2, hs2⟩
  refine RL.q (.free rfl) rfl rfl (Yld.build (v := .agg #[.map (some mh), .map (some mr)]) rfl (fun w => by kernel_rfl)) ?_
  refine RL.op (.free rfl) rfl rfl (Does.box rfl) ?_
  rintro _ w3 ⟨b3, rfl, hn3⟩
  refine RL.p rfl rfl ?_
  refine RL.done ?_
  refine RK.ret_of Tryz.func27 (res1 rfl rfl) ?_ _
  exact ⟨_, rfl, b3, mh, mr, rfl, fun b h => by have := hn3.at_; omega, fun M => ⟨hn3.blk, by omega, ⟨[], rfl, (hm1.mod hg2 (fun h => h)).mod hn3.grow (fun h => h), by simp⟩, ⟨[], rfl, hm2.mod hn3.grow (fun h => h), by simp⟩⟩, (hg1.trans hg2).trans hn3.grow⟩
theorem idxLen_ok (M : Nat → Prop) (w : World) (ix mh mr : Nat) (has : List (Int × List Lab)) (rows : List (LabK × List Int)) (h : IdxAt M w ix mh mr has rows) : Fx Tryz.prog 31 [pp ix] w (fun u w' => u = .int .i64 rows.length ∧ w = w') := by
  obtain ⟨r, hr1, hr2, hr3⟩ := h.rl
  refine enter Tryz.func31 rfl rfl rfl _ (Pick.sub (l := [0]) (.cons rfl .nil)) ?_
  refine RK.seq ?_
  refine RK.region ?_
  refine RL.p rfl rfl ?_
  refine RL.done ?_
  refine RK.seq ?_
  refine RK.region ?_
  iterate 2 refine RL.p rfl rfl ?_
  refine RL.q (.free rfl) rfl rfl (Yld.fieldAddr fo144_1 rfl) ?_
  refine RL.q (.free rfl) rfl rfl (Yld.load p142 rfl (at1 (h.blk.cell rfl))) ?_
  refine RL.q (.free rfl) rfl rfl (Yld.lenMap Tryz.underlying142 rfl (fun w' e => e ▸ hr2)) ?_
  refine RL.p rfl rfl ?_
  refine RL.done ?_
  refine RK.ret_of Tryz.func31 (res1 rfl rfl) ?_ _
  exact ⟨_, rfl, by rw [← hr1]; simp, rfl⟩
end Go.Proofs.YtffbcfcoddacmaaGreat

/- An index added to. -/
set_option linter.unusedVariables false
set_option linter.unusedSimpArgs false
set_option maxHeartbeats 400000
set_option maxRecDepth 100000
namespace Go.Proofs.YtffbcfcoddacmaaGreat
open Go Go.X

def addRow1 (id : Int) (r : List (LabK × List Int)) (x : Lab) : List (LabK × List Int) := putM r (labK x) (mkRow ((lookM r (labK x)).getD [] ++ [id]))
def addRows (rows : List (LabK × List Int)) (id : Int) (ls : List Lab) : List (LabK × List Int) := ls.foldl (addRow1 id) rows
theorem addRows_snoc (rows : List (LabK × List Int)) (id : Int) (ls : List Lab) (x : Lab) : addRows rows id (ls ++ [x]) = addRow1 id (addRows rows id ls) x := by simp [addRows]
theorem look_bound {r : List (LabK × List Int)} {B : Nat} (h : ∀ t ∈ r, t.2.length ≤ B) (k : LabK) : ((lookM r k).getD []).length ≤ B := by
  cases hl : lookM r k with
  | none => simp
  | some a => exact h _ (lookM_mem hl)
theorem addRow1_bound {r : List (LabK × List Int)} {B : Nat} (h : ∀ t ∈ r, t.2.length ≤ B) (id : Int) (x : Lab) : ∀ t ∈ addRow1 id r x, t.2.length ≤ B + 1 := by
  intro t ht
  rcases mem_putM ht with h1 | rfl
  · have := h t h1; omega
  · have := mkRow_le ((lookM r (labK x)).getD [] ++ [id])
    have h2 := look_bound h (labK x)
    simp at this ⊢
    omega
theorem addRows_bound {r : List (LabK × List Int)} {B : Nat} (h : ∀ t ∈ r, t.2.length ≤ B) (id : Int) (ls : List Lab) : ∀ t ∈ addRows r id ls, t.2.length ≤ B + ls.length := by
  induction ls generalizing r B with
  | nil => exact h
  | cons x ls ih =>
    intro t ht
    have := ih (addRow1_bound h id x) t ht
    simp; omega
theorem isS_len {ls : List Lab} (h : isS ls = true) : 1 ≤ ls.length ∧ ls.length ≤ 6 := by
  simp only [isS, Bool.and_eq_true, decide_eq_true_eq] at h
  exact h.1
theorem add_ok (M : Nat → Prop) (w : World) (ix mh mr : Nat) (has : List (Int × List Lab)) (rows : List (LabK × List Int)) (h : IdxAt M w ix mh mr has rows) (hMh : M mh) (hMr : M mr) (hM : ∀ b, M b → b < w.heap.size) (id : Int) (ls : List Lab) (v : Value) (hv : SlL M w v ls)
    (hnew : lookM has id = none) (his : isS ls = true) (hB : ∀ t ∈ rows, t.2.length ≤ 100000000000) :
    Fx Tryz.prog 28 [pp ix, .int .i64 id, v] w (fun u w' => u = .bool true ∧ IdxAt M w' ix mh mr (putM has id ls) (addRows rows id ls) ∧ Mod (fun b => b = mh ∨ b = mr) w w') := by
  obtain ⟨ad, c, rfl⟩ := hv.shape
  obtain ⟨l, hl1, hl2, hl3⟩ := h.hl
  have hlk : lookM (l.map fun t => (t.1, t.2.2)) id = none := by
    have e1 := lookM_map (fun a : List Lab × Value => a.1) id l
    have e2 := lookM_map (fun a : List Lab × Value => a.2) id l
    rw [hl1, hnew] at e1
    have : lookM l id = none := by cases hh : lookM l id with
      | none => rfl
      | some a => rw [hh] at e1; simp at e1
    rw [this] at e2
    exact e2
  obtain ⟨h61, h66⟩ := isS_len his
  have n1 : ix ≠ mh := h.blk.ty.nem hl2.mp
  have n2 : ix ≠ mr := by obtain ⟨r, _, hr2, _⟩ := h.rl; exact h.blk.ty.nem hr2.mp
  refine enter Tryz.func28 rfl rfl rfl _ (Pick.sub (l := [0, 1, 2]) (.cons rfl (.cons rfl (.cons rfl .nil)))) ?_
  refine RK.seq ?_
  refine RK.region ?_
  refine RL.p rfl rfl ?_
  refine RL.done ?_
  iterate 2 refine RK.seq ?_
  refine RK.region ?_
  iterate 2 refine RL.p rfl rfl ?_
  refine RL.q (.free rfl) rfl rfl (Yld.fieldAddr fo144_0 rfl) ?_
  refine RL.q (.free rfl) rfl rfl (Yld.load p141 rfl (at1 (h.blk.cell rfl))) ?_
  refine RL.p rfl rfl ?_
  refine RL.q (.free rfl) rfl rfl (Yld.lookup Tryz.underlying141 key3 i26 rfl rfl (fun w' e => e ▸ hl2)) ?_
  refine RL.p rfl rfl ?_
  refine RL.re (d := 11) rfl rfl (show _ = Value.tuple #[.slice none 0 0, .bool false] by rw [hlk]; rfl) ?_
  iterate 4 refine RL.p rfl rfl ?_
  refine RL.done ?_
  refine RK.seq ?_
  refine RK.region ?_
  iterate 2 refine RL.p rfl rfl ?_
  refine RL.knownF (d := 21) rfl rfl (rfl) ?_
  refine RL.q (.yes rfl rfl rfl) rfl rfl (Yld.pure rfl) ?_
  refine RL.op (.yes rfl rfl rfl) rfl rfl (Does.call rfl e73 (is_ok M ls _ _ hv)) ?_
  rintro _ w2 ⟨rfl, hg2⟩
  refine RL.q (.yes rfl rfl rfl) rfl rfl (Yld.pure rfl) ?_
  refine RL.p rfl rfl ?_
  refine RL.done ?_
  refine RK.condF (hcF rfl (by rw [his]; rfl)) ?_
  refine RK.skip ?_
  refine RK.seq ?_
  refine RK.drawM No [(0, false), (1, false), (2, false), (3, false), (4, false), (5, false), (6, true), (7, true)] [7] mixed (by kernel_rfl) ?_
  iterate 2 refine DL.p rfl rfl rfl ?_
  refine DL.qf rfl (.free rfl) rfl rfl (Yld.fieldAddr fo144_0 rfl) ?_
  refine DL.q rfl (.free rfl) rfl rfl rfl (Yld.load p141 rfl (atM ((h.blk.mod hg2 (fun h => h)).cell rfl) (fun h => h))) (Mod.drew _ _) ?_
  iterate 2 refine DL.p rfl rfl rfl ?_
  refine DL.op rfl (.free rfl) rfl rfl (Does.call rfl e80 (cloneL_ok M ls _ _ ((hv.mod (Mod.any' hg2)).mod (Mod.drew M _)) (by omega))) ?_
  rintro u3 w3 ⟨hr3, hf3, hg3⟩
  refine ⟨(Mod.drew _ _).trans hg3, ?_⟩
  obtain ⟨ad3, c3, rfl⟩ := hr3.slice
  have hg03 : Grow w w3 := (hg2.trans (Mod.drew _ _)).trans hg3
  refine DL.opT rfl (.free rfl) rfl rfl (Does.mapUpdate Tryz.underlying141 key3 rfl rfl rfl (hl2.mod hg03 (fun h => h))) ?_
  rintro _ w4 ⟨hm4, hmod4, hs4⟩
  have hmod04 : Mod (· = mh) w w4 := (Mod.any' hg03).trans hmod4
  have hu3 : SlL M w4 (.slice ad3 ls.length c3) ls := (Sl.own hr3 (fun k e hk => by have h1 := hf3 k e; have h2 := hM k hk; have h3 := hg2.size; simp only [World.drew] at h1; omega)).mod (hmod4.mono fun b _ e => e ▸ hMh)
  have hidx4 : IdxAt M w4 ix mh mr (putM has id ls) rows := by
      obtain ⟨r, hr1, hr2, hr3⟩ := h.rl
      refine ⟨h.blk.mod hmod04 n1, h.ne, ⟨putM l id (ls, .slice ad3 ls.length c3), ?_, ?_, fun t ht => ?_⟩, ⟨r, hr1, hr2.mod hmod04 h.ne.symm, fun t ht => (hr3 t ht).mod (hmod04.mono fun b _ e => e ▸ hMh)⟩⟩
      · rw [← hl1]; exact (putM_map (fun a : List Lab × Value => a.1) id (ls, .slice ad3 ls.length c3) l).symm
      · rw [← putM_map (fun a : List Lab × Value => a.2) id (ls, .slice ad3 ls.length c3) l]; exact hm4
      · rcases mem_putM ht with h1 | rfl
        · exact (hl3 t h1).mod (hmod04.mono fun b _ e => e ▸ hMh)
        · exact hu3
  have hmodA : Mod (fun b => b = mh ∨ b = mr) w w4 := hmod04.mono fun b _ e => .inl e
  refine DL.done ?_
  iterate 2 refine RK.seq ?_
  refine RK.region ?_
  refine RL.p rfl rfl ?_
  refine RL.q (.free rfl) rfl rfl (Yld.lenSl u26 rfl) ?_
  refine RL.p rfl rfl ?_
  refine RL.done ?_
  refine RK.block ?_
  refine RK.loop (fun k : Nat => [(0, pp ix), (1, .int .i64 id), (33, .slice ad ls.length c), (34, .int .i64 ls.length), (35, .int .i64 k)]) (fun k w' => IdxAt M w' ix mh mr (putM has id ls) (addRows rows id (ls.take k)) ∧ Mod (fun b => b = mh ∨ b = mr) w w' ∧ k ≤ ls.length) (fun k => ls.length - k) 0 ⟨rfl, rfl, rfl, rfl, rfl, trivial⟩ ⟨by simpa [addRows] using hidx4, hmodA, by omega⟩ (fun k w' hI ih => ?_)
  obtain ⟨hi, hmod, hk⟩ := hI
  refine RK.seq ?_
  refine RK.region ?_
  refine RL.p rfl rfl ?_
  refine RL.done ?_
  refine RK.seq ?_
  first | refine RK.condD rfl (fun h36 => ?_) (fun h36 => ?_) | refine RK.condN rfl (fun h36 => ?_) (fun h36 => ?_) | refine RK.cond rfl (fun h36 => ?_) (fun h36 => ?_)
  · obtain ⟨x, hx⟩ : ∃ x, ls[k]? = some x := ⟨ls[k]'(by omega), List.getElem?_eq_getElem (by omega)⟩
    obtain ⟨bx, ox, cx, he, hbM, hkl, hcell⟩ := hv.elem labC_len hx
    cases he
    obtain ⟨r, hr1, hr2, hr3⟩ := hi.rl
    have hmodM : Mod M w w' := hmod.mono fun b _ e => by rcases e with rfl | rfl <;> assumption
    have htk : ls.take (k + 1) = ls.take k ++ [x] := by rw [List.take_succ_eq_append_getElem (by omega)]; congr 2; exact (List.getElem?_eq_some_iff.1 hx).2
    have hbnd : ((lookM (addRows rows id (ls.take k)) (labK x)).getD []).length ≤ 100000000000 + 6 := Nat.le_trans (look_bound (addRows_bound hB id (ls.take k)) (labK x)) (by simp; omega)
    obtain ⟨vv, hval, hsl⟩ : ∃ vv, (lookM (r.map fun t => (t.1, t.2.2)) (labK x)).getD (.slice none 0 0) = vv ∧ Sl M w' vv 1 ((lookM (addRows rows id (ls.take k)) (labK x)).getD []).length (ints ((lookM (addRows rows id (ls.take k)) (labK x)).getD [])) := by
        have e1 := lookM_map (fun a : List Int × Value => a.1) (labK x) r
        have e2 := lookM_map (fun a : List Int × Value => a.2) (labK x) r
        rw [hr1] at e1
        rw [e1, e2]
        cases hh : lookM r (labK x) with
        | none => exact ⟨_, rfl, Sl.nil _ _ _ _ _⟩
        | some a => exact ⟨_, rfl, hr3 _ (lookM_mem hh)⟩
    refine RK.skip ?_
    refine RK.seq ?_
    refine RK.block ?_
    refine RK.seq ?_
    refine RK.region ?_
    refine RL.q (.free rfl) rfl rfl (Yld.indexAddrN u26 i46 rfl rfl (by omega)) ?_
    refine RL.q (.free rfl) rfl rfl (Yld.loadN (cs := [.string x.name, .string x.value]) a46 rfl (atN (fun j u hj => hmodM.cell (hcell j u hj) hbM))) ?_
    refine RL.op (.free rfl) rfl rfl (Does.alloc i46) ?_
    rintro _ w5 ⟨b1, rfl, hn1⟩
    refine RL.op' (.free rfl) rfl (Does.storeN i46 rfl rfl rfl rfl hn1.blk (Nat.le_refl 2)) ?_
    rintro _ w6 ⟨hb6, hm6, _⟩
    have hB6 : Blk w6 b1 46 [.string x.name, .string x.value] := hb6
    have hg6 : Grow w' w6 := hn1.grow.then hm6 (fun y hy e => by have e' : y = b1 := e; have := hn1.at_; omega)
    refine RL.done ?_
    refine RK.drawM No [(0, false), (1, false), (2, false), (3, false), (4, false), (5, false), (6, false), (7, false), (8, false), (9, false), (10, false), (11, false), (12, true), (13, true)] [13] mixed (by kernel_rfl) ?_
    iterate 2 refine DL.p rfl rfl rfl ?_
    refine DL.qf rfl (.free rfl) rfl rfl (Yld.fieldAddr fo144_1 rfl) ?_
    refine DL.q rfl (.free rfl) rfl rfl rfl (Yld.load p142 rfl (atM ((hi.blk.mod hg6 (fun h => h)).cell rfl) (fun h => h))) (Mod.drew _ _) ?_
    refine DL.q rfl (.free rfl) rfl rfl rfl (Yld.loadN (cs := [.string x.name, .string x.value]) a46 rfl (atNM (fun j u hj => by rw [Nat.zero_add]; exact hB6.cell' hj) (fun h => h))) (Mod.drew _ _) ?_
    iterate 2 refine DL.p rfl rfl rfl ?_
    refine DL.qf rfl (.free rfl) rfl rfl (Yld.fieldAddr fo144_1 rfl) ?_
    refine DL.q rfl (.free rfl) rfl rfl rfl (Yld.load p142 rfl (atM ((hi.blk.mod hg6 (fun h => h)).cell rfl) (fun h => h))) (Mod.drew _ _) ?_
    refine DL.q rfl (.free rfl) rfl rfl rfl (Yld.loadN (cs := [.string x.name, .string x.value]) a46 rfl (atNM (fun j u hj => by rw [Nat.zero_add]; exact hB6.cell' hj) (fun h => h))) (Mod.drew _ _) ?_
    refine DL.q rfl (.free rfl) rfl rfl rfl (Yld.lookup Tryz.underlying142 key46 i22 (k := labK x) rfl rfl (fun w' hm => (hr2.mod hg6 (fun h => h)).mod hm (fun h => h))) (Mod.drew _ _) ?_
    refine DL.re (d := 49) rfl rfl (hval) ?_
    refine DL.p rfl rfl rfl ?_
    refine DL.op rfl (.free rfl) rfl rfl (Does.call rfl e87 (put_ok M _ id vv _ ((hsl.mod (Mod.any' hg6)).mod (Mod.drew M _)) (by omega))) ?_
    rintro u7 w7 ⟨hr7, hf7, hg7⟩
    refine ⟨(Mod.drew _ _).trans hg7, ?_⟩
    have hg07 : Grow w' w7 := (hg6.trans (Mod.drew _ _)).trans hg7
    refine DL.opT rfl (.free rfl) rfl rfl (Does.mapUpdate Tryz.underlying142 key46 (k := labK x) rfl rfl rfl (hr2.mod hg07 (fun h => h))) ?_
    rintro _ w8 ⟨hm8, hmod8, hs8⟩
    have hmodk : Mod (· = mr) w' w8 := (Mod.any' hg07).trans hmod8
    have hu7 : Sl M w8 u7 1 (mkRow ((lookM (addRows rows id (ls.take k)) (labK x)).getD [] ++ [id])).length (ints (mkRow ((lookM (addRows rows id (ls.take k)) (labK x)).getD [] ++ [id]))) := (Sl.own hr7 (fun b e hb => by have h1 := hf7 b e; have h2 := hM b hb; have h3 := hg6.size; have h4 := hmod.size; simp only [World.drew] at h1; omega)).mod (hmod8.mono fun b _ e => e ▸ hMr)
    have hidx8 : IdxAt M w8 ix mh mr (putM has id ls) (addRows rows id (ls.take (k + 1))) := by
        obtain ⟨l', hl1', hl2', hl3'⟩ := hi.hl
        refine ⟨hi.blk.mod hmodk n2, hi.ne, ⟨l', hl1', hl2'.mod hmodk hi.ne, fun t ht => (hl3' t ht).mod (hmodk.mono fun b _ e => e ▸ hMr)⟩, ⟨putM r (labK x) (mkRow ((lookM (addRows rows id (ls.take k)) (labK x)).getD [] ++ [id]), u7), ?_, ?_, fun t ht => ?_⟩⟩
        · rw [htk, addRows_snoc, addRow1, ← hr1]; exact (putM_map (fun a : List Int × Value => a.1) (labK x) (_, u7) r).symm
        · rw [← putM_map (fun a : List Int × Value => a.2) (labK x) (_, u7) r]; exact hm8
        · rcases mem_putM ht with h1 | rfl
          · exact (hr3 t h1).mod (hmodk.mono fun b _ e => e ▸ hMr)
          · exact hu7
    refine DL.done ?_
    refine RK.inBlock ?_
    refine RK.region ?_
    refine RL.p rfl rfl ?_
    refine RL.re (d := 52) rfl rfl (succ_i64 (by omega)) ?_
    refine RL.p rfl rfl ?_
    refine RL.done ?_
    exact RK.back (ih (k + 1) _ ⟨hidx8, hmod.trans (hmodk.mono fun b _ e => .inr e), by omega⟩ (by omega)) ⟨rfl, rfl, rfl, rfl, rfl, trivial⟩
  · have ek : ls.take k = ls := List.take_of_length_le (by omega)
    rw [ek] at hi
    refine RK.exit rfl ?_
    refine RK.seq ?_
    refine RK.region ?_
    refine RL.p rfl rfl ?_
    refine RL.done ?_
    refine RK.ret_of Tryz.func28 (res1 rfl rfl) ?_ _
    exact ⟨_, rfl, rfl, hi, hmod⟩
end Go.Proofs.YtffbcfcoddacmaaGreat

