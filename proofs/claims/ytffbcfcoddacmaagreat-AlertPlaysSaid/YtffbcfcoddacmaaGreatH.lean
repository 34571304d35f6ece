/- real.Rank: an insertion sort of up to twenty. -/
import Derived.Test.YtffbcfcoddacmaaGreatG
set_option linter.unusedVariables false
set_option linter.unusedSimpArgs false
set_option maxHeartbeats 400000
set_option maxRecDepth 100000
namespace Go.Proofs.YtffbcfcoddacmaaGreat
open Go Go.X

abbrev flts (vs : List Nat) : List Value := vs.map (Value.float .f64)
abbrev nats (xs : List Nat) : List Value := xs.map fun x : Nat => Value.int .i64 (x : Int)
theorem rank1_ok (vs : List Nat) (bx : Nat) (v : Value) (i j a b : Nat) (w : World) (hb : Blk w bx 148 [v]) (hv : Sl No w v 1 vs.length (flts vs)) (hi : vs[i]? = some a) (hj : vs[j]? = some b) (ha : a < 18446744073709551616) (hb' : b < 18446744073709551616) :
    Fx Tryz.prog 136 [.int .i64 i, .int .i64 j, pp bx] w (fun u w' => u = .int .i64 (rankS a b) ∧ Grow w w') := by
  obtain ⟨g, o, c, rfl, _, hin, hc⟩ := hv.elem1 (k := i) (u := .float .f64 a) (by simp [hi])
  have hjn : j < vs.length := (List.getElem?_eq_some_iff.1 hj).1
  refine enter Tryz.func136 rfl rfl rfl _ (Pick.sub (l := [0, 1, 2]) (.cons rfl (.cons rfl (.cons rfl .nil)))) ?_
  refine RK.seq ?_
  refine RK.region ?_
  refine RL.p rfl rfl ?_
  refine RL.done ?_
  refine RK.seq ?_
  refine RK.drawM No [(0, false), (1, false), (2, false), (3, false), (4, false), (5, false), (6, false), (7, false), (8, false), (9, false)] [] mixed (by kernel_rfl) ?_
  refine DL.q rfl (.free rfl) rfl rfl rfl (Yld.load p148 rfl (atM (hb.cell rfl) id)) (Mod.drew _ _) ?_
  refine DL.p rfl rfl rfl ?_
  refine DL.qf rfl (.free rfl) rfl rfl (Yld.indexAddrN u148 i23 rfl rfl (hin)) ?_
  refine DL.q rfl (.free rfl) rfl rfl rfl (Yld.load p23 rfl (atM (hc i (.float .f64 a) (by simp [hi])) id)) (Mod.drew _ _) ?_
  refine DL.q rfl (.free rfl) rfl rfl rfl (Yld.load p148 rfl (atM (hb.cell rfl) id)) (Mod.drew _ _) ?_
  refine DL.p rfl rfl rfl ?_
  refine DL.qf rfl (.free rfl) rfl rfl (Yld.indexAddrN u148 i23 rfl rfl (hjn)) ?_
  refine DL.q rfl (.free rfl) rfl rfl rfl (Yld.load p23 rfl (atM (hc j (.float .f64 b) (by simp [hj])) id)) (Mod.drew _ _) ?_
  iterate 2 refine DL.p rfl rfl rfl ?_
  refine DL.done ?_
  iterate 2 refine RK.seq ?_
  refine RK.region ?_
  refine RL.p rfl rfl ?_
  refine RL.op (.free rfl) rfl rfl (Does.call rfl e125 (no_ok _ _)) ?_
  rintro _ _ ⟨rfl, rfl⟩
  refine RL.p rfl rfl ?_
  refine RL.op (.free rfl) rfl rfl (Does.call rfl e125 (no_ok _ _)) ?_
  rintro _ _ ⟨rfl, rfl⟩
  refine RL.q (.free rfl) rfl rfl (Yld.neqBool u4 rfl rfl) ?_
  refine RL.done ?_
  first | refine RK.condD rfl (fun h20 => ?_) (fun h20 => ?_) | refine RK.condN rfl (fun h20 => ?_) (fun h20 => ?_) | refine RK.cond rfl (fun h20 => ?_) (fun h20 => ?_)
  · iterate 2 refine RK.seq ?_
    refine RK.region ?_
    refine RL.p rfl rfl ?_
    refine RL.op (.free rfl) rfl rfl (Does.call rfl e125 (no_ok _ _)) ?_
    rintro _ _ ⟨rfl, rfl⟩
    refine RL.done ?_
    first | refine RK.condD rfl (fun h22 => ?_) (fun h22 => ?_) | refine RK.condN rfl (fun h22 => ?_) (fun h22 => ?_) | refine RK.cond rfl (fun h22 => ?_) (fun h22 => ?_)
    · refine RK.seq ?_
      refine RK.region ?_
      refine RL.p rfl rfl ?_
      refine RL.done ?_
      refine RK.ret_of Tryz.func136 (res1 rfl rfl) ?_ _
      exact ⟨_, rfl, congrArg _ (by unfold rankS; simp_all), Mod.drew _ _⟩
    · refine RK.skip ?_
      refine RK.seq ?_
      refine RK.region ?_
      refine RL.p rfl rfl ?_
      refine RL.done ?_
      refine RK.ret_of Tryz.func136 (res1 rfl rfl) ?_ _
      exact ⟨_, rfl, congrArg _ (by unfold rankS; simp_all), Mod.drew _ _⟩
  · refine RK.skip ?_
    refine RK.seq ?_
    refine RK.region ?_
    refine RL.p rfl rfl ?_
    refine RL.op (.free rfl) rfl rfl (Does.call rfl e138 (key_ok _ hb' _)) ?_
    rintro _ _ ⟨rfl, rfl⟩
    refine RL.p rfl rfl ?_
    refine RL.op (.free rfl) rfl rfl (Does.call rfl e138 (key_ok _ ha _)) ?_
    rintro _ _ ⟨rfl, rfl⟩
    refine RL.op (.free rfl) rfl rfl (Does.call rfl e137 (compare_ok _ _ _)) ?_
    rintro _ _ ⟨rfl, rfl⟩
    refine RL.p rfl rfl ?_
    refine RL.done ?_
    refine RK.ret_of Tryz.func136 (res1 rfl rfl) ?_ _
    exact ⟨_, rfl, congrArg _ (by unfold rankS; simp_all), Mod.drew _ _⟩

/-! ### the sort, in plain words -/
section
variable {α : Type}
def pos (lt : α → α → Bool) (x : α) (L : List α) : Nat := L.length - (L.reverse.takeWhile (lt x)).length
def insE (lt : α → α → Bool) (L : List α) (x : α) : List α := L.take (pos lt x L) ++ x :: L.drop (pos lt x L)
def isort (lt : α → α → Bool) (xs : List α) : List α := xs.foldl (insE lt) []
theorem insE_split {lt : α → α → Bool} {x : α} {A D : List α} (hD : ∀ y ∈ D, lt x y = true) (hA : ∀ A' y, A = A' ++ [y] → lt x y = false) : insE lt (A ++ D) x = A ++ x :: D := by
  have h1 : (A ++ D).reverse.takeWhile (lt x) = D.reverse := by
    rw [List.reverse_append, List.takeWhile_append_of_pos (by intro y hy; exact hD y (by simpa using hy))]
    have : A.reverse.takeWhile (lt x) = [] := by
      cases hr : A.reverse with
      | nil => rfl
      | cons y l =>
        have : A = l.reverse ++ [y] := by have := congrArg List.reverse hr; simpa using this
        simp [List.takeWhile, hA _ _ this]
    rw [this, List.append_nil]
  have h2 : pos lt x (A ++ D) = A.length := by unfold pos; rw [h1]; simp
  unfold insE
  rw [h2]
  simp
theorem insE_len (lt : α → α → Bool) (L : List α) (x : α) : (insE lt L x).length = L.length + 1 := by
  unfold insE
  simp
  have : pos lt x L ≤ L.length := Nat.sub_le _ _
  omega
theorem isort_snoc (lt : α → α → Bool) (xs : List α) (x : α) : isort lt (xs ++ [x]) = insE lt (isort lt xs) x := by simp [isort]
theorem isort_len (lt : α → α → Bool) (xs : List α) : (isort lt xs).length = xs.length := by
  have : ∀ xs L : List α, (xs.foldl (insE lt) L).length = xs.length + L.length := by
    intro xs
    induction xs with
    | nil => intro L; simp
    | cons x xs ih => intro L; simp only [List.foldl_cons, ih, insE_len, List.length_cons]; omega
  unfold isort
  simpa using this xs []
theorem insE_perm (lt : α → α → Bool) (L : List α) (x : α) : List.Perm (insE lt L x) (L ++ [x]) := by
  unfold insE
  refine (List.perm_middle).trans ?_
  rw [List.take_append_drop]
  exact (List.perm_append_singleton x L).symm
theorem isort_perm (lt : α → α → Bool) (xs : List α) : List.Perm (isort lt xs) xs := by
  have : ∀ xs L : List α, List.Perm (xs.foldl (insE lt) L) (L ++ xs) := by
    intro xs
    induction xs with
    | nil => intro L; simp
    | cons x xs ih =>
      intro L
      simp only [List.foldl_cons]
      refine (ih _).trans ?_
      have := (insE_perm lt L x).append_right xs
      simpa using this
  unfold isort
  simpa using this xs []
theorem swap_eq (A B : List α) (x y : α) : ((A ++ y :: x :: B).set (A.length + 1) y).set A.length x = A ++ x :: y :: B := by
  induction A with
  | nil => rfl
  | cons a A ih => simp
theorem SetAt.of : ∀ {l : List Value} {i : Nat} {v : Value}, i < l.length → SetAt l i v (l.set i v)
  | u :: l, 0, v, _ => .z
  | u :: l, i + 1, v, h => .s (SetAt.of (by simpa using h))
end
/-- Of two places: does the one's value stand ahead? -/
def ahead (vs : List Nat) (x y : Nat) : Bool := decide (rankS (vs.getD x 0) (vs.getD y 0) < 0)
theorem insSort_ok (vs : List Nat) (hlt : ∀ v ∈ vs, v < 18446744073709551616) (xs : List Nat) (hxs : ∀ x ∈ xs, x < vs.length) (hm : xs.length < 1000) (bx g : Nat) (v : Value) (w : World) (hg : Blk w g 3 (nats xs)) (hb : Blk w bx 148 [v]) (hv : Sl (· = g) w v 1 vs.length (flts vs)) (hne : bx ≠ g) :
    Fx Tryz.prog 204 [.slice (some ⟨g, 0, none⟩) xs.length xs.length, .int .i64 0, .int .i64 xs.length, .func (.func 136) #[] #[pp bx]] w
      (fun u w' => u = .tuple #[] ∧ Blk w' g 3 (nats (isort (ahead vs) xs)) ∧ Mod (· = g) w w') := by
  have hget : ∀ x, x < vs.length → vs[x]? = some (vs.getD x 0) ∧ vs.getD x 0 < 18446744073709551616 := fun x hx => by
    have h1 : vs[x]? = some (vs[x]) := List.getElem?_eq_getElem hx
    have h2 : vs.getD x 0 = vs[x] := by simp [List.getD, h1]
    rw [h2]
    exact ⟨h1, hlt _ (List.getElem_mem hx)⟩
  refine enter Tryz.func204 rfl rfl rfl _ (Pick.sub (l := [0, 1, 2, 3]) (.cons rfl (.cons rfl (.cons rfl (.cons rfl .nil))))) ?_
  refine RK.seq ?_
  refine RK.region ?_
  iterate 2 refine RL.p rfl rfl ?_
  refine RL.re (d := 11) rfl rfl (add_i64 (z := ((1 : Nat) : Int)) rfl (by omega) (by omega)) ?_
  refine RL.p rfl rfl ?_
  refine RL.done ?_
  refine RK.block ?_
  refine RK.loop (fun i : Nat => [(0, .slice (some ⟨g, 0, none⟩) xs.length xs.length), (1, .int .i64 0), (2, .int .i64 xs.length), (3, .func (.func 136) #[] #[pp bx]), (8, .int .i64 i)]) (fun i w' => Blk w' g 3 (nats (isort (ahead vs) (xs.take i) ++ xs.drop i)) ∧ Mod (· = g) w w' ∧ 1 ≤ i ∧ (i ≤ xs.length ∨ i = 1)) (fun i => xs.length - i) 1 ⟨rfl, rfl, rfl, rfl, rfl, trivial⟩ ⟨by cases xs with | nil => exact hg | cons x xs => exact hg, Mod.refl _ _, by omega, .inr rfl⟩ (fun i w' hI ih => ?_)
  obtain ⟨hd, hmod, hi1, hi⟩ := hI
  iterate 2 refine RK.seq ?_
  refine RK.region ?_
  iterate 3 refine RL.p rfl rfl ?_
  refine RL.done ?_
  first | refine RK.condD rfl (fun h14 => ?_) (fun h14 => ?_) | refine RK.condN rfl (fun h14 => ?_) (fun h14 => ?_) | refine RK.cond rfl (fun h14 => ?_) (fun h14 => ?_)
  · obtain ⟨x, hx⟩ : ∃ x, xs[i]? = some x := ⟨xs[i]'(by omega), List.getElem?_eq_getElem (by omega)⟩
    obtain ⟨R, hR⟩ : ∃ R, xs.drop i = x :: R := ⟨xs.drop (i + 1), by rw [List.drop_eq_getElem_cons (by omega)]; congr 1; exact (List.getElem?_eq_some_iff.1 hx).2⟩
    have hxn : x < vs.length := hxs x (List.mem_of_getElem? hx)
    have htk : xs.take (i + 1) = xs.take i ++ [x] := by rw [List.take_succ_eq_append_getElem (by omega)]; congr 2; exact (List.getElem?_eq_some_iff.1 hx).2
    have hdr : xs.drop (i + 1) = R := by have := congrArg List.tail hR; simpa using this
    have hLn : ∀ y ∈ isort (ahead vs) (xs.take i), y < vs.length := fun y hy => hxs y (List.mem_of_mem_take ((isort_perm _ _).mem_iff.1 hy))
    have hLl : (isort (ahead vs) (xs.take i)).length = i := by rw [isort_len]; simp; omega
    have hlen : i + R.length + 1 = xs.length := by have := congrArg List.length hR; simp at this; omega
    rw [hR] at hd
    generalize hLe : isort (ahead vs) (xs.take i) = L at *
    refine RK.skip ?_
    refine RK.seq ?_
    refine RK.block ?_
    refine RK.seq ?_
    refine RK.region ?_
    iterate 2 refine RL.p rfl rfl ?_
    refine RL.done ?_
    refine RK.block ?_
    refine RK.loop (fun s : List Nat × List Nat => [(0, .slice (some ⟨g, 0, none⟩) xs.length xs.length), (1, .int .i64 0), (2, .int .i64 xs.length), (3, .func (.func 136) #[] #[pp bx]), (8, .int .i64 i), (9, .int .i64 s.1.length)]) (fun s w' => Blk w' g 3 (nats (s.1 ++ x :: s.2 ++ R)) ∧ Mod (· = g) w w' ∧ s.1 ++ s.2 = L ∧ ∀ y ∈ s.2, ahead vs x y = true) (fun s => s.1.length) (L, []) ⟨rfl, rfl, rfl, rfl, rfl, by rw [hLl]; rfl, trivial⟩ ⟨by simpa using hd, hmod, by simp, by simp⟩ (fun s w'' hI2 ih2 => ?_)
    obtain ⟨A, D⟩ := s
    obtain ⟨hd2, hmod2, hAD, hD⟩ := hI2
    simp only at hd2 hmod2 hAD hD
    have hAl : A.length + D.length = i := by rw [← hLl, ← hAD]; simp
    refine RK.re (d := 9) rfl (v' := .int .i64 (A.length : Int)) rfl ?_
    iterate 2 refine RK.seq ?_
    refine RK.drawM No [(0, false), (1, false), (2, false), (3, false), (4, false), (5, false), (6, false), (7, false), (8, false), (9, false), (10, false), (11, false), (12, false), (13, false), (14, true), (15, false), (16, false)] [] mixed (by kernel_rfl) ?_
    iterate 4 refine DL.p rfl rfl rfl ?_
    first | refine DL.splitD (d := 21) rfl rfl (fun h20 => ?_) (fun h20 => ?_) | refine DL.splitN (d := 21) rfl rfl (fun h20 => ?_) (fun h20 => ?_) | refine DL.split (d := 21) rfl rfl (fun h20 => ?_) (fun h20 => ?_)
    · obtain ⟨A', y, rfl⟩ : ∃ A' y, A = A' ++ [y] := ⟨A.dropLast, A.getLast (by intro h; subst h; simp at h20), (List.dropLast_concat_getLast _).symm⟩
      have hyn : y < vs.length := hLn y (by rw [← hAD]; simp)
      have hAl' : (A' ++ [y]).length = A'.length + 1 := by simp
      have e1 : (nats (A' ++ [y] ++ x :: D ++ R))[(A' ++ [y]).length]? = some (.int .i64 (x : Int)) := by simp
      have e2 : (nats (A' ++ [y] ++ x :: D ++ R))[A'.length]? = some (.int .i64 (y : Int)) := by simp
      iterate 3 refine DL.qf rfl (.yes rfl rfl rfl) rfl rfl (Yld.pure rfl) ?_
      refine DL.qf rfl (.yes rfl rfl rfl) rfl rfl (Yld.indexAddrN u22 i3 rfl rfl (by omega)) ?_
      refine DL.q rfl (.yes rfl rfl rfl) rfl rfl rfl (Yld.load p3 rfl (atM (hd2.at1 e1) (id))) (Mod.drew _ _) ?_
      iterate 3 refine DL.qf rfl (.yes rfl rfl rfl) rfl rfl (Yld.pure rfl) ?_
      refine DL.re (d := 29) rfl rfl (sub_i64 (z := (A'.length : Int)) (by simp) (by omega) (by omega)) ?_
      refine DL.qf rfl (.yes rfl rfl rfl) rfl rfl (Yld.indexAddrN u22 i3 rfl rfl (by omega)) ?_
      refine DL.q rfl (.yes rfl rfl rfl) rfl rfl rfl (Yld.load p3 rfl (atM (hd2.at1 e2) (id))) (Mod.drew _ _) ?_
      refine DL.op rfl (.yes rfl rfl rfl) rfl rfl (Does.callv rfl rfl e136 (rank1_ok vs bx v x y _ _ _ ((hb.mod hmod2 hne).mod (Mod.drew No _) id) ((hv.mod (hmod2.then (Mod.drew No _) (fun _ _ h => h.elim))).noM) (hget x hxn).1 (hget y hyn).1 (hget x hxn).2 (hget y hyn).2)) ?_
      rintro _ w3 ⟨rfl, hg3⟩
      refine ⟨(Mod.drew _ _).trans hg3, ?_⟩
      refine DL.qf rfl (.yes rfl rfl rfl) rfl rfl (Yld.pure rfl) ?_
      refine DL.p rfl rfl rfl ?_
      refine DL.done ?_
      first | refine RK.condD rfl (fun h34 => ?_) (fun h34 => ?_) | refine RK.condN rfl (fun h34 => ?_) (fun h34 => ?_) | refine RK.cond rfl (fun h34 => ?_) (fun h34 => ?_)
      · have hd3 := hd2.mod ((Mod.drew No _).trans hg3) id
        have hmod3 := hmod2.then ((Mod.drew No _).trans hg3) (fun _ _ h => h.elim)
        refine RK.skip ?_
        refine RK.seq ?_
        refine RK.block ?_
        refine RK.drawM No [(0, false), (1, false), (2, false), (3, false), (4, false), (5, false), (6, false), (7, false), (8, false), (9, false), (10, false), (11, false), (12, false), (13, false), (14, false), (15, true), (16, false), (17, true)] [15, 17] mixed (by kernel_rfl) ?_
        iterate 5 refine DL.p rfl rfl rfl ?_
        refine DL.re (d := 41) rfl rfl (sub_i64 (z := (A'.length : Int)) (by simp) (by omega) (by omega)) ?_
        iterate 3 refine DL.p rfl rfl rfl ?_
        refine DL.re (d := 44) rfl rfl (sub_i64 (z := (A'.length : Int)) (by simp) (by omega) (by omega)) ?_
        refine DL.qf rfl (.free rfl) rfl rfl (Yld.indexAddrN u22 i3 rfl rfl (by omega)) ?_
        refine DL.q rfl (.free rfl) rfl rfl rfl (Yld.load p3 rfl (atM (hd3.at1 e2) (id))) (Mod.drew _ _) ?_
        iterate 2 refine DL.p rfl rfl rfl ?_
        refine DL.qf rfl (.free rfl) rfl rfl (Yld.indexAddrN u22 i3 rfl rfl (by omega)) ?_
        refine DL.q rfl (.free rfl) rfl rfl rfl (Yld.load p3 rfl (atM (hd3.at1 e1) (id))) (Mod.drew _ _) ?_
        refine DL.qf rfl (.free rfl) rfl rfl (Yld.indexAddrN u22 i3 rfl rfl (by omega)) ?_
        refine DL.opT rfl (.free rfl) rfl rfl (Does.store i3 rfl rfl rfl (hd3.mod (Mod.drew No _) id) (SetAt.of (by simp))) ?_
        rintro _ w4 ⟨hd4, hm4, _⟩
        refine DL.qf rfl (.free rfl) rfl rfl (Yld.indexAddrN u22 i3 rfl rfl (by omega)) ?_
        refine DL.opT rfl (.free rfl) rfl rfl (Does.store i3 rfl rfl rfl hd4 (SetAt.of (by simp))) ?_
        rintro _ w5 ⟨hd5, hm5, _⟩
        have h5 : ((nats (A' ++ [y] ++ x :: D ++ R)).set (0 + (A' ++ [y]).length * 1) (.int .i64 (y : Int))).set (0 + A'.length * 1) (.int .i64 (x : Int)) = nats (A' ++ x :: (y :: D) ++ R) := by simp [nats]
        refine DL.done ?_
        refine RK.inBlock ?_
        refine RK.region ?_
        iterate 2 refine RL.p rfl rfl ?_
        refine RL.re (d := 36) rfl rfl (sub_i64 (z := (A'.length : Int)) (by simp) (by omega) (by omega)) ?_
        refine RL.p rfl rfl ?_
        refine RL.done ?_
        exact RK.back (ih2 (A', y :: D) _ ⟨h5 ▸ hd5, (hmod3.then (Mod.drew No _) (fun _ _ h => h.elim)).trans (hm4.trans hm5), by simpa using hAD, by intro z hz; simp at hz; rcases hz with rfl | hz; exact decide_eq_true h34; exact hD z hz⟩ (by simp)) ⟨rfl, rfl, rfl, rfl, rfl, rfl, trivial⟩
      · have hfin := insE_split (lt := ahead vs) (x := x) (A := A' ++ [y]) (D := D) hD (fun A2 y2 h => by obtain ⟨rfl, h3⟩ := List.append_inj' h rfl; cases h3; exact decide_eq_false h34)
        refine RK.exit rfl ?_
        refine RK.inBlock ?_
        refine RK.region ?_
        iterate 2 refine RL.p rfl rfl ?_
        refine RL.re (d := 16) rfl rfl (succ_i64 (by omega)) ?_
        refine RL.p rfl rfl ?_
        refine RL.done ?_
        exact RK.back (ih (i + 1) _ ⟨by rw [htk, isort_snoc, hLe, ← hAD, hfin, hdr]; exact hd2.mod ((Mod.drew No _).trans hg3) id, hmod2.then ((Mod.drew No _).trans hg3) (fun _ _ h => h.elim), by omega, .inl (by omega)⟩ (by omega)) ⟨rfl, rfl, rfl, rfl, rfl, trivial⟩
    · have hA0 : A = [] := List.eq_nil_of_length_eq_zero (by omega)
      subst hA0
      have hfin := insE_split (lt := ahead vs) (x := x) (A := []) (D := D) hD (fun A2 y2 h => by simp at h)
      iterate 10 refine DL.no rfl (.no rfl rfl rfl rfl) rfl rfl ?_
      refine DL.lno rfl (.no rfl rfl rfl rfl) rfl rfl ?_
      refine DL.no rfl (.no rfl rfl rfl rfl) rfl rfl ?_
      refine DL.p rfl rfl rfl ?_
      refine DL.done ?_
      refine RK.condF rfl ?_
      refine RK.exit rfl ?_
      refine RK.inBlock ?_
      refine RK.region ?_
      iterate 2 refine RL.p rfl rfl ?_
      refine RL.re (d := 16) rfl rfl (succ_i64 (by omega)) ?_
      refine RL.p rfl rfl ?_
      refine RL.done ?_
      exact RK.back (ih (i + 1) _ ⟨by rw [htk, isort_snoc, hLe, ← hAD, hfin, hdr]; exact hd2.mod (Mod.drew No _) id, hmod2.then (Mod.drew No _) (fun _ _ h => h.elim), by omega, .inl (by omega)⟩ (by omega)) ⟨rfl, rfl, rfl, rfl, rfl, trivial⟩
  · refine RK.exit rfl ?_
    refine RK.end_of Tryz.func204 (res0 rfl) ?_
    exact ⟨_, rfl, rfl, by have h1 : xs.take i = xs := List.take_of_length_le (by omega); have h2 : xs.drop i = [] := List.drop_eq_nil_of_le (by omega); rw [h1, h2, List.append_nil] at hd; exact hd, hmod⟩
end Go.Proofs.YtffbcfcoddacmaaGreat

