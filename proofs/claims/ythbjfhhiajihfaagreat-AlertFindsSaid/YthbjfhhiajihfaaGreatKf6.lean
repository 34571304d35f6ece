/- What the claim stands on, part 6. Of own lemmas only those that it reaches. -/
import Derived.Test.YthbjfhhiajihfaaGreatKf5
set_option linter.unusedVariables false
set_option linter.unusedSimpArgs false
set_option maxHeartbeats 400000
set_option maxRecDepth 100000
namespace Go.Proofs.YthbjfhhiajihfaaGreat
open Go Go.X
abbrev flts (vs : List Nat) : List Value := vs.map (Value.float .f64)
abbrev nats (xs : List Nat) : List Value := xs.map fun x : Nat => Value.int .i64 (x : Int)
theorem rank1_ok (vs : List Nat) (bx : Nat) (v : Value) (i j a b : Nat) (w : World) (hb : Blk w bx 235 [v]) (hv : Sl No w v 1 vs.length (flts vs)) (hi : vs[i]? = some a) (hj : vs[j]? = some b) (ha : a < 18446744073709551616) (hb' : b < 18446744073709551616) :
  Fx Tryz.prog 223 [.int .i64 i, .int .i64 j, pp bx] w (fun u w' => u = .int .i64 (rankS a b) ∧ Grow w w') := by
 obtain ⟨g, o, c, rfl, _, hin, hc⟩ := hv.elem1 (k := i) (u := .float .f64 a) (by simp [hi])
 have hjn : j < vs.length := (List.getElem?_eq_some_iff.1 hj).1
 refine enter Tryz.func223 rfl rfl rfl _ (Pick.sub (l := [0, 1, 2]) (.cons rfl (.cons rfl (.cons rfl .nil)))) ?_
 refine GG ?_
 refine RK.drawM No [(0, false), (1, false), (2, false), (3, false), (4, false), (5, false), (6, false), (7, false), (8, false), (9, false)] [] mixed (by kernel_rfl) ?_
 refine DQ (Yld.load p235 rfl (atM (hb.cell rfl) id)) (Mod.drew _ _) ?_
 refine DL.p rfl rfl rfl ?_
 refine DF (Yld.indexAddrN u235 i25 rfl rfl (hin)) ?_
 refine DQ (Yld.load p25 rfl (atM (hc i (.float .f64 a) (by simp [hi])) id)) (Mod.drew _ _) ?_
 refine DQ (Yld.load p235 rfl (atM (hb.cell rfl) id)) (Mod.drew _ _) ?_
 refine DL.p rfl rfl rfl ?_
 refine DF (Yld.indexAddrN u235 i25 rfl rfl (hjn)) ?_
 refine DQ (Yld.load p25 rfl (atM (hc j (.float .f64 b) (by simp [hj])) id)) (Mod.drew _ _) ?_
 refine GG ?_
 refine OP (Does.call rfl e221 (no_ok _ _)) ?_
 rintro _ _ ⟨rfl, rfl⟩
 refine RL.p rfl rfl ?_
 refine OP (Does.call rfl e221 (no_ok _ _)) ?_
 rintro _ _ ⟨rfl, rfl⟩
 refine QQ (Yld.neqBool u4 rfl rfl) ?_
 refine RL.done ?_
 refine CD (fun h20 => ?_) (fun h20 => ?_)
 ·refine GG ?_
  refine OP (Does.call rfl e221 (no_ok _ _)) ?_
  rintro _ _ ⟨rfl, rfl⟩
  refine RL.done ?_
  refine CD (fun h22 => ?_) (fun h22 => ?_)
  ·refine GG ?_
   refine RK.ret_of Tryz.func223 (res1 rfl rfl) ?_ _
   exact ⟨_, rfl, congrArg _ (by unfold rankS; simp_all), Mod.drew _ _⟩
  ·refine GG ?_
   refine RK.ret_of Tryz.func223 (res1 rfl rfl) ?_ _
   exact ⟨_, rfl, congrArg _ (by unfold rankS; simp_all), Mod.drew _ _⟩
 ·refine GG ?_
  refine OP (Does.call rfl e225 (key_ok _ hb' _)) ?_
  rintro _ _ ⟨rfl, rfl⟩
  refine RL.p rfl rfl ?_
  refine OP (Does.call rfl e225 (key_ok _ ha _)) ?_
  rintro _ _ ⟨rfl, rfl⟩
  refine OP (Does.call rfl e224 (compare_ok _ _ _)) ?_
  rintro _ _ ⟨rfl, rfl⟩
  refine GG ?_
  refine RK.ret_of Tryz.func223 (res1 rfl rfl) ?_ _
  exact ⟨_, rfl, congrArg _ (by unfold rankS; simp_all), Mod.drew _ _⟩
section
variable {α : Type}
def pos (lt : α → α → Bool) (x : α) (L : List α) : Nat := L.length - (L.reverse.takeWhile (lt x)).length
def insE (lt : α → α → Bool) (L : List α) (x : α) : List α := L.take (pos lt x L) ++ x :: L.drop (pos lt x L)
def isort (lt : α → α → Bool) (xs : List α) : List α := xs.foldl (insE lt) []
theorem insE_split {lt : α → α → Bool} {x : α} {A D : List α} (hD : ∀ y ∈ D, lt x y = true) (hA : ∀ A' y, A = A' ++ [y] → lt x y = false) : insE lt (A ++ D) x = A ++ x :: D := by
 have h1 : (A ++ D).reverse.takeWhile (lt x) = D.reverse := by
  rw [List.reverse_append, List.takeWhile_append_of_pos (by intro y hy; exact hD y (by simpa using hy))]
  have : A.reverse.takeWhile (lt x) = [] := by
   cases hr : A.reverse with
   | nil => rfl
   | cons y l =>
    have : A = l.reverse ++ [y] := by have := congrArg List.reverse hr; simpa using this
    simp [List.takeWhile, hA _ _ this]
  rw [this, List.append_nil]
 have h2 : pos lt x (A ++ D) = A.length := by unfold pos; rw [h1]; simp
 unfold insE
 rw [h2]
 simp
theorem insE_len (lt : α → α → Bool) (L : List α) (x : α) : (insE lt L x).length = L.length + 1 := by
 unfold insE
 simp
 have : pos lt x L ≤ L.length := Nat.sub_le _ _
 omega
theorem isort_snoc (lt : α → α → Bool) (xs : List α) (x : α) : isort lt (xs ++ [x]) = insE lt (isort lt xs) x := by simp [isort]
theorem isort_len (lt : α → α → Bool) (xs : List α) : (isort lt xs).length = xs.length := by
 have : ∀ xs L : List α, (xs.foldl (insE lt) L).length = xs.length + L.length := by
  intro xs
  induction xs with
  | nil => intro L; simp
  | cons x xs ih => intro L; simp only [List.foldl_cons, ih, insE_len, List.length_cons]; omega
 unfold isort
 simpa using this xs []
theorem insE_perm (lt : α → α → Bool) (L : List α) (x : α) : List.Perm (insE lt L x) (L ++ [x]) := by
 unfold insE
 refine (List.perm_middle).trans ?_
 rw [List.take_append_drop]
 exact (List.perm_append_singleton x L).symm
theorem isort_perm (lt : α → α → Bool) (xs : List α) : List.Perm (isort lt xs) xs := by
 have : ∀ xs L : List α, List.Perm (xs.foldl (insE lt) L) (L ++ xs) := by
  intro xs
  induction xs with
  | nil => intro L; simp
  | cons x xs ih =>
   intro L
   simp only [List.foldl_cons]
   refine (ih _).trans ?_
   have := (insE_perm lt L x).append_right xs
   simpa using this
 unfold isort
 simpa using this xs []
theorem SetAt.of : ∀ {l : List Value} {i : Nat} {v : Value}, i < l.length → SetAt l i v (l.set i v)
 | u :: l, 0, v, _ => .z
 | u :: l, i + 1, v, h => .s (SetAt.of (by simpa using h))
end
def ahead (vs : List Nat) (x y : Nat) : Bool := decide (rankS (vs.getD x 0) (vs.getD y 0) < 0)
theorem insSort_ok (vs : List Nat) (hlt : ∀ v ∈ vs, v < 18446744073709551616) (xs : List Nat) (hxs : ∀ x ∈ xs, x < vs.length) (hm : xs.length < 1000) (bx g : Nat) (v : Value) (w : World) (hg : Blk w g 3 (nats xs)) (hb : Blk w bx 235 [v]) (hv : Sl (· = g) w v 1 vs.length (flts vs)) (hne : bx ≠ g) :
    Fx Tryz.prog 290 [.slice (some ⟨g, 0, none⟩) xs.length xs.length, .int .i64 0, .int .i64 xs.length, .func (.func 223) #[] #[pp bx]] w
      (fun u w' => u = .tuple #[] ∧ Blk w' g 3 (nats (isort (ahead vs) xs)) ∧ Mod (· = g) w w') := by
  have hget : ∀ x, x < vs.length → vs[x]? = some (vs.getD x 0) ∧ vs.getD x 0 < 18446744073709551616 := fun x hx => by
    have h1 : vs[x]? = some (vs[x]) := List.getElem?_eq_getElem hx
    have h2 : vs.getD x 0 = vs[x] := by simp [List.getD, h1]
    rw [h2]
    exact ⟨h1, hlt _ (List.getElem_mem hx)⟩
  refine enter Tryz.func290 rfl rfl rfl _ (Pick.sub (l := [0, 1, 2, 3]) (.cons rfl (.cons rfl (.cons rfl (.cons rfl .nil))))) ?_
  refine RK.seq ?_
  refine RK.region ?_
  iterate 2 refine RL.p rfl rfl ?_
  refine RL.re (d := 11) rfl rfl (add_i64 (z := ((1 : Nat) : Int)) rfl (by omega) (by omega)) ?_
  refine RL.p rfl rfl ?_
  refine RL.done ?_
  refine RK.block ?_
  refine RK.loop (fun i : Nat => [(0, .slice (some ⟨g, 0, none⟩) xs.length xs.length), (1, .int .i64 0), (2, .int .i64 xs.length), (3, .func (.func 223) #[] #[pp bx]), (8, .int .i64 i)]) (fun i w' => Blk w' g 3 (nats (isort (ahead vs) (xs.take i) ++ xs.drop i)) ∧ Mod (· = g) w w' ∧ 1 ≤ i ∧ (i ≤ xs.length ∨ i = 1)) (fun i => xs.length - i) 1 ⟨rfl, rfl, rfl, rfl, rfl, trivial⟩ ⟨by cases xs with | nil => exact hg | cons x xs => exact hg, Mod.refl _ _, by omega, .inr rfl⟩ (fun i w' hI ih => ?_)
  obtain ⟨hd, hmod, hi1, hi⟩ := hI
  iterate 2 refine RK.seq ?_
  refine RK.region ?_
  iterate 3 refine RL.p rfl rfl ?_
  refine RL.done ?_
  first | refine RK.condD rfl (fun h14 => ?_) (fun h14 => ?_) | refine RK.condN rfl (fun h14 => ?_) (fun h14 => ?_) | refine RK.cond rfl (fun h14 => ?_) (fun h14 => ?_)
  · obtain ⟨x, hx⟩ : ∃ x, xs[i]? = some x := ⟨xs[i]'(by omega), List.getElem?_eq_getElem (by omega)⟩
    obtain ⟨R, hR⟩ : ∃ R, xs.drop i = x :: R := ⟨xs.drop (i + 1), by rw [List.drop_eq_getElem_cons (by omega)]; congr 1; exact (List.getElem?_eq_some_iff.1 hx).2⟩
    have hxn : x < vs.length := hxs x (List.mem_of_getElem? hx)
    have htk : xs.take (i + 1) = xs.take i ++ [x] := by rw [List.take_succ_eq_append_getElem (by omega)]; congr 2; exact (List.getElem?_eq_some_iff.1 hx).2
    have hdr : xs.drop (i + 1) = R := by have := congrArg List.tail hR; simpa using this
    have hLn : ∀ y ∈ isort (ahead vs) (xs.take i), y < vs.length := fun y hy => hxs y (List.mem_of_mem_take ((isort_perm _ _).mem_iff.1 hy))
    have hLl : (isort (ahead vs) (xs.take i)).length = i := by rw [isort_len]; simp; omega
    have hlen : i + R.length + 1 = xs.length := by have := congrArg List.length hR; simp at this; omega
    rw [hR] at hd
    generalize hLe : isort (ahead vs) (xs.take i) = L at *
    refine RK.skip ?_
    refine RK.seq ?_
    refine RK.block ?_
    refine RK.seq ?_
    refine RK.region ?_
    iterate 2 refine RL.p rfl rfl ?_
    refine RL.done ?_
    refine RK.block ?_
    refine RK.loop (fun s : List Nat × List Nat => [(0, .slice (some ⟨g, 0, none⟩) xs.length xs.length), (1, .int .i64 0), (2, .int .i64 xs.length), (3, .func (.func 223) #[] #[pp bx]), (8, .int .i64 i), (9, .int .i64 s.1.length)]) (fun s w' => Blk w' g 3 (nats (s.1 ++ x :: s.2 ++ R)) ∧ Mod (· = g) w w' ∧ s.1 ++ s.2 = L ∧ ∀ y ∈ s.2, ahead vs x y = true) (fun s => s.1.length) (L, []) ⟨rfl, rfl, rfl, rfl, rfl, by rw [hLl]; rfl, trivial⟩ ⟨by simpa using hd, hmod, by simp, by simp⟩ (fun s w'' hI2 ih2 => ?_)
    obtain ⟨A, D⟩ := s
    obtain ⟨hd2, hmod2, hAD, hD⟩ := hI2
    simp only at hd2 hmod2 hAD hD
    have hAl : A.length + D.length = i := by rw [← hLl, ← hAD]; simp
    refine RK.re (d := 9) rfl (v' := .int .i64 (A.length : Int)) rfl ?_
    iterate 2 refine RK.seq ?_
    refine RK.drawM No [(0, false), (1, false), (2, false), (3, false), (4, false), (5, false), (6, false), (7, false), (8, false), (9, false), (10, false), (11, false), (12, false), (13, false), (14, true), (15, false), (16, false)] [] mixed (by kernel_rfl) ?_
    iterate 4 refine DL.p rfl rfl rfl ?_
    first | refine DL.splitD (d := 21) rfl rfl (fun h20 => ?_) (fun h20 => ?_) | refine DL.splitN (d := 21) rfl rfl (fun h20 => ?_) (fun h20 => ?_) | refine DL.split (d := 21) rfl rfl (fun h20 => ?_) (fun h20 => ?_)
    · obtain ⟨A', y, rfl⟩ : ∃ A' y, A = A' ++ [y] := ⟨A.dropLast, A.getLast (by intro h; subst h; simp at h20), (List.dropLast_concat_getLast _).symm⟩
      have hyn : y < vs.length := hLn y (by rw [← hAD]; simp)
      have hAl' : (A' ++ [y]).length = A'.length + 1 := by simp
      have e1 : (nats (A' ++ [y] ++ x :: D ++ R))[(A' ++ [y]).length]? = some (.int .i64 (x : Int)) := by simp
      have e2 : (nats (A' ++ [y] ++ x :: D ++ R))[A'.length]? = some (.int .i64 (y : Int)) := by simp
      iterate 3 refine DL.qf rfl (.yes rfl rfl rfl) rfl rfl (Yld.pure rfl) ?_
      refine DL.qf rfl (.yes rfl rfl rfl) rfl rfl (Yld.indexAddrN u37 i3 rfl rfl (by omega)) ?_
      refine DL.q rfl (.yes rfl rfl rfl) rfl rfl rfl (Yld.load p3 rfl (atM (hd2.at1 e1) (id))) (Mod.drew _ _) ?_
      iterate 3 refine DL.qf rfl (.yes rfl rfl rfl) rfl rfl (Yld.pure rfl) ?_
      refine DL.re (d := 29) rfl rfl (sub_i64 (z := (A'.length : Int)) (by simp) (by omega) (by omega)) ?_
      refine DL.qf rfl (.yes rfl rfl rfl) rfl rfl (Yld.indexAddrN u37 i3 rfl rfl (by omega)) ?_
      refine DL.q rfl (.yes rfl rfl rfl) rfl rfl rfl (Yld.load p3 rfl (atM (hd2.at1 e2) (id))) (Mod.drew _ _) ?_
      refine DL.op rfl (.yes rfl rfl rfl) rfl rfl (Does.callv rfl rfl e223 (rank1_ok vs bx v x y _ _ _ ((hb.mod hmod2 hne).mod (Mod.drew No _) id) ((hv.mod (hmod2.then (Mod.drew No _) (fun _ _ h => h.elim))).noM) (hget x hxn).1 (hget y hyn).1 (hget x hxn).2 (hget y hyn).2)) ?_
      rintro _ w3 ⟨rfl, hg3⟩
      refine ⟨(Mod.drew _ _).trans hg3, ?_⟩
      refine DL.qf rfl (.yes rfl rfl rfl) rfl rfl (Yld.pure rfl) ?_
      refine DL.p rfl rfl rfl ?_
      refine DL.done ?_
      first | refine RK.condD rfl (fun h34 => ?_) (fun h34 => ?_) | refine RK.condN rfl (fun h34 => ?_) (fun h34 => ?_) | refine RK.cond rfl (fun h34 => ?_) (fun h34 => ?_)
      · have hd3 := hd2.mod ((Mod.drew No _).trans hg3) id
        have hmod3 := hmod2.then ((Mod.drew No _).trans hg3) (fun _ _ h => h.elim)
        refine RK.skip ?_
        refine RK.seq ?_
        refine RK.block ?_
        refine RK.drawM No [(0, false), (1, false), (2, false), (3, false), (4, false), (5, false), (6, false), (7, false), (8, false), (9, false), (10, false), (11, false), (12, false), (13, false), (14, false), (15, true), (16, false), (17, true)] [15, 17] mixed (by kernel_rfl) ?_
        iterate 5 refine DL.p rfl rfl rfl ?_
        refine DL.re (d := 41) rfl rfl (sub_i64 (z := (A'.length : Int)) (by simp) (by omega) (by omega)) ?_
        iterate 3 refine DL.p rfl rfl rfl ?_
        refine DL.re (d := 44) rfl rfl (sub_i64 (z := (A'.length : Int)) (by simp) (by omega) (by omega)) ?_
        refine DL.qf rfl (.free rfl) rfl rfl (Yld.indexAddrN u37 i3 rfl rfl (by omega)) ?_
        refine DL.q rfl (.free rfl) rfl rfl rfl (Yld.load p3 rfl (atM (hd3.at1 e2) (id))) (Mod.drew _ _) ?_
        iterate 2 refine DL.p rfl rfl rfl ?_
        refine DL.qf rfl (.free rfl) rfl rfl (Yld.indexAddrN u37 i3 rfl rfl (by omega)) ?_
        refine DL.q rfl (.free rfl) rfl rfl rfl (Yld.load p3 rfl (atM (hd3.at1 e1) (id))) (Mod.drew _ _) ?_
        refine DL.qf rfl (.free rfl) rfl rfl (Yld.indexAddrN u37 i3 rfl rfl (by omega)) ?_
        refine DL.opT rfl (.free rfl) rfl rfl (Does.store i3 rfl rfl rfl (hd3.mod (Mod.drew No _) id) (SetAt.of (by simp))) ?_
        rintro _ w4 ⟨hd4, hm4, _⟩
        refine DL.qf rfl (.free rfl) rfl rfl (Yld.indexAddrN u37 i3 rfl rfl (by omega)) ?_
        refine DL.opT rfl (.free rfl) rfl rfl (Does.store i3 rfl rfl rfl hd4 (SetAt.of (by simp))) ?_
        rintro _ w5 ⟨hd5, hm5, _⟩
        have h5 : ((nats (A' ++ [y] ++ x :: D ++ R)).set (0 + (A' ++ [y]).length * 1) (.int .i64 (y : Int))).set (0 + A'.length * 1) (.int .i64 (x : Int)) = nats (A' ++ x :: (y :: D) ++ R) := by simp [nats]
        refine DL.done ?_
        refine RK.inBlock ?_
        refine RK.region ?_
        iterate 2 refine RL.p rfl rfl ?_
        refine RL.re (d := 36) rfl rfl (sub_i64 (z := (A'.length : Int)) (by simp) (by omega) (by omega)) ?_
        refine RL.p rfl rfl ?_
        refine RL.done ?_
        exact RK.back (ih2 (A', y :: D) _ ⟨h5 ▸ hd5, (hmod3.then (Mod.drew No _) (fun _ _ h => h.elim)).trans (hm4.trans hm5), by simpa using hAD, by intro z hz; simp at hz; rcases hz with rfl | hz; exact decide_eq_true h34; exact hD z hz⟩ (by simp)) ⟨rfl, rfl, rfl, rfl, rfl, rfl, trivial⟩
      · have hfin := insE_split (lt := ahead vs) (x := x) (A := A' ++ [y]) (D := D) hD (fun A2 y2 h => by obtain ⟨rfl, h3⟩ := List.append_inj' h rfl; cases h3; exact decide_eq_false h34)
        refine RK.exit rfl ?_
        refine RK.inBlock ?_
        refine RK.region ?_
        iterate 2 refine RL.p rfl rfl ?_
        refine RL.re (d := 16) rfl rfl (succ_i64 (by omega)) ?_
        refine RL.p rfl rfl ?_
        refine RL.done ?_
        exact RK.back (ih (i + 1) _ ⟨by rw [htk, isort_snoc, hLe, ← hAD, hfin, hdr]; exact hd2.mod ((Mod.drew No _).trans hg3) id, hmod2.then ((Mod.drew No _).trans hg3) (fun _ _ h => h.elim), by omega, .inl (by omega)⟩ (by omega)) ⟨rfl, rfl, rfl, rfl, rfl, trivial⟩
    · have hA0 : A = [] := List.eq_nil_of_length_eq_zero (by omega)
      subst hA0
      have hfin := insE_split (lt := ahead vs) (x := x) (A := []) (D := D) hD (fun A2 y2 h => by simp at h)
      iterate 10 refine DL.no rfl (.no rfl rfl rfl rfl) rfl rfl ?_
      refine DL.lno rfl (.no rfl rfl rfl rfl) rfl rfl ?_
      refine DL.no rfl (.no rfl rfl rfl rfl) rfl rfl ?_
      refine DL.p rfl rfl rfl ?_
      refine DL.done ?_
      refine RK.condF rfl ?_
      refine RK.exit rfl ?_
      refine RK.inBlock ?_
      refine RK.region ?_
      iterate 2 refine RL.p rfl rfl ?_
      refine RL.re (d := 16) rfl rfl (succ_i64 (by omega)) ?_
      refine RL.p rfl rfl ?_
      refine RL.done ?_
      exact RK.back (ih (i + 1) _ ⟨by rw [htk, isort_snoc, hLe, ← hAD, hfin, hdr]; exact hd2.mod (Mod.drew No _) id, hmod2.then (Mod.drew No _) (fun _ _ h => h.elim), by omega, .inl (by omega)⟩ (by omega)) ⟨rfl, rfl, rfl, rfl, rfl, trivial⟩
  · refine RK.exit rfl ?_
    refine RK.end_of Tryz.func290 (res0 rfl) ?_
    exact ⟨_, rfl, rfl, by have h1 : xs.take i = xs := List.take_of_length_le (by omega); have h2 : xs.drop i = [] := List.drop_eq_nil_of_le (by omega); rw [h1, h2, List.append_nil] at hd; exact hd, hmod⟩
end Go.Proofs.YthbjfhhiajihfaaGreat
set_option linter.unusedVariables false
set_option linter.unusedSimpArgs false
set_option maxHeartbeats 400000
set_option maxRecDepth 100000
namespace Go.Proofs.YthbjfhhiajihfaaGreat
open Go Go.X
theorem stable_ok (vs : List Nat) (hlt : ∀ v ∈ vs, v < 18446744073709551616) (xs : List Nat) (hxs : ∀ x ∈ xs, x < vs.length) (hm : xs.length < 20) (bx g : Nat) (v : Value) (w : World) (hg : Blk w g 3 (nats xs)) (hb : Blk w bx 235 [v]) (hv : Sl (· = g) w v 1 vs.length (flts vs)) (hne : bx ≠ g) :
  Fx Tryz.prog 267 [.slice (some ⟨g, 0, none⟩) xs.length xs.length, .int .i64 xs.length, .func (.func 223) #[] #[pp bx]] w
   (fun u w' => u = .tuple #[] ∧ Blk w' g 3 (nats (isort (ahead vs) xs)) ∧ Mod (· = g) w w') := by
 refine enter Tryz.func267 rfl rfl rfl _ (Pick.sub (l := [0, 1, 2]) (.cons rfl (.cons rfl (.cons rfl .nil)))) ?_
 refine GG ?_
 refine RK.loop (fun _ : Unit => [(0, .slice (some ⟨g, 0, none⟩) xs.length xs.length), (1, .int .i64 xs.length), (2, .func (.func 223) #[] #[pp bx]), (6, .int .i64 20), (7, .int .i64 0), (8, .int .i64 20)]) (fun _ w' => w = w') (fun _ => 0) () ⟨rfl, rfl, rfl, rfl, rfl, rfl, trivial⟩ rfl (fun _ w' hI ih => ?_)
 subst hI
 refine GG ?_
 refine RK.condF (hcF rfl (decide_eq_false (by omega))) ?_
 refine RK.exit rfl ?_
 refine GG ?_
 refine OP (Does.call rfl e290 (insSort_ok vs hlt xs hxs (by omega) bx g v _ hg hb hv hne)) ?_
 rintro _ w2 ⟨rfl, hg2, hm2⟩
 refine GG ?_
 refine RK.loop (fun _ : Unit => [(1, .int .i64 xs.length), (6, .int .i64 20)]) (fun _ w' => w2 = w') (fun _ => 0) () ⟨rfl, rfl, trivial⟩ rfl (fun _ w' hI ih => ?_)
 subst hI
 refine GG ?_
 refine RK.condF (hcF rfl (decide_eq_false (by omega))) ?_
 refine RK.exit rfl ?_
 refine RK.end_of Tryz.func267 (res0 rfl) ?_
 exact ⟨_, rfl, rfl, hg2, hm2⟩
theorem sortStable_ok (vs : List Nat) (hlt : ∀ v ∈ vs, v < 18446744073709551616) (xs : List Nat) (m : Nat) (hxm : xs.length = m) (hxs : ∀ x ∈ xs, x < vs.length) (hm : xs.length < 20) (bx g : Nat) (v : Value) (w : World) (hg : Blk w g 3 (nats xs)) (hb : Blk w bx 235 [v]) (hv : Sl (· = g) w v 1 vs.length (flts vs)) (hne : bx ≠ g) :
  Fx Tryz.prog 222 [.slice (some ⟨g, 0, none⟩) m m, .func (.func 223) #[] #[pp bx]] w
   (fun u w' => u = .tuple #[] ∧ Blk w' g 3 (nats (isort (ahead vs) xs)) ∧ Mod (· = g) w w') := by
 subst hxm
 refine enter Tryz.func222 rfl rfl rfl _ (Pick.sub (l := [0, 1]) (.cons rfl (.cons rfl .nil))) ?_
 refine GG ?_
 refine QQ (Yld.lenSl u37 rfl) ?_
 refine RL.p rfl rfl ?_
 refine OP (Does.call rfl e267 (stable_ok vs hlt xs hxs hm bx g v _ hg hb hv hne)) ?_
 rintro _ w2 ⟨rfl, hg2, hm2⟩
 refine RL.done ?_
 refine RK.end_of Tryz.func222 (res0 rfl) ?_
 exact ⟨_, rfl, rfl, hg2, hm2⟩
def rankOf (vs : List Nat) : List Nat := isort (ahead vs) (List.range vs.length)
theorem rankOf_len (vs : List Nat) : (rankOf vs).length = vs.length := by simp [rankOf, isort_len]
theorem set_fill (k n : Nat) (h : k < n) : (nats (List.range k) ++ List.replicate (n - k) (Value.int .i64 0)).set k (.int .i64 (k : Int)) = nats (List.range (k + 1)) ++ List.replicate (n - (k + 1)) (Value.int .i64 0) := by
 obtain ⟨m, rfl⟩ : ∃ m, n = k + 1 + m := ⟨n - (k + 1), by omega⟩
 have e1 : k + 1 + m - k = m + 1 := by omega
 have e2 : k + 1 + m - (k + 1) = m := by omega
 rw [e1, e2, List.replicate_succ]
 simp [List.range_succ]
theorem rank_ok (M : Nat → Prop) (vs : List Nat) (hlt : ∀ v ∈ vs, v < 18446744073709551616) (hm : vs.length < 20) (v : Value) (w : World) (hv : Sl M w v 1 vs.length (flts vs)) :
  Fx Tryz.prog 179 [v] w (fun u w' => ∃ g, u = .slice (some ⟨g, 0, none⟩) vs.length vs.length ∧ Blk w' g 3 (nats (rankOf vs)) ∧ w.heap.size ≤ g ∧ Grow w w') := by
 obtain ⟨ad, c, rfl⟩ := hv.shape
 refine enter Tryz.func179 rfl rfl rfl _ (Pick.sub (l := [0]) (.cons rfl .nil)) ?_
 refine GG ?_
 refine OP (Does.box rfl) ?_
 rintro _ w1 ⟨bx, rfl, hbx⟩
 refine GG ?_
 refine QQ (Yld.load p235 rfl (at1 (hbx.blk.cell rfl))) ?_
 refine QQ (Yld.lenSl u235 rfl) ?_
 refine OP (Does.mkSlice u37 i3 rfl rfl rfl (by omega) (by omega)) ?_
 rintro _ w2 ⟨g, rfl, hng⟩
 have hne : bx ≠ g := by have := hng.at_; have := hbx.at_; have := hbx.size; omega
 have hgw : w.heap.size ≤ g := by have := hng.at_; have := hbx.size; omega
 have hvg : Sl (· = g) w (.slice ad vs.length c) 1 vs.length (flts vs) := hv.noM.off (by omega) (fun b hb e => by have e' : b = g := e; omega)
 refine GG ?_
 refine QQ (Yld.lenSl u37 rfl) ?_
 refine GG ?_
 refine RK.loop (fun k : Nat => [(1, pp bx), (3, .slice (some ⟨g, 0, none⟩) vs.length vs.length), (9, .int .i64 vs.length), (10, .int .i64 k)]) (fun k w' => Blk w' g 3 (nats (List.range k) ++ List.replicate (vs.length - k) (Value.int .i64 0)) ∧ Mod (· = g) w2 w' ∧ k ≤ vs.length) (fun k => vs.length - k) 0 ⟨rfl, rfl, rfl, rfl, trivial⟩ ⟨hng.blk, Mod.refl _ _, by omega⟩ (fun k w' hI ih => ?_)
 obtain ⟨hb, hm2, hk⟩ := hI
 refine GG ?_
 refine CD (fun h11 => ?_) (fun h11 => ?_)
 ·refine GG ?_
  refine QQ (Yld.indexAddrN u37 i3 rfl rfl (by omega)) ?_
  refine OQ (Does.store i3 rfl rfl rfl hb (SetAt.of (by simp; omega))) ?_
  rintro _ w3 ⟨hb3, hm3, _⟩
  refine RL.done ?_
  refine RK.inBlock ?_
  refine RK.region ?_
  refine RL.p rfl rfl ?_
  refine RL.re (d := 17) rfl rfl (succ_i64 (by omega)) ?_
  refine GG ?_
  exact RK.back (ih (k + 1) _ ⟨by rw [← set_fill k _ (by omega)]; simpa using hb3, hm2.trans hm3, by omega⟩ (by omega)) ⟨rfl, rfl, rfl, rfl, trivial⟩
 ·have ek : k = vs.length := by omega
  subst ek
  have hb2 : Blk w' g 3 (nats (List.range vs.length)) := by simpa using hb
  refine RK.exit rfl ?_
  refine GG ?_
  refine OP (Does.call rfl e222 (sortStable_ok vs hlt (List.range vs.length) vs.length (by simp) (fun x hx => List.mem_range.1 hx) (by simpa using hm) bx g _ _ hb2 ((hbx.blk.mod hng.grow (fun h => h)).mod hm2 hne) (hvg.mod ((Mod.any' (hbx.grow.trans hng.grow)).trans hm2)) hne)) ?_
  rintro _ w4 ⟨rfl, hb4, hm4⟩
  refine GG ?_
  refine RK.ret_of Tryz.func179 (res1 rfl rfl) ?_ _
  exact ⟨_, rfl, g, rfl, hb4, hgw, (hbx.grow.trans hng.grow).then (hm2.trans hm4) (fun x hx e => by have e' : x = g := e; omega)⟩
end Go.Proofs.YthbjfhhiajihfaaGreat
set_option linter.unusedVariables false
set_option linter.unusedSimpArgs false
set_option maxHeartbeats 400000
set_option maxRecDepth 100000
namespace Go.Proofs.YthbjfhhiajihfaaGreat
open Go Go.X
theorem cloneL_ok (M : Nat → Prop) (ls : List Lab) (v : Value) (w : World) (hv : SlL M w v ls) (hb : ls.length ≤ 1000) :
  Fx Tryz.prog 178 [v] w (fun u w' => Row w' 79 2 u ls.length (ls.flatMap labC) ∧ Fresh w.heap.size u ∧ Grow w w') := by
 obtain ⟨ad, c, b, o, rfl, hf⟩ := hv.open
 refine enter Tryz.func178 rfl rfl rfl _ (Pick.sub (l := [0]) (.cons rfl .nil)) ?_
 refine GG ?_
 refine QQ (Yld.eqNil u33 rfl rfl) ?_
 refine RL.done ?_
 refine CD (fun h4 => ?_) (fun h4 => ?_)
 ·refine GG ?_
  refine RK.ret_of Tryz.func178 (res1 rfl rfl) ?_ _
  exact ⟨_, rfl, by cases ad with | none => (have h0 : ls.length = 0 := by (rcases Nat.eq_zero_or_pos ls.length with h | h; exact h; exact absurd (hf h).1 (by simp))); have : ls = [] := List.eq_nil_of_length_eq_zero h0; subst this; exact ⟨Row.nil _ _ _, fun b hb => by simp [Value.ownBlock] at hb, Mod.refl _ _⟩ | some a => simp at h4⟩
 ·refine GG ?_
  refine OP (Does.slice0 u33 i79) ?_
  rintro _ w1 ⟨b1, rfl, hn1⟩
  refine RL.p rfl rfl ?_
  refine OP (Does.append u33 i79 rfl rfl rfl rfl rfl (Row.new hn1 2 0 rfl (by omega)) ((hv.mod (Mod.any' hn1.grow)).noM) (allOne_labs ls) (by omega)) ?_
  rintro u w2 ⟨hr, hm, hu⟩
  refine GG ?_
  refine RK.ret_of Tryz.func178 (res1 rfl rfl) ?_ _
  exact ⟨_, rfl, by simpa using hr, fun b hb => by rcases hu with hu | hu <;> rw [hu] at hb <;> simp [Value.ownBlock] at hb <;> (have := hn1.at_; have := hn1.size; omega), hn1.grow.then hm (fun x hx e => by simp [Value.ownBlock] at e; have := hn1.at_; omega)⟩
theorem take_snoc_eq {α : Type} {l1 l2 : List α} {k : Nat} {x : α} (h : l1.take k = l2.take k) (h1 : l1[k]? = some x) (h2 : l2[k]? = some x) : l1.take (k + 1) = l2.take (k + 1) := by
 rw [List.take_add_one, List.take_add_one, h, h1, h2]
theorem lab_eq {x y : Lab} : (x.name = y.name ∧ x.value = y.value) ↔ x = y := by cases x; cases y; simp
theorem equalL_ok (M : Nat → Prop) (l1 l2 : List Lab) (v1 v2 : Value) (w : World) (hv1 : SlL M w v1 l1) (hv2 : SlL M w v2 l2) :
    Fx Tryz.prog 176 [v1, v2] w (fun u w' => u = .bool (decide (l1 = l2)) ∧ Grow w w') := by
  obtain ⟨a1, c1, rfl⟩ := hv1.shape
  obtain ⟨a2, c2, rfl⟩ := hv2.shape
  have hbig := hv1.big
  refine enter Tryz.func176 rfl rfl rfl _ (Pick.sub (l := [0, 1]) (.cons rfl (.cons rfl .nil))) ?_
  refine RK.seq ?_
  refine RK.region ?_
  refine RL.p rfl rfl ?_
  refine RL.done ?_
  iterate 2 refine RK.seq ?_
  refine RK.region ?_
  refine RL.p rfl rfl ?_
  refine RL.q (.free rfl) rfl rfl (Yld.lenSl u33 rfl) ?_
  refine RL.p rfl rfl ?_
  refine RL.q (.free rfl) rfl rfl (Yld.lenSl u33 rfl) ?_
  refine RL.p rfl rfl ?_
  refine RL.done ?_
  first | refine RK.condD rfl (fun h10 => ?_) (fun h10 => ?_) | refine RK.condN rfl (fun h10 => ?_) (fun h10 => ?_) | refine RK.cond rfl (fun h10 => ?_) (fun h10 => ?_)
  · refine RK.seq ?_
    refine RK.region ?_
    refine RL.p rfl rfl ?_
    refine RL.done ?_
    refine RK.ret_of Tryz.func176 (res1 rfl rfl) ?_ _
    exact ⟨_, rfl, congrArg _ (by rw [eq_comm, decide_eq_false_iff_not]; rintro rfl; exact h10 rfl), Mod.refl _ _⟩
  · refine RK.skip ?_
    iterate 2 refine RK.seq ?_
    refine RK.region ?_
    refine RL.p rfl rfl ?_
    refine RL.q (.free rfl) rfl rfl (Yld.lenSl u33 rfl) ?_
    refine RL.p rfl rfl ?_
    refine RL.done ?_
    refine RK.block ?_
    refine RK.loop (fun k : Nat => [(0, .slice a1 l1.length c1), (1, .slice a2 l2.length c2), (12, .int .i64 l1.length), (13, .int .i64 k)]) (fun k w' => Grow w w' ∧ k ≤ l1.length ∧ l1.take k = l2.take k) (fun k => l1.length - k) 0 ⟨rfl, rfl, rfl, rfl, trivial⟩ ⟨Mod.refl _ _, by omega, by simp⟩ (fun k w' hI ih => ?_)
    obtain ⟨hg, hk, htk⟩ := hI
    have hl : l1.length = l2.length := by omega
    refine RK.seq ?_
    refine RK.region ?_
    refine RL.p rfl rfl ?_
    refine RL.done ?_
    refine RK.seq ?_
    first | refine RK.condD rfl (fun h14 => ?_) (fun h14 => ?_) | refine RK.condN rfl (fun h14 => ?_) (fun h14 => ?_) | refine RK.cond rfl (fun h14 => ?_) (fun h14 => ?_)
    · obtain ⟨x, hx⟩ : ∃ x, l1[k]? = some x := ⟨l1[k]'(by omega), List.getElem?_eq_getElem (by omega)⟩
      obtain ⟨y, hy⟩ : ∃ y, l2[k]? = some y := ⟨l2[k]'(by omega), List.getElem?_eq_getElem (by omega)⟩
      obtain ⟨b1, o1, c1', he1, _, _, hc1⟩ := hv1.elem labC_len hx
      obtain ⟨b2, o2, c2', he2, _, _, hc2⟩ := hv2.elem labC_len hy
      cases he1
      cases he2
      refine RK.skip ?_
      refine RK.seq ?_
      refine RK.block ?_
      refine RK.seq ?_
      refine RK.region ?_
      iterate 2 refine RL.p rfl rfl ?_
      refine RL.done ?_
      refine RK.seq ?_
      refine RK.drawM No [(0, false), (1, false), (2, false), (3, false), (4, false), (5, false), (6, false), (7, false), (8, false)] [] mixed (by kernel_rfl) ?_
      iterate 2 refine DL.p rfl rfl rfl ?_
      refine DL.qf rfl (.free rfl) rfl rfl (Yld.indexAddrN u33 i79 rfl rfl (by omega)) ?_
      refine DL.q rfl (.free rfl) rfl rfl rfl (Yld.loadN (cs := [.string x.name, .string x.value]) a79 rfl (atNM (fun j u hj => hg.cell (hc1 j u hj) (fun h => h)) (id))) (Mod.drew _ _) ?_
      iterate 2 refine DL.p rfl rfl rfl ?_
      refine DL.qf rfl (.free rfl) rfl rfl (Yld.indexAddrN u33 i79 rfl rfl (by omega)) ?_
      refine DL.q rfl (.free rfl) rfl rfl rfl (Yld.loadN (cs := [.string y.name, .string y.value]) a79 rfl (atNM (fun j u hj => hg.cell (hc2 j u hj) (fun h => h)) (id))) (Mod.drew _ _) ?_
      refine DL.qf rfl (.free rfl) rfl rfl (Yld.neqPair pair79 rfl rfl) ?_
      refine DL.done ?_
      first | refine RK.condD rfl (fun h24 => ?_) (fun h24 => ?_) | refine RK.condN rfl (fun h24 => ?_) (fun h24 => ?_) | refine RK.cond rfl (fun h24 => ?_) (fun h24 => ?_)
      · refine RK.seq ?_
        refine RK.region ?_
        refine RL.p rfl rfl ?_
        refine RL.done ?_
        refine RK.ret_of Tryz.func176 (res1 rfl rfl) ?_ _
        exact ⟨_, rfl, congrArg _ (by rw [eq_comm, decide_eq_false_iff_not]; rintro rfl; rw [hx] at hy; cases hy; exact h24 ⟨rfl, rfl⟩), hg.trans (Mod.drew _ _)⟩
      · refine RK.skip ?_
        refine RK.inBlock ?_
        refine RK.region ?_
        refine RL.p rfl rfl ?_
        refine RL.re (d := 25) rfl rfl (succ_i64 (by omega)) ?_
        refine RL.p rfl rfl ?_
        refine RL.done ?_
        exact RK.back (ih (k + 1) _ ⟨hg.trans (Mod.drew _ _), by omega, take_snoc_eq htk hx (by rw [lab_eq.1 h24]; exact hy)⟩ (by omega)) ⟨rfl, rfl, rfl, rfl, trivial⟩
    · refine RK.exit rfl ?_
      refine RK.seq ?_
      refine RK.region ?_
      refine RL.p rfl rfl ?_
      refine RL.done ?_
      refine RK.ret_of Tryz.func176 (res1 rfl rfl) ?_ _
      exact ⟨_, rfl, congrArg _ (by
          have e1 : k = l1.length := by omega
          have h1 : l1.take k = l1 := List.take_of_length_le (by omega)
          have h2 : l2.take k = l2 := List.take_of_length_le (by omega)
          rw [h1, h2] at htk; simp [htk]), hg⟩
theorem sameInts_ok (M : Nat → Prop) (l1 l2 : List Int) (v1 v2 : Value) (w : World) (hv1 : Sl M w v1 1 l1.length (ints l1)) (hv2 : Sl M w v2 1 l2.length (ints l2)) :
    Fx Tryz.prog 23 [v1, v2] w (fun u w' => u = .bool (decide (l1 = l2)) ∧ Grow w w') := by
  obtain ⟨a1, c1, rfl⟩ := hv1.shape
  obtain ⟨a2, c2, rfl⟩ := hv2.shape
  have hbig := hv1.big
  refine enter Tryz.func23 rfl rfl rfl _ (Pick.sub (l := [0, 1]) (.cons rfl (.cons rfl .nil))) ?_
  refine RK.seq ?_
  refine RK.region ?_
  refine RL.p rfl rfl ?_
  refine RL.done ?_
  iterate 2 refine RK.seq ?_
  refine RK.region ?_
  refine RL.p rfl rfl ?_
  refine RL.q (.free rfl) rfl rfl (Yld.lenSl u37 rfl) ?_
  refine RL.p rfl rfl ?_
  refine RL.q (.free rfl) rfl rfl (Yld.lenSl u37 rfl) ?_
  refine RL.p rfl rfl ?_
  refine RL.done ?_
  first | refine RK.condD rfl (fun h10 => ?_) (fun h10 => ?_) | refine RK.condN rfl (fun h10 => ?_) (fun h10 => ?_) | refine RK.cond rfl (fun h10 => ?_) (fun h10 => ?_)
  · refine RK.seq ?_
    refine RK.region ?_
    refine RL.p rfl rfl ?_
    refine RL.done ?_
    refine RK.ret_of Tryz.func23 (res1 rfl rfl) ?_ _
    exact ⟨_, rfl, congrArg _ (by rw [eq_comm, decide_eq_false_iff_not]; rintro rfl; simp at h10), Mod.refl _ _⟩
  · refine RK.skip ?_
    iterate 2 refine RK.seq ?_
    refine RK.region ?_
    refine RL.p rfl rfl ?_
    refine RL.done ?_
    refine RK.block ?_
    refine RK.loop (fun k : Nat => [(0, .slice a1 l1.length c1), (1, .slice a2 l2.length c2), (5, .int .i64 k)]) (fun k w' => Grow w w' ∧ k ≤ l1.length ∧ l1.take k = l2.take k) (fun k => l1.length - k) 0 ⟨rfl, rfl, rfl, trivial⟩ ⟨Mod.refl _ _, by omega, by simp⟩ (fun k w' hI ih => ?_)
    obtain ⟨hg, hk, htk⟩ := hI
    have hl : l1.length = l2.length := by simp at h10; omega
    iterate 2 refine RK.seq ?_
    refine RK.region ?_
    iterate 2 refine RL.p rfl rfl ?_
    refine RL.q (.free rfl) rfl rfl (Yld.lenSl u37 rfl) ?_
    refine RL.p rfl rfl ?_
    refine RL.done ?_
    first | refine RK.condD rfl (fun h14 => ?_) (fun h14 => ?_) | refine RK.condN rfl (fun h14 => ?_) (fun h14 => ?_) | refine RK.cond rfl (fun h14 => ?_) (fun h14 => ?_)
    · obtain ⟨x, hx⟩ : ∃ x, l1[k]? = some x := ⟨l1[k]'(by omega), List.getElem?_eq_getElem (by omega)⟩
      obtain ⟨y, hy⟩ : ∃ y, l2[k]? = some y := ⟨l2[k]'(by omega), List.getElem?_eq_getElem (by omega)⟩
      obtain ⟨b1, o1, c1', he1, _, _, hc1⟩ := hv1.elem1 (k := k) (u := .int .i64 x) (by simp [hx])
      obtain ⟨b2, o2, c2', he2, _, _, hc2⟩ := hv2.elem1 (k := k) (u := .int .i64 y) (by simp [hy])
      cases he1
      cases he2
      refine RK.skip ?_
      refine RK.seq ?_
      refine RK.block ?_
      refine RK.seq ?_
      refine RK.drawM No [(0, false), (1, false), (2, false), (3, false), (4, false), (5, false), (6, false), (7, false), (8, false)] [] mixed (by kernel_rfl) ?_
      iterate 2 refine DL.p rfl rfl rfl ?_
      refine DL.qf rfl (.free rfl) rfl rfl (Yld.indexAddrN u37 i3 rfl rfl (by omega)) ?_
      refine DL.q rfl (.free rfl) rfl rfl rfl (Yld.load p3 rfl (atM (hg.cell (hc1 k (.int .i64 x) (by simp [hx])) (fun h => h)) (id))) (Mod.drew _ _) ?_
      iterate 2 refine DL.p rfl rfl rfl ?_
      refine DL.qf rfl (.free rfl) rfl rfl (Yld.indexAddrN u37 i3 rfl rfl (by omega)) ?_
      refine DL.q rfl (.free rfl) rfl rfl rfl (Yld.load p3 rfl (atM (hg.cell (hc2 k (.int .i64 y) (by simp [hy])) (fun h => h)) (id))) (Mod.drew _ _) ?_
      refine DL.p rfl rfl rfl ?_
      refine DL.done ?_
      first | refine RK.condD rfl (fun h25 => ?_) (fun h25 => ?_) | refine RK.condN rfl (fun h25 => ?_) (fun h25 => ?_) | refine RK.cond rfl (fun h25 => ?_) (fun h25 => ?_)
      · refine RK.seq ?_
        refine RK.region ?_
        refine RL.p rfl rfl ?_
        refine RL.done ?_
        refine RK.ret_of Tryz.func23 (res1 rfl rfl) ?_ _
        exact ⟨_, rfl, congrArg _ (by rw [eq_comm, decide_eq_false_iff_not]; rintro rfl; rw [hx] at hy; cases hy; simp at h25), hg.trans (Mod.drew _ _)⟩
      · refine RK.skip ?_
        refine RK.inBlock ?_
        refine RK.region ?_
        iterate 2 refine RL.p rfl rfl ?_
        refine RL.re (d := 16) rfl rfl (succ_i64 (by omega)) ?_
        refine RL.p rfl rfl ?_
        refine RL.done ?_
        exact RK.back (ih (k + 1) _ ⟨hg.trans (Mod.drew _ _), by omega, take_snoc_eq htk hx (by
            have : x = y := by simpa using h25
            rw [this]; exact hy)⟩ (by omega)) ⟨rfl, rfl, rfl, trivial⟩
    · refine RK.exit rfl ?_
      refine RK.seq ?_
      refine RK.region ?_
      refine RL.p rfl rfl ?_
      refine RL.done ?_
      refine RK.ret_of Tryz.func23 (res1 rfl rfl) ?_ _
      exact ⟨_, rfl, congrArg _ (by
          have e1 : k = l1.length := by omega
          have h1 : l1.take k = l1 := List.take_of_length_le (by omega)
          have h2 : l2.take k = l2 := List.take_of_length_le (by omega)
          rw [h1, h2] at htk; simp [htk]), hg⟩
structure Al where
 id : Int
 ls : List Lab
 val : Nat
 v : Value
def alC (a : Al) : List Value := [.int .i64 a.id, a.v, .float .f64 a.val]
theorem alC_len (a : Al) : (alC a).length = 3 := rfl
theorem post1_ok (M : Nat → Prop) (a : Al) (ls : List Lab) (vl : Value) (b4 : Nat) (w : World) (ha : SlL M w a.v a.ls) (hl : SlL M w vl ls) (hb : Blk w b4 33 [vl]) :
  Fx Tryz.prog 175 [.agg #[.int .i64 a.id, a.v, .float .f64 a.val], pp b4] w (fun u w' => u = .bool (decide (a.ls = ls)) ∧ Grow w w') := by
 obtain ⟨ad, ca, hva⟩ := ha.shape
 obtain ⟨al, cl, rfl⟩ := hl.shape
 obtain ⟨id, als, val, va⟩ := a
 simp only at hva ha
 subst hva
 refine enter Tryz.func175 rfl rfl rfl _ (Pick.sub (l := [0, 1]) (.cons rfl (.cons rfl .nil))) ?_
 refine GG ?_
 refine OP (Does.box rfl) ?_
 rintro _ w1 ⟨bx, rfl, hbx⟩
 refine GG ?_
 refine QQ (Yld.fieldAddr fo35_1 rfl) ?_
 refine QQ (Yld.load p33 rfl (at1 (hbx.blk.cell rfl))) ?_
 refine QQ (Yld.load p33 rfl (at1 ((hb.mod hbx.grow (fun h => h)).cell rfl))) ?_
 refine OP (Does.call rfl e176 (equalL_ok M als ls _ _ _ (ha.mod (Mod.any' hbx.grow)) (hl.mod (Mod.any' hbx.grow)))) ?_
 rintro _ w2 ⟨rfl, hg2⟩
 refine GG ?_
 refine RK.ret_of Tryz.func175 (res1 rfl rfl) ?_ _
 exact ⟨_, rfl, rfl, hbx.grow.trans hg2⟩
def findS (l : List (List Lab)) (ls : List Lab) : Option Nat := l.findIdx? fun x => decide (x = ls)
def optI : Option Nat → Int
 | some i => i
 | none => -1
theorem indexFunc_ok (M : Nat → Prop) (al : List Al) (ls : List Lab) (v vl : Value) (b4 : Nat) (w : World) (hv : Sl No w v 3 al.length (al.flatMap alC)) (ha : ∀ a ∈ al, SlL M w a.v a.ls) (hl : SlL M w vl ls) (hb : Blk w b4 33 [vl]) :
  Fx Tryz.prog 174 [v, .func (.func 175) #[] #[pp b4]] w (fun u w' => u = .int .i64 (optI (findS (al.map (·.ls)) ls)) ∧ Grow w w') := by
 obtain ⟨ad, c, rfl⟩ := hv.shape
 have hbig := hv.big
 refine enter Tryz.func174 rfl rfl rfl _ (Pick.sub (l := [0, 1]) (.cons rfl (.cons rfl .nil))) ?_
 refine GG ?_
 refine QQ (Yld.lenSl u49 rfl) ?_
 refine GG ?_
 refine RK.loop (fun k : Nat => [(0, .slice ad al.length c), (1, .func (.func 175) #[] #[pp b4]), (7, .int .i64 al.length), (8, .int .i64 k)]) (fun k w' => Grow w w' ∧ k ≤ al.length ∧ ∀ i a, i < k → al[i]? = some a → a.ls ≠ ls) (fun k => al.length - k) 0 ⟨rfl, rfl, rfl, rfl, trivial⟩ ⟨Mod.refl _ _, by omega, fun i a h => by omega⟩ (fun k w' hI ih => ?_)
 obtain ⟨hg, hk, hno⟩ := hI
 refine GG ?_
 refine CD (fun h9 => ?_) (fun h9 => ?_)
 ·obtain ⟨a, hx⟩ : ∃ x, al[k]? = some x := ⟨al[k]'(by omega), List.getElem?_eq_getElem (by omega)⟩
  obtain ⟨b1, o1, c1', he1, _, _, hc1⟩ := hv.elem alC_len hx
  cases he1
  have hma := ha a (List.mem_of_getElem? hx)
  refine GG ?_
  refine QQ (Yld.indexAddrN u49 i35 rfl rfl (by omega)) ?_
  refine QQ (Yld.loadN (cs := [.int .i64 a.id, a.v, .float .f64 a.val]) a35 rfl (atN (fun j u hj => hg.cell (hc1 j u hj) (fun h => h)))) ?_
  refine OP (Does.callv rfl rfl e175 (post1_ok M a ls vl b4 _ (hma.mod (Mod.any' hg)) (hl.mod (Mod.any' hg)) (hb.mod hg (fun h => h)))) ?_
  rintro _ w2 ⟨rfl, hg2⟩
  refine RL.done ?_
  refine CD (fun h16 => ?_) (fun h16 => ?_)
  ·refine GG ?_
   refine RK.ret_of Tryz.func174 (res1 rfl rfl) ?_ _
   exact ⟨_, rfl, congrArg _ (by
     have : findS (al.map (·.ls)) ls = some k := by
      unfold findS
      rw [List.findIdx?_eq_some_iff_getElem]
      refine ⟨by simpa using h9, ?_, ?_⟩
      ·simp [(List.getElem?_eq_some_iff.1 hx).2, h16]
      ·intro j hj
       simpa using hno j (al[j]'(by omega)) hj (List.getElem?_eq_getElem (by omega))
     rw [this]; rfl), hg.trans hg2⟩
  ·refine RK.skip ?_
   refine RK.inBlock ?_
   refine RK.region ?_
   refine RL.p rfl rfl ?_
   refine RL.re (d := 18) rfl rfl (succ_i64 (by omega)) ?_
   refine GG ?_
   exact RK.back (ih (k + 1) _ ⟨hg.trans hg2, by omega, fun i a' hi ha' => by by_cases e : i = k; (subst e; rw [hx] at ha'; cases ha'; exact h16); exact hno i a' (by omega) ha'⟩ (by omega)) ⟨rfl, rfl, rfl, rfl, trivial⟩
 ·refine RK.exit rfl ?_
  refine GG ?_
  refine RK.ret_of Tryz.func174 (res1 rfl rfl) ?_ _
  exact ⟨_, rfl, congrArg _ (by
    have : findS (al.map (·.ls)) ls = none := by
     unfold findS
     rw [List.findIdx?_eq_none_iff]
     intro x hx
     obtain ⟨a, ha, rfl⟩ := List.mem_map.1 hx
     obtain ⟨i, hi⟩ := List.getElem?_of_mem ha
     have hil := (List.getElem?_eq_some_iff.1 hi).1
     simpa using hno i a (by omega) hi
    rw [this]; rfl), hg⟩
end Go.Proofs.YthbjfhhiajihfaaGreat
set_option linter.unusedVariables false
set_option linter.unusedSimpArgs false
set_option maxHeartbeats 400000
set_option maxRecDepth 100000
namespace Go.Proofs.YthbjfhhiajihfaaGreat
open Go Go.X
theorem take_ok (w : World) (p : Nat) (most last : Int) (out : List Int) (v : Value) (hp : PoolAt w p most last out v) (h1 : out.length < most) (h2 : last ≠ 2147483647) (h3 : 0 ≤ last) (h4 : last ≤ 2147483647) (h5 : out.length ≤ 1000000) :
  Fx Tryz.prog 100 [pp p] w (fun u w' => u = .tuple #[.int .i64 (last + 1), .bool true] ∧ ∃ v', PoolAt w' p most (last + 1) (out ++ [last + 1]) v' ∧ Mod (fun b => b = p ∨ v.ownBlock = some b) w w' ∧ (∀ b, v'.ownBlock = some b → v.ownBlock = some b ∨ w.heap.size ≤ b)) := by
 obtain ⟨ad, c, rfl⟩ := hp.row.slice
 refine enter Tryz.func100 rfl rfl rfl _ (Pick.sub (l := [0]) (.cons rfl .nil)) ?_
 refine GG ?_
 refine RK.drawM No [(0, false), (1, false), (2, false), (3, false), (4, false), (5, false), (6, false), (7, false), (8, false), (9, false), (10, false), (11, false), (12, false), (13, false), (14, false), (15, false), (16, false)] [] mixed (by kernel_rfl) ?_
 refine GG ?_
 refine DF (Yld.fieldAddr fo205_2 rfl) ?_
 refine DQ (Yld.load p37 rfl (atM (hp.blk.cell rfl) id)) (Mod.drew _ _) ?_
 refine DQ (Yld.lenSl u37 rfl) (Mod.drew _ _) ?_
 refine GG ?_
 refine DF (Yld.fieldAddr fo205_0 rfl) ?_
 refine DQ (Yld.load p3 rfl (atM (hp.blk.cell rfl) id)) (Mod.drew _ _) ?_
 refine GG ?_
 refine DL.knownF (d := 14) rfl rfl (decide_eq_false (by omega)) ?_
 iterate 2 refine DF (Yld.pure rfl) ?_
 refine DF (Yld.fieldAddr fo205_1 rfl) ?_
 refine DQ (Yld.load p3 rfl (atM (hp.blk.cell rfl) id)) (Mod.drew _ _) ?_
 refine DF (Yld.pure rfl) ?_
 refine GG ?_
 refine RK.condF (hcF rfl (decide_eq_false (by omega))) ?_
 refine GG ?_
 refine QQ (Yld.fieldAddr fo205_1 rfl) ?_
 refine QQ (Yld.load p3 rfl (at1 (hp.blk.cell rfl))) ?_
 refine RL.p rfl rfl ?_
 refine RL.re (d := 25) rfl rfl (add_i64 (z := last + 1) rfl (by omega) (by omega)) ?_
 refine RL.p rfl rfl ?_
 refine QQ (Yld.fieldAddr fo205_1 rfl) ?_
 refine OQ (Does.store i3 rfl rfl rfl hp.blk (.s .z)) ?_
 rintro _ w1 ⟨hb1, hm1, hs1⟩
 have hr1 := (hp.row.mod (Mod.drew No _) (fun _ _ h => h)).mod hm1 (fun b e h => hp.ne (h ▸ e))
 refine GG ?_
 refine RK.drawM (fun b => (Value.slice ad out.length c).ownBlock = some b) [(0, false), (1, false), (2, false), (3, false), (4, false), (5, false), (6, false), (7, false), (8, false), (9, true), (10, true), (11, false), (12, false), (13, true)] [13] mixed (by kernel_rfl) ?_
 refine GG ?_
 refine DF (Yld.fieldAddr fo205_2 rfl) ?_
 refine DQ (Yld.load p37 rfl (atM (hb1.cell rfl) (fun h => hp.ne h))) (Mod.drew _ _) ?_
 refine GG ?_
 refine DF (Yld.fieldAddr fo205_1 rfl) ?_
 refine DQ (Yld.load p3 rfl (atM (hb1.cell rfl) (fun h => hp.ne h))) (Mod.drew _ _) ?_
 refine OD (Does.slice1 u37 i3 rfl rfl rfl rfl rfl) ?_
 rintro _ w2 ⟨b2, rfl, hn2⟩
 refine ⟨(Mod.drew _ _).trans (Mod.any' hn2.grow), ?_⟩
 refine OD (Does.append u37 i3 rfl rfl rfl rfl rfl ((hr1.mod (Mod.drew No _) (fun _ _ h => h)).mod hn2.grow (fun _ _ h => h)) (Sl.new hn2 1 1 rfl (by omega) (fun h => h)) (rfl) (by omega)) ?_
 rintro u3 w3 ⟨hr3, hm3, hu3⟩
 refine ⟨((Mod.drew _ _).trans (Mod.any' hn2.grow)).trans hm3, ?_⟩
 have hpl := hp.blk.lt
 have hu3' : ∀ b, u3.ownBlock = some b → b ≠ p ∧ ((Value.slice ad out.length c).ownBlock = some b ∨ w.heap.size ≤ b) := fun b e => by
   rcases hu3 with h | h
   ·rw [h] at e; exact ⟨fun hh => hp.ne (hh ▸ e), .inl e⟩
   ·rw [h] at e; cases e; have h1 := hn2.size; have h2 := hm1.size; simp only [World.drew] at h1 h2 hn2; exact ⟨by omega, .inr (by omega)⟩
 obtain ⟨ad3, c3, rfl⟩ := hr3.slice
 have hb3 := ((hb1.mod (Mod.drew No _) (fun h => h)).mod hn2.grow (fun h => h)).mod hm3 (fun e => hp.ne e)
 refine DL.p rfl rfl rfl ?_
 refine DF (Yld.fieldAddr fo205_2 rfl) ?_
 refine DL.opT rfl (.free rfl) rfl rfl (Does.store i37 rfl rfl rfl hb3 (.s (.s .z))) ?_
 rintro _ w4 ⟨hb4, hm4, hs4⟩
 refine GG ?_
 refine QQ (Yld.fieldAddr fo205_1 rfl) ?_
 refine QQ (Yld.load p3 rfl (at1 (hb4.cell rfl))) ?_
 refine GG ?_
 refine RK.ret_of Tryz.func100 (res2 rfl rfl rfl) ?_ _
 exact ⟨_, rfl, rfl, _, ⟨hb4, by (show Row _ _ _ _ (out ++ [last + 1]).length (List.map _ (out ++ [last + 1]))); rw [List.map_append, List.length_append]; exact hr3.mod hm4 (fun b e h => (hu3' b e).1 h), fun e => (hu3' p e).1 rfl⟩, ((((Mod.drew _ _).trans (hm1.mono fun b _ h => .inl h)).trans ((Mod.drew _ _).trans (Mod.any' hn2.grow))).trans (hm3.mono fun b _ h => .inr h)).trans (hm4.mono fun b _ h => .inl h), fun b e => (hu3' b e).2⟩
abbrev LabK := ByteArray × ByteArray
def labK (x : Lab) : LabK := (x.name, x.value)
structure IdxAt (M : Nat → Prop) (w : World) (ix mh mr : Nat) (has : List (Int × List Lab)) (rows : List (LabK × List Int)) : Prop where
 blk : Blk w ix 240 [.map (some mh), .map (some mr)]
 ne : mh ≠ mr
 hl : ∃ l : List (Int × (List Lab × Value)), l.map (fun t => (t.1, t.2.1)) = has ∧ MapAt (Value.int .i64) w mh (l.map fun t => (t.1, t.2.2)) ∧ ∀ t ∈ l, SlL M w t.2.2 t.2.1
 rl : ∃ r : List (LabK × (List Int × Value)), r.map (fun t => (t.1, t.2.1)) = rows ∧ MapAt pairV w mr (r.map fun t => (t.1, t.2.2)) ∧ ∀ t ∈ r, Sl M w t.2.2 1 t.2.1.length (ints t.2.1)
theorem IdxAt.mod {M M0 : Nat → Prop} {w w' : World} {ix mh mr : Nat} {has : List (Int × List Lab)} {rows : List (LabK × List Int)} (h : IdxAt M w ix mh mr has rows) (hm : Mod M0 w w') (h0 : ∀ b, b < w.heap.size → M0 b → M b) (n1 : ¬ M0 ix) (n2 : ¬ M0 mh) (n3 : ¬ M0 mr) : IdxAt M w' ix mh mr has rows := by
 obtain ⟨l, hl1, hl2, hl3⟩ := h.hl
 obtain ⟨r, hr1, hr2, hr3⟩ := h.rl
 exact ⟨h.blk.mod hm n1, h.ne, ⟨l, hl1, hl2.mod hm n2, fun t ht => (hl3 t ht).mod (hm.mono h0)⟩, ⟨r, hr1, hr2.mod hm n3, fun t ht => (hr3 t ht).mod (hm.mono h0)⟩⟩
theorem IdxAt.off {M M' : Nat → Prop} {w : World} {ix mh mr : Nat} {has : List (Int × List Lab)} {rows : List (LabK × List Int)} (h : IdxAt M w ix mh mr has rows) (hM : ∀ b, b < w.heap.size → M' b → M b) : IdxAt M' w ix mh mr has rows := by
 obtain ⟨l, hl1, hl2, hl3⟩ := h.hl
 obtain ⟨r, hr1, hr2, hr3⟩ := h.rl
 exact ⟨h.blk, h.ne, ⟨l, hl1, hl2, fun t ht => (hl3 t ht).off (by omega) hM⟩, ⟨r, hr1, hr2, fun t ht => (hr3 t ht).off (by omega) hM⟩⟩
theorem idxNew_ok (w : World) : Fx Tryz.prog 132 [] w (fun u w' => ∃ ix mh mr, u = pp ix ∧ (∀ b, b = ix ∨ b = mh ∨ b = mr → w.heap.size ≤ b) ∧ (∀ M, IdxAt M w' ix mh mr [] []) ∧ Grow w w') := by
 refine enter Tryz.func132 rfl rfl rfl _ (Pick.sub (l := []) .nil) ?_
 refine GG ?_
 refine OP (Does.makeMap (Value.int .i64)) ?_
 rintro _ w1 ⟨mh, rfl, hmh, hm1, hg1, hs1⟩
 refine OP (Does.makeMap pairV) ?_
 rintro _ w2 ⟨mr, rfl, hmr, hm2, hg2, hs2⟩
 refine QQ (Yld.build (v := .agg #[.map (some mh), .map (some mr)]) rfl (fun w => by kernel_rfl)) ?_
 refine OP (Does.box rfl) ?_
 rintro _ w3 ⟨b3, rfl, hn3⟩
 refine GG ?_
 refine RK.ret_of Tryz.func132 (res1 rfl rfl) ?_ _
 exact ⟨_, rfl, b3, mh, mr, rfl, fun b h => by have := hn3.at_; omega, fun M => ⟨hn3.blk, by omega, ⟨[], rfl, (hm1.mod hg2 (fun h => h)).mod hn3.grow (fun h => h), by simp⟩, ⟨[], rfl, hm2.mod hn3.grow (fun h => h), by simp⟩⟩, (hg1.trans hg2).trans hn3.grow⟩
theorem idxLen_ok (M : Nat → Prop) (w : World) (ix mh mr : Nat) (has : List (Int × List Lab)) (rows : List (LabK × List Int)) (h : IdxAt M w ix mh mr has rows) : Fx Tryz.prog 180 [pp ix] w (fun u w' => u = .int .i64 rows.length ∧ w = w') := by
 obtain ⟨r, hr1, hr2, hr3⟩ := h.rl
 refine enter Tryz.func180 rfl rfl rfl _ (Pick.sub (l := [0]) (.cons rfl .nil)) ?_
 refine GG ?_
 refine QQ (Yld.fieldAddr fo240_1 rfl) ?_
 refine QQ (Yld.load p238 rfl (at1 (h.blk.cell rfl))) ?_
 refine QQ (Yld.lenMap Tryz.underlying238 rfl (fun w' e => e ▸ hr2)) ?_
 refine GG ?_
 refine RK.ret_of Tryz.func180 (res1 rfl rfl) ?_ _
 exact ⟨_, rfl, by rw [← hr1]; simp, rfl⟩
end Go.Proofs.YthbjfhhiajihfaaGreat
set_option linter.unusedVariables false
set_option linter.unusedSimpArgs false
set_option maxHeartbeats 400000
set_option maxRecDepth 100000
namespace Go.Proofs.YthbjfhhiajihfaaGreat
open Go Go.X
def addRow1 (id : Int) (r : List (LabK × List Int)) (x : Lab) : List (LabK × List Int) := putM r (labK x) (mkRow ((lookM r (labK x)).getD [] ++ [id]))
def addRows (rows : List (LabK × List Int)) (id : Int) (ls : List Lab) : List (LabK × List Int) := ls.foldl (addRow1 id) rows
theorem addRows_snoc (rows : List (LabK × List Int)) (id : Int) (ls : List Lab) (x : Lab) : addRows rows id (ls ++ [x]) = addRow1 id (addRows rows id ls) x := by simp [addRows]
theorem look_bound {r : List (LabK × List Int)} {B : Nat} (h : ∀ t ∈ r, t.2.length ≤ B) (k : LabK) : ((lookM r k).getD []).length ≤ B := by
 cases hl : lookM r k with
 | none => simp
 | some a => exact h _ (lookM_mem hl)
theorem addRow1_bound {r : List (LabK × List Int)} {B : Nat} (h : ∀ t ∈ r, t.2.length ≤ B) (id : Int) (x : Lab) : ∀ t ∈ addRow1 id r x, t.2.length ≤ B + 1 := by
 intro t ht
 rcases mem_putM ht with h1 | rfl
 ·have := h t h1; omega
 ·have := mkRow_le ((lookM r (labK x)).getD [] ++ [id])
  have h2 := look_bound h (labK x)
  simp at this ⊢
  omega
theorem addRows_bound {r : List (LabK × List Int)} {B : Nat} (h : ∀ t ∈ r, t.2.length ≤ B) (id : Int) (ls : List Lab) : ∀ t ∈ addRows r id ls, t.2.length ≤ B + ls.length := by
 induction ls generalizing r B with
 | nil => exact h
 | cons x ls ih =>
  intro t ht
  have := ih (addRow1_bound h id x) t ht
  simp; omega
theorem isS_len {ls : List Lab} (h : isS ls = true) : 1 ≤ ls.length ∧ ls.length ≤ 6 := by
 simp only [isS, Bool.and_eq_true, decide_eq_true_eq] at h
 exact h.1
theorem add_ok (M : Nat → Prop) (w : World) (ix mh mr : Nat) (has : List (Int × List Lab)) (rows : List (LabK × List Int)) (h : IdxAt M w ix mh mr has rows) (hMh : M mh) (hMr : M mr) (hM : ∀ b, M b → b < w.heap.size) (id : Int) (ls : List Lab) (v : Value) (hv : SlL M w v ls)
  (hnew : lookM has id = none) (his : isS ls = true) (hB : ∀ t ∈ rows, t.2.length ≤ 100000000000) :
  Fx Tryz.prog 177 [pp ix, .int .i64 id, v] w (fun u w' => u = .bool true ∧ IdxAt M w' ix mh mr (putM has id ls) (addRows rows id ls) ∧ Mod (fun b => b = mh ∨ b = mr) w w') := by
 obtain ⟨ad, c, rfl⟩ := hv.shape
 obtain ⟨l, hl1, hl2, hl3⟩ := h.hl
 have hlk : lookM (l.map fun t => (t.1, t.2.2)) id = none := by
  have e1 := lookM_map (fun a : List Lab × Value => a.1) id l
  have e2 := lookM_map (fun a : List Lab × Value => a.2) id l
  rw [hl1, hnew] at e1
  have : lookM l id = none := by cases hh : lookM l id with
   | none => rfl
   | some a => rw [hh] at e1; simp at e1
  rw [this] at e2
  exact e2
 obtain ⟨h61, h66⟩ := isS_len his
 have n1 : ix ≠ mh := h.blk.ty.nem hl2.mp
 have n2 : ix ≠ mr := by obtain ⟨r, _, hr2, _⟩ := h.rl; exact h.blk.ty.nem hr2.mp
 refine enter Tryz.func177 rfl rfl rfl _ (Pick.sub (l := [0, 1, 2]) (.cons rfl (.cons rfl (.cons rfl .nil)))) ?_
 refine GG ?_
 refine QQ (Yld.fieldAddr fo240_0 rfl) ?_
 refine QQ (Yld.load p237 rfl (at1 (h.blk.cell rfl))) ?_
 refine RL.p rfl rfl ?_
 refine QQ (Yld.lookup Tryz.underlying237 key3 i33 rfl rfl (fun w' e => e ▸ hl2)) ?_
 refine RL.p rfl rfl ?_
 refine RL.re (d := 11) rfl rfl (show _ = Value.tuple #[.slice none 0 0, .bool false] by rw [hlk]; rfl) ?_
 refine GG ?_
 refine RL.knownF (d := 21) rfl rfl (rfl) ?_
 refine QQ (Yld.pure rfl) ?_
 refine OP (Does.call rfl e171 (is_ok M ls _ _ hv)) ?_
 rintro _ w2 ⟨rfl, hg2⟩
 refine QQ (Yld.pure rfl) ?_
 refine GG ?_
 refine RK.condF (hcF rfl (by rw [his]; rfl)) ?_
 refine GG ?_
 refine RK.drawM No [(0, false), (1, false), (2, false), (3, false), (4, false), (5, false), (6, true), (7, true)] [7] mixed (by kernel_rfl) ?_
 refine GG ?_
 refine DF (Yld.fieldAddr fo240_0 rfl) ?_
 refine DQ (Yld.load p237 rfl (atM ((h.blk.mod hg2 (fun h => h)).cell rfl) (fun h => h))) (Mod.drew _ _) ?_
 refine GG ?_
 refine OD (Does.call rfl e178 (cloneL_ok M ls _ _ ((hv.mod (Mod.any' hg2)).mod (Mod.drew M _)) (by omega))) ?_
 rintro u3 w3 ⟨hr3, hf3, hg3⟩
 refine ⟨(Mod.drew _ _).trans hg3, ?_⟩
 obtain ⟨ad3, c3, rfl⟩ := hr3.slice
 have hg03 : Grow w w3 := (hg2.trans (Mod.drew _ _)).trans hg3
 refine DL.opT rfl (.free rfl) rfl rfl (Does.mapUpdate Tryz.underlying237 key3 rfl rfl rfl (hl2.mod hg03 (fun h => h))) ?_
 rintro _ w4 ⟨hm4, hmod4, hs4⟩
 have hmod04 : Mod (· = mh) w w4 := (Mod.any' hg03).trans hmod4
 have hu3 : SlL M w4 (.slice ad3 ls.length c3) ls := (Sl.own hr3 (fun k e hk => by have h1 := hf3 k e; have h2 := hM k hk; have h3 := hg2.size; simp only [World.drew] at h1; omega)).mod (hmod4.mono fun b _ e => e ▸ hMh)
 have hidx4 : IdxAt M w4 ix mh mr (putM has id ls) rows := by
   obtain ⟨r, hr1, hr2, hr3⟩ := h.rl
   refine ⟨h.blk.mod hmod04 n1, h.ne, ⟨putM l id (ls, .slice ad3 ls.length c3), ?_, ?_, fun t ht => ?_⟩, ⟨r, hr1, hr2.mod hmod04 h.ne.symm, fun t ht => (hr3 t ht).mod (hmod04.mono fun b _ e => e ▸ hMh)⟩⟩
   ·rw [← hl1]; exact (putM_map (fun a : List Lab × Value => a.1) id (ls, .slice ad3 ls.length c3) l).symm
   ·rw [← putM_map (fun a : List Lab × Value => a.2) id (ls, .slice ad3 ls.length c3) l]; exact hm4
   ·rcases mem_putM ht with h1 | rfl
    ·exact (hl3 t h1).mod (hmod04.mono fun b _ e => e ▸ hMh)
    ·exact hu3
 have hmodA : Mod (fun b => b = mh ∨ b = mr) w w4 := hmod04.mono fun b _ e => .inl e
 refine GG ?_
 refine QQ (Yld.lenSl u33 rfl) ?_
 refine GG ?_
 refine RK.loop (fun k : Nat => [(0, pp ix), (1, .int .i64 id), (33, .slice ad ls.length c), (34, .int .i64 ls.length), (35, .int .i64 k)]) (fun k w' => IdxAt M w' ix mh mr (putM has id ls) (addRows rows id (ls.take k)) ∧ Mod (fun b => b = mh ∨ b = mr) w w' ∧ k ≤ ls.length) (fun k => ls.length - k) 0 ⟨rfl, rfl, rfl, rfl, rfl, trivial⟩ ⟨by simpa [addRows] using hidx4, hmodA, by omega⟩ (fun k w' hI ih => ?_)
 obtain ⟨hi, hmod, hk⟩ := hI
 refine GG ?_
 refine CD (fun h36 => ?_) (fun h36 => ?_)
 ·obtain ⟨x, hx⟩ : ∃ x, ls[k]? = some x := ⟨ls[k]'(by omega), List.getElem?_eq_getElem (by omega)⟩
  obtain ⟨bx, ox, cx, he, hbM, hkl, hcell⟩ := hv.elem labC_len hx
  cases he
  obtain ⟨r, hr1, hr2, hr3⟩ := hi.rl
  have hmodM : Mod M w w' := hmod.mono fun b _ e => by rcases e with rfl | rfl <;> assumption
  have htk : ls.take (k + 1) = ls.take k ++ [x] := by rw [List.take_succ_eq_append_getElem (by omega)]; congr 2; exact (List.getElem?_eq_some_iff.1 hx).2
  have hbnd : ((lookM (addRows rows id (ls.take k)) (labK x)).getD []).length ≤ 100000000000 + 6 := Nat.le_trans (look_bound (addRows_bound hB id (ls.take k)) (labK x)) (by simp; omega)
  obtain ⟨vv, hval, hsl⟩ : ∃ vv, (lookM (r.map fun t => (t.1, t.2.2)) (labK x)).getD (.slice none 0 0) = vv ∧ Sl M w' vv 1 ((lookM (addRows rows id (ls.take k)) (labK x)).getD []).length (ints ((lookM (addRows rows id (ls.take k)) (labK x)).getD [])) := by
    have e1 := lookM_map (fun a : List Int × Value => a.1) (labK x) r
    have e2 := lookM_map (fun a : List Int × Value => a.2) (labK x) r
    rw [hr1] at e1
    rw [e1, e2]
    cases hh : lookM r (labK x) with
    | none => exact ⟨_, rfl, Sl.nil _ _ _ _ _⟩
    | some a => exact ⟨_, rfl, hr3 _ (lookM_mem hh)⟩
  refine GG ?_
  refine QQ (Yld.indexAddrN u33 i79 rfl rfl (by omega)) ?_
  refine QQ (Yld.loadN (cs := [.string x.name, .string x.value]) a79 rfl (atN (fun j u hj => hmodM.cell (hcell j u hj) hbM))) ?_
  refine OP (Does.alloc i79) ?_
  rintro _ w5 ⟨b1, rfl, hn1⟩
  refine OQ (Does.storeN i79 rfl rfl rfl rfl hn1.blk (Nat.le_refl 2)) ?_
  rintro _ w6 ⟨hb6, hm6, _⟩
  have hB6 : Blk w6 b1 79 [.string x.name, .string x.value] := hb6
  have hg6 : Grow w' w6 := hn1.grow.then hm6 (fun y hy e => by have e' : y = b1 := e; have := hn1.at_; omega)
  refine RL.done ?_
  refine RK.drawM No [(0, false), (1, false), (2, false), (3, false), (4, false), (5, false), (6, false), (7, false), (8, false), (9, false), (10, false), (11, false), (12, true), (13, true)] [13] mixed (by kernel_rfl) ?_
  refine GG ?_
  refine DF (Yld.fieldAddr fo240_1 rfl) ?_
  refine DQ (Yld.load p238 rfl (atM ((hi.blk.mod hg6 (fun h => h)).cell rfl) (fun h => h))) (Mod.drew _ _) ?_
  refine DQ (Yld.loadN (cs := [.string x.name, .string x.value]) a79 rfl (atNM (fun j u hj => by rw [Nat.zero_add]; exact hB6.cell' hj) (fun h => h))) (Mod.drew _ _) ?_
  refine GG ?_
  refine DF (Yld.fieldAddr fo240_1 rfl) ?_
  refine DQ (Yld.load p238 rfl (atM ((hi.blk.mod hg6 (fun h => h)).cell rfl) (fun h => h))) (Mod.drew _ _) ?_
  refine DQ (Yld.loadN (cs := [.string x.name, .string x.value]) a79 rfl (atNM (fun j u hj => by rw [Nat.zero_add]; exact hB6.cell' hj) (fun h => h))) (Mod.drew _ _) ?_
  refine DQ (Yld.lookup Tryz.underlying238 key79 i37 (k := labK x) rfl rfl (fun w' hm => (hr2.mod hg6 (fun h => h)).mod hm (fun h => h))) (Mod.drew _ _) ?_
  refine DL.re (d := 49) rfl rfl (hval) ?_
  refine DL.p rfl rfl rfl ?_
  refine OD (Does.call rfl e77 (put_ok M _ id vv _ ((hsl.mod (Mod.any' hg6)).mod (Mod.drew M _)) (by omega))) ?_
  rintro u7 w7 ⟨hr7, hf7, hg7⟩
  refine ⟨(Mod.drew _ _).trans hg7, ?_⟩
  have hg07 : Grow w' w7 := (hg6.trans (Mod.drew _ _)).trans hg7
  refine DL.opT rfl (.free rfl) rfl rfl (Does.mapUpdate Tryz.underlying238 key79 (k := labK x) rfl rfl rfl (hr2.mod hg07 (fun h => h))) ?_
  rintro _ w8 ⟨hm8, hmod8, hs8⟩
  have hmodk : Mod (· = mr) w' w8 := (Mod.any' hg07).trans hmod8
  have hu7 : Sl M w8 u7 1 (mkRow ((lookM (addRows rows id (ls.take k)) (labK x)).getD [] ++ [id])).length (ints (mkRow ((lookM (addRows rows id (ls.take k)) (labK x)).getD [] ++ [id]))) := (Sl.own hr7 (fun b e hb => by have h1 := hf7 b e; have h2 := hM b hb; have h3 := hg6.size; have h4 := hmod.size; simp only [World.drew] at h1; omega)).mod (hmod8.mono fun b _ e => e ▸ hMr)
  have hidx8 : IdxAt M w8 ix mh mr (putM has id ls) (addRows rows id (ls.take (k + 1))) := by
    obtain ⟨l', hl1', hl2', hl3'⟩ := hi.hl
    refine ⟨hi.blk.mod hmodk n2, hi.ne, ⟨l', hl1', hl2'.mod hmodk hi.ne, fun t ht => (hl3' t ht).mod (hmodk.mono fun b _ e => e ▸ hMr)⟩, ⟨putM r (labK x) (mkRow ((lookM (addRows rows id (ls.take k)) (labK x)).getD [] ++ [id]), u7), ?_, ?_, fun t ht => ?_⟩⟩
    ·rw [htk, addRows_snoc, addRow1, ← hr1]; exact (putM_map (fun a : List Int × Value => a.1) (labK x) (_, u7) r).symm
    ·rw [← putM_map (fun a : List Int × Value => a.2) (labK x) (_, u7) r]; exact hm8
    ·rcases mem_putM ht with h1 | rfl
     ·exact (hr3 t h1).mod (hmodk.mono fun b _ e => e ▸ hMr)
     ·exact hu7
  refine DL.done ?_
  refine RK.inBlock ?_
  refine RK.region ?_
  refine RL.p rfl rfl ?_
  refine RL.re (d := 52) rfl rfl (succ_i64 (by omega)) ?_
  refine GG ?_
  exact RK.back (ih (k + 1) _ ⟨hidx8, hmod.trans (hmodk.mono fun b _ e => .inr e), by omega⟩ (by omega)) ⟨rfl, rfl, rfl, rfl, rfl, trivial⟩
 ·have ek : ls.take k = ls := List.take_of_length_le (by omega)
  rw [ek] at hi
  refine RK.exit rfl ?_
  refine GG ?_
  refine RK.ret_of Tryz.func177 (res1 rfl rfl) ?_ _
  exact ⟨_, rfl, rfl, hi, hmod⟩
end Go.Proofs.YthbjfhhiajihfaaGreat
set_option linter.unusedVariables false
set_option linter.unusedSimpArgs false
set_option maxHeartbeats 400000
set_option maxRecDepth 100000
namespace Go.Proofs.YthbjfhhiajihfaaGreat
open Go Go.X
structure St where
 most : Int
 last : Int
 out : List Int
 al : List (Int × List Lab × Nat)
 has : List (Int × List Lab)
 rows : List (LabK × List Int)
def own (p q ix mh mr : Nat) (vo vl : Value) : Nat → Prop := fun b => b = p ∨ b = q ∨ b = mh ∨ b = mr ∨ vo.ownBlock = some b ∨ vl.ownBlock = some b ∨ b = ix
def pub (a : Al) : Int × List Lab × Nat := (a.id, a.ls, a.val)
structure SA (w : World) (p : Nat) (s : St) (M : Nat → Prop) (q ix mh mr : Nat) (vo vl : Value) (al : List Al) : Prop where
 blk : Blk w p 190 [pp q, pp ix, vl]
 pool : PoolAt w q s.most s.last s.out vo
 idx : IdxAt M w ix mh mr s.has s.rows
 row : Row w 35 3 vl al.length (al.flatMap alC)
 als : al.map pub = s.al
 sls : ∀ a ∈ al, SlL M w a.v a.ls
 ownM : ∀ b, own p q ix mh mr vo vl b → M b
 ltM : ∀ b, M b → b < w.heap.size
def StoreX (O M : Nat → Prop) (w : World) (p : Nat) (s : St) : Prop := ∃ q ix mh mr vo vl al, (∀ b, O b ↔ own p q ix mh mr vo vl b) ∧ SA w p s M q ix mh mr vo vl al
abbrev StoreAt (w : World) (p : Nat) (s : St) (M : Nat → Prop) : Prop := StoreX M M w p s
theorem IdxAt.mps {M : Nat → Prop} {w : World} {ix mh mr : Nat} {has : List (Int × List Lab)} {rows : List (LabK × List Int)} (h : IdxAt M w ix mh mr has rows) : Mp w mh ∧ Mp w mr := by
 obtain ⟨l, _, h2, _⟩ := h.hl
 obtain ⟨r, _, h3, _⟩ := h.rl
 exact ⟨h2.mp, h3.mp⟩
theorem SA.lt {w : World} {p : Nat} {s : St} {M : Nat → Prop} {q ix mh mr : Nat} {vo vl : Value} {al : List Al} (h : SA w p s M q ix mh mr vo vl al) {b : Nat} (hb : M b) : b < w.heap.size := h.ltM b hb
theorem own_lt {w : World} {p q ix mh mr : Nat} {cs : List Value} {tp : TypeId} {m l : Int} {o : List Int} {vo vl : Value} {tl k n : Nat} {xs : List Value} {M : Nat → Prop} {has : List (Int × List Lab)} {rows : List (LabK × List Int)} (hb : Blk w p tp cs) (hp : PoolAt w q m l o vo) (hi : IdxAt M w ix mh mr has rows) (hr : Row w tl k vl n xs) : ∀ b, own p q ix mh mr vo vl b → b < w.heap.size := by
 rintro b (rfl | rfl | rfl | rfl | e | e | rfl)
 ·exact hb.lt
 ·exact hp.blk.lt
 ·exact hi.mps.1.lt
 ·exact hi.mps.2.lt
 ·exact hp.row.lt e
 ·exact hr.lt e
 ·exact hi.blk.lt
theorem StoreX.lt {w : World} {p : Nat} {s : St} {O M : Nat → Prop} (h : StoreX O M w p s) {b : Nat} (hb : M b) : b < w.heap.size := by
 obtain ⟨q, ix, mh, mr, vo, vl, al, hO, h⟩ := h
 exact h.lt hb
theorem PoolAt.mod {w w' : World} {p : Nat} {most last : Int} {out : List Int} {v : Value} {M0 : Nat → Prop} (h : PoolAt w p most last out v) (hm : Mod M0 w w') (n1 : ¬ M0 p) (n2 : ∀ b, v.ownBlock = some b → ¬ M0 b) : PoolAt w' p most last out v :=
 ⟨h.blk.mod hm n1, h.row.mod hm n2, h.ne⟩
theorem SA.grow {w w' : World} {p : Nat} {s : St} {M : Nat → Prop} {q ix mh mr : Nat} {vo vl : Value} {al : List Al} (h : SA w p s M q ix mh mr vo vl al) (hg : Grow w w') : SA w' p s M q ix mh mr vo vl al :=
 ⟨h.blk.mod hg (fun h => h), h.pool.mod hg (fun h => h) (fun _ _ h => h), h.idx.mod hg (fun _ _ h => h.elim) (fun h => h) (fun h => h) (fun h => h), h.row.mod hg (fun _ _ h => h), h.als, fun a ha => (h.sls a ha).mod (Mod.any' hg), h.ownM, fun b hb => Nat.lt_of_lt_of_le (h.ltM b hb) hg.size⟩
theorem StoreX.grow {w w' : World} {p : Nat} {s : St} {O M : Nat → Prop} (h : StoreX O M w p s) (hg : Grow w w') : StoreX O M w' p s := by
 obtain ⟨q, ix, mh, mr, vo, vl, al, hO, h⟩ := h
 exact ⟨q, ix, mh, mr, vo, vl, al, hO, h.grow hg⟩
theorem StoreX.sub {w : World} {p : Nat} {s : St} {O M : Nat → Prop} (h : StoreX O M w p s) {b : Nat} (hb : O b) : M b := by
 obtain ⟨q, ix, mh, mr, vo, vl, al, hO, h⟩ := h
 exact h.ownM b ((hO b).1 hb)
theorem StoreX.off {w : World} {p : Nat} {s : St} {O M M' : Nat → Prop} (h : StoreX O M w p s) (h1 : ∀ b, O b → M' b) (h2 : ∀ b, M' b → M b) : StoreX O M' w p s := by
 obtain ⟨q, ix, mh, mr, vo, vl, al, hO, h⟩ := h
 exact ⟨q, ix, mh, mr, vo, vl, al, hO, h.blk, h.pool, h.idx.off fun b _ e => h2 b e, h.row, h.als, fun a ha => (h.sls a ha).off (by omega) (fun b _ e => h2 b e), fun b e => h1 b ((hO b).2 e), fun b e => h.ltM b (h2 b e)⟩
theorem StoreX.at_ {w : World} {p : Nat} {s : St} {O M : Nat → Prop} (h : StoreX O M w p s) : StoreAt w p s O := h.off (fun _ e => e) (fun _ e => h.sub e)
def capS (m : Int) : Int := if 16 < (if 1 > m then 1 else m) then 16 else if 1 > m then 1 else m
def St.new (m : Int) : St := ⟨capS m, 0, [], [], [], []⟩
theorem alertNew_ok (m : Int) (w : World) : Fx Tryz.prog 68 [.int .i64 m] w (fun u w' => ∃ p M, u = pp p ∧ StoreAt w' p (St.new m) M ∧ (∀ b, M b → w.heap.size ≤ b) ∧ Grow w w') := by
 refine enter Tryz.func68 rfl rfl rfl _ (Pick.sub (l := [0]) (.cons rfl .nil)) ?_
 refine GG ?_
 refine QQ (Yld.max2 rfl rfl) ?_
 refine QQ (Yld.min2 rfl rfl) ?_
 refine OP (Does.call rfl e96 (poolNew_ok _ _)) ?_
 rintro _ w1 ⟨q, rfl, hq, hp1, hg1, _⟩
 refine OP (Does.call rfl e132 (idxNew_ok _)) ?_
 rintro _ w2 ⟨ix, mh, mr, rfl, hix, hi2, hg2⟩
 refine QQ (Yld.build (v := .agg #[pp q, pp ix, .slice none 0 0]) rfl (fun w => by kernel_rfl)) ?_
 refine OP (Does.box rfl) ?_
 rintro _ w3 ⟨p, rfl, hn3⟩
 refine GG ?_
 refine RK.ret_of Tryz.func68 (res1 rfl rfl) ?_ _
 exact ⟨_, rfl, p, own p q ix mh mr (.slice none 0 0) (.slice none 0 0), rfl, ⟨q, ix, mh, mr, .slice none 0 0, .slice none 0 0, [], fun _ => Iff.rfl, hn3.blk, by
   have e : (if 0 > capS m then 0 else capS m) = capS m := by unfold capS; split <;> omega
   have h1 : PoolAt w3 q (if 0 > capS m then 0 else capS m) 0 [] (.slice none 0 0) := hp1.mod (hg2.trans hn3.grow) (fun h => h) (fun _ _ h => h)
   rw [e] at h1
   exact h1, (hi2 _).mod hn3.grow (fun _ _ h => h.elim) (fun h => h) (fun h => h) (fun h => h), Row.nil _ _ _, rfl, by simp, fun _ e => e, own_lt hn3.blk (hp1.mod (hg2.trans hn3.grow) (fun h => h) (fun _ _ h => h)) ((hi2 No).mod hn3.grow (fun _ _ h => h.elim) (fun h => h) (fun h => h) (fun h => h)) (Row.nil w3 3 1)⟩, fun b hb => by
   have h1 := hn3.at_; have h2 := hg1.size; have h3 := hg2.size
   rcases hb with rfl | rfl | rfl | rfl | e | e | rfl
   ·omega
   ·omega
   ·have := hix b (.inr (.inl rfl)); omega
   ·have := hix b (.inr (.inr rfl)); omega
   ·simp [Value.ownBlock] at e
   ·simp [Value.ownBlock] at e
   ·have := hix b (.inl rfl); omega
  , (hg1.trans hg2).trans hn3.grow⟩
theorem alertLen_ok (w : World) (p : Nat) (s : St) (M : Nat → Prop) (h : StoreAt w p s M) : Fx Tryz.prog 130 [pp p] w (fun u w' => u = .int .i64 s.al.length ∧ w = w') := by
 obtain ⟨q, ix, mh, mr, vo, vl, al, hO, h⟩ := h
 obtain ⟨ad, c, rfl⟩ := h.row.slice
 refine enter Tryz.func130 rfl rfl rfl _ (Pick.sub (l := [0]) (.cons rfl .nil)) ?_
 refine GG ?_
 refine QQ (Yld.fieldAddr fo190_2 rfl) ?_
 refine QQ (Yld.load p49 rfl (at1 (h.blk.cell rfl))) ?_
 refine QQ (Yld.lenSl u49 rfl) ?_
 refine GG ?_
 refine RK.ret_of Tryz.func130 (res1 rfl rfl) ?_ _
 exact ⟨_, rfl, by rw [← h.als]; simp, rfl⟩
theorem alertPosts_ok (w : World) (p : Nat) (s : St) (M : Nat → Prop) (h : StoreAt w p s M) : Fx Tryz.prog 131 [pp p] w (fun u w' => u = .int .i64 s.rows.length ∧ w = w') := by
 obtain ⟨q, ix, mh, mr, vo, vl, al, hO, h⟩ := h
 refine enter Tryz.func131 rfl rfl rfl _ (Pick.sub (l := [0]) (.cons rfl .nil)) ?_
 refine GG ?_
 refine QQ (Yld.fieldAddr fo190_1 rfl) ?_
 refine QQ (Yld.load p187 rfl (at1 (h.blk.cell rfl))) ?_
 refine OP (Does.call rfl e180 (idxLen_ok M _ ix mh mr _ _ h.idx)) ?_
 rintro _ w2 ⟨rfl, rfl⟩
 refine GG ?_
 refine RK.ret_of Tryz.func131 (res1 rfl rfl) ?_ _
 exact ⟨_, rfl, rfl, rfl⟩
end Go.Proofs.YthbjfhhiajihfaaGreat
set_option linter.unusedVariables false
set_option linter.unusedSimpArgs false
set_option maxHeartbeats 400000
set_option maxRecDepth 100000
namespace Go.Proofs.YthbjfhhiajihfaaGreat
open Go Go.X
def valsS (s : St) : List Nat := s.al.map (·.2.2)
def rankIds (s : St) : List Int := (rankOf (valsS s)).map fun i => ((s.al[i]?).map (·.1)).getD 0
theorem rankIds_len (s : St) : (rankIds s).length = s.al.length := by simp [rankIds, rankOf_len, valsS]
theorem rankOf_lt {vs : List Nat} {x : Nat} (h : x ∈ rankOf vs) : x < vs.length := List.mem_range.1 ((isort_perm _ _).mem_iff.1 h)
theorem set_rank {R : List Int} {O : List Nat} {k : Nat} {x : Int} (hl : R.length = O.length) (hx : R[k]? = some x) : (ints (R.take k) ++ nats (O.drop k)).set k (.int .i64 x) = ints (R.take (k + 1)) ++ nats (O.drop (k + 1)) := by
 have hk : k < R.length := (List.getElem?_eq_some_iff.1 hx).1
 have e2 : nats (O.drop k) = .int .i64 (O[k]'(by omega) : Int) :: nats (O.drop (k + 1)) := by rw [List.drop_eq_getElem_cons (by omega : k < O.length)]; rfl
 rw [List.take_succ_eq_append_getElem hk, e2, (List.getElem?_eq_some_iff.1 hx).2]
 have e : (ints (R.take k)).length = k := by simp; omega
 rw [List.set_append_right _ _ (by omega), e]
 simp
theorem alertRank_ok (w : World) (p : Nat) (s : St) (M : Nat → Prop) (h : StoreAt w p s M) (hlt : ∀ a ∈ s.al, a.2.2 < 18446744073709551616) (hn : s.al.length < 20) :
  Fx Tryz.prog 129 [pp p] w (fun u w' => Row w' 3 1 u s.al.length (ints (rankIds s)) ∧ Fresh w.heap.size u ∧ Grow w w') := by
 obtain ⟨q, ix, mh, mr, vo, vl, al, hO, h⟩ := h
 obtain ⟨ad, c, rfl⟩ := h.row.slice
 have hal : al.length = s.al.length := by rw [← h.als]; simp
 have hvals : al.map (·.val) = valsS s := by unfold valsS; rw [← h.als]; simp [pub]
 have hvl : (valsS s).length = al.length := by simp [valsS, hal]
 have hrow : Sl No w (.slice ad al.length c) 3 al.length (al.flatMap alC) := Sl.own h.row (fun _ _ h => h)
 refine enter Tryz.func129 rfl rfl rfl _ (Pick.sub (l := [0]) (.cons rfl .nil)) ?_
 refine GG ?_
 refine QQ (Yld.fieldAddr fo190_2 rfl) ?_
 refine QQ (Yld.load p49 rfl (at1 (h.blk.cell rfl))) ?_
 refine QQ (Yld.lenSl u49 rfl) ?_
 refine GG ?_
 refine RK.loop (fun s : Nat × Value => [(0, pp p), (12, .slice ad al.length c), (13, .int .i64 al.length), (14, .int .i64 s.1), (3, s.2)]) (fun s w' => Row w' 25 1 s.2 s.1 (flts ((al.map (·.val)).take s.1)) ∧ Fresh w.heap.size s.2 ∧ Grow w w' ∧ s.1 ≤ al.length) (fun s => al.length - s.1) (0, .slice none 0 0) ⟨rfl, rfl, rfl, rfl, rfl, trivial⟩ ⟨by simpa using Row.nil _ _ _, fun b hb => by simp [Value.ownBlock] at hb, Mod.refl _ _, by omega⟩ (fun s1 w' hI ih => ?_)
 obtain ⟨k, u⟩ := s1
 obtain ⟨hr, hfr, hg, hk⟩ := hI
 simp only at hr hfr hk
 refine GG ?_
 refine CD (fun h15 => ?_) (fun h15 => ?_)
 ·obtain ⟨a, hx⟩ : ∃ x, al[k]? = some x := ⟨al[k]'(by omega), List.getElem?_eq_getElem (by omega)⟩
  obtain ⟨b1, o1, c1', he1, _, _, hc1⟩ := hrow.elem alC_len hx
  cases he1
  obtain ⟨ada, ca, hva⟩ := (h.sls a (List.mem_of_getElem? hx)).shape
  have htk : (al.map (·.val)).take (k + 1) = (al.map (·.val)).take k ++ [a.val] := by rw [List.take_succ_eq_append_getElem (by simp; omega)]; congr 2; simp [(List.getElem?_eq_some_iff.1 hx).2]
  refine GG ?_
  refine QQ (Yld.indexAddrN u49 i35 rfl rfl (by omega)) ?_
  refine QQ (Yld.loadN (cs := [.int .i64 a.id, .slice ada a.ls.length ca, .float .f64 a.val]) a35 rfl (atN (fun j u hj => hg.cell (hc1 j u (by rw [alC, hva]; exact hj)) (fun h => h)))) ?_
  refine OP (Does.alloc i35) ?_
  rintro _ w2 ⟨b2, rfl, hn2⟩
  refine OQ (Does.storeN i35 rfl rfl rfl rfl hn2.blk (Nat.le_refl 3)) ?_
  rintro _ w3 ⟨hb3, hm3, _⟩
  have hB3 : Blk w3 b2 35 [.int .i64 a.id, .slice ada a.ls.length ca, .float .f64 a.val] := hb3
  have hg3 : Grow w' w3 := hn2.grow.then hm3 (fun y hy e => by have e' : y = b2 := e; have := hn2.at_; omega)
  refine GG ?_
  refine QQ (Yld.fieldAddr fo35_2 rfl) ?_
  refine QQ (Yld.load p25 rfl (at1 (hB3.cell rfl))) ?_
  refine OP (Does.slice1 u235 i25 rfl rfl rfl rfl rfl) ?_
  rintro _ w4 ⟨b4, rfl, hn4⟩
  refine OP (Does.append u235 i25 rfl rfl rfl rfl rfl ((hr.mod hg3 (fun _ _ h => h)).mod hn4.grow (fun _ _ h => h)) (Sl.new hn4 1 1 rfl (by omega) (fun h => h)) (rfl) (by omega)) ?_
  rintro u5 w5 ⟨hr5, hm5, hu5⟩
  refine RL.p rfl rfl ?_
  refine RL.done ?_
  refine RK.inBlock ?_
  refine RK.region ?_
  refine RL.p rfl rfl ?_
  refine RL.re (d := 23) rfl rfl (succ_i64 (by omega)) ?_
  refine GG ?_
  exact RK.back (ih (k + 1, u5) _ ⟨by rw [htk]; show Row _ _ _ _ _ (List.map _ (_ ++ _)); rw [List.map_append]; exact hr5, fun b e => by
    have h1 := hg.size; have h2 := hg3.size; have h3 := hn4.size
    rcases hu5 with hh | hh
    ·rw [hh] at e; exact hfr b e
    ·rw [hh] at e; cases e; omega
   , ((hg.trans hg3).trans hn4.grow).then hm5 (fun x hx e => by have := hfr x e; omega), by simp; omega⟩ (by simp; omega)) ⟨rfl, rfl, rfl, rfl, rfl, trivial⟩
 ·have ek : (al.map (·.val)).take k = valsS s := by rw [← hvals]; exact List.take_of_length_le (by simp; omega)
  have hkl : k = (valsS s).length := by omega
  rw [ek] at hr
  subst hkl
  refine RK.exit rfl ?_
  refine GG ?_
  refine OP (Does.call rfl e179 (rank_ok No (valsS s) (by intro v hv; simp only [valsS, List.mem_map] at hv; obtain ⟨a, ha, rfl⟩ := hv; exact hlt a ha) (by omega) u _ (Sl.own hr (fun _ _ h => h)))) ?_
  rintro _ w2 ⟨g, rfl, hbg, hgw, hg2⟩
  have hW : Grow w w2 := hg.trans hg2
  have hgw' : w.heap.size ≤ g := by have := hg.size; omega
  have hrowg : Sl (· = g) w (.slice ad al.length c) 3 al.length (al.flatMap alC) := Sl.own h.row (fun k e hk => by have := h.row.lt e; have e' : k = g := hk; omega)
  have hpg : ¬ (p = g) := by have := h.blk.lt; omega
  refine GG ?_
  refine QQ (Yld.lenSl u37 rfl) ?_
  refine GG ?_
  refine RK.loop (fun k : Nat => [(0, pp p), (6, .slice (some ⟨g, 0, none⟩) (valsS s).length (valsS s).length), (26, .slice (some ⟨g, 0, none⟩) (valsS s).length (valsS s).length), (27, .int .i64 (valsS s).length), (28, .int .i64 k)]) (fun k w' => Blk w' g 3 (ints ((rankIds s).take k) ++ nats ((rankOf (valsS s)).drop k)) ∧ Mod (· = g) w2 w' ∧ k ≤ (valsS s).length) (fun k => (valsS s).length - k) 0 ⟨rfl, rfl, rfl, rfl, rfl, trivial⟩ ⟨by simpa using hbg, Mod.refl _ _, by omega⟩ (fun k w3 hI2 ih2 => ?_)
  obtain ⟨hb3, hm3, hk3⟩ := hI2
  have hm03 : Mod (· = g) w w3 := (Mod.any' hW).trans hm3
  refine GG ?_
  refine CD (fun h29 => ?_) (fun h29 => ?_)
  ·have hrl := rankOf_len (valsS s)
   obtain ⟨x, hx⟩ : ∃ x, (rankOf (valsS s))[k]? = some x := ⟨(rankOf (valsS s))[k]'(by omega), List.getElem?_eq_getElem (by omega)⟩
   have hxl : x < (valsS s).length := rankOf_lt (List.mem_of_getElem? hx)
   obtain ⟨a, ha⟩ : ∃ a, al[x]? = some a := ⟨al[x]'(by omega), List.getElem?_eq_getElem (by omega)⟩
   obtain ⟨b1, o1, c1', he1, hb1g, _, hc1⟩ := hrowg.elem alC_len ha
   cases he1
   have hid : (rankIds s)[k]? = some a.id := by unfold rankIds; rw [List.getElem?_map, hx, ← h.als]; simp [ha, pub]
   have hcell : (ints ((rankIds s).take k) ++ nats ((rankOf (valsS s)).drop k))[k]? = some (.int .i64 (x : Int)) := by
     have e : (ints ((rankIds s).take k)).length = k := by have := rankIds_len s; simp; omega
     rw [List.getElem?_append_right (by omega), e]
     simp [hx]
   refine GG ?_
   refine QQ (Yld.indexAddrN u37 i3 rfl rfl (by omega)) ?_
   refine QQ (Yld.load p3 rfl (at1 (hb3.at1 hcell))) ?_
   refine GG ?_
   refine QQ (Yld.fieldAddr fo190_2 rfl) ?_
   refine QQ (Yld.load p49 rfl (at1 ((h.blk.mod hm03 hpg).cell rfl))) ?_
   refine RL.p rfl rfl ?_
   refine QQ (Yld.indexAddrN u49 i35 rfl rfl (by omega)) ?_
   refine QQ (Yld.fieldAddr fo35_0 rfl) ?_
   refine QQ (Yld.load p3 rfl (at1 (hm03.cell (hc1 0 _ rfl) hb1g))) ?_
   refine QQ (Yld.indexAddrN u37 i3 rfl rfl (by omega)) ?_
   refine OQ (Does.store i3 rfl rfl rfl hb3 (SetAt.of (by simp [rankIds_len, rankOf_len]; have := rankIds_len s; omega))) ?_
   rintro _ w4 ⟨hb4, hm4, _⟩
   refine RL.done ?_
   refine RK.inBlock ?_
   refine RK.region ?_
   refine RL.p rfl rfl ?_
   refine RL.re (d := 44) rfl rfl (succ_i64 (by omega)) ?_
   refine GG ?_
   exact RK.back (ih2 (k + 1) _ ⟨by rw [← set_rank (by rw [rankIds_len, rankOf_len]; omega) hid]; simpa using hb4, hm3.trans hm4, by omega⟩ (by omega)) ⟨rfl, rfl, rfl, rfl, rfl, trivial⟩
  ·have e1 : (rankIds s).take k = rankIds s := List.take_of_length_le (by rw [rankIds_len]; omega)
   have e2 : (rankOf (valsS s)).drop k = [] := List.drop_eq_nil_of_le (by rw [rankOf_len]; omega)
   rw [e1, e2] at hb3
   have e3 : s.al.length = (valsS s).length := by omega
   rw [e3]
   refine RK.exit rfl ?_
   refine GG ?_
   refine RK.ret_of Tryz.func129 (res1 rfl rfl) ?_ _
   exact ⟨_, rfl, Row.blk (by simpa using hb3) 1 _ (by simp [rankIds_len]; omega) (by omega), fun b hb => by simp [Value.ownBlock] at hb; omega, hW.then hm3 (fun x hx e => by have e' : x = g := e; omega)⟩
end Go.Proofs.YthbjfhhiajihfaaGreat
set_option linter.unusedVariables false
set_option linter.unusedSimpArgs false
set_option maxHeartbeats 400000
set_option maxRecDepth 100000
namespace Go.Proofs.YthbjfhhiajihfaaGreat
open Go Go.X
def fullS (most last : Int) (out : List Int) : Bool := decide (most ≤ out.length ∨ last = 2147483647)
theorem take_any (w : World) (p : Nat) (most last : Int) (out : List Int) (v : Value) (hp : PoolAt w p most last out v) (h3 : 0 ≤ last) (h4 : last ≤ 2147483647) (h5 : out.length ≤ 1000000) :
  Fx Tryz.prog 100 [pp p] w (fun u w' => u = .tuple #[.int .i64 (if fullS most last out then 0 else last + 1), .bool (!fullS most last out)] ∧ ∃ v', PoolAt w' p most (if fullS most last out then last else last + 1) (if fullS most last out then out else out ++ [last + 1]) v' ∧ Mod (fun b => b = p ∨ v.ownBlock = some b) w w' ∧ (∀ b, v'.ownBlock = some b → v.ownBlock = some b ∨ w.heap.size ≤ b)) := by
 cases hf : fullS most last out with
 | true =>
  refine Fx.mono (take_no w p most last out v hp (of_decide_eq_true hf)) ?_
  rintro u w' ⟨rfl, h1, h2⟩
  exact ⟨rfl, v, h1, Mod.any' h2, fun b e => .inl e⟩
 | false =>
  have := of_decide_eq_false hf
  exact take_ok w p most last out v hp (by omega) (by omega) h3 h4 h5
structure Ok (s : St) : Prop where
 last0 : 0 ≤ s.last
 last1 : s.last ≤ 2147483647
 most : s.most ≤ 16
 outLe : (s.out.length : Int) ≤ s.most
 alOut : s.al.length = s.out.length
 has : ∀ t ∈ s.has, t.1 ≤ s.last
 rows : ∀ t ∈ s.rows, (t.2.length : Int) ≤ 6 * s.last
 vals : ∀ a ∈ s.al, a.2.2 < 18446744073709551616
def postS (s : St) (ls : List Lab) (val : Nat) : St × Int × Bool × Int :=
 if isS ls = false then (s, 0, false, 1) else
 match findS (s.al.map (·.2.1)) ls with
 | some i => ({ s with al := s.al.modify i fun a => (a.1, a.2.1, canS val) }, ((s.al[i]?).map (·.1)).getD 0, false, 0)
 | none => if fullS s.most s.last s.out then (s, 0, false, 10) else
  ({ most := s.most, last := s.last + 1, out := s.out ++ [s.last + 1], al := s.al ++ [(s.last + 1, ls, canS val)], has := putM s.has (s.last + 1) ls, rows := addRows s.rows (s.last + 1) ls }, s.last + 1, true, 0)
theorem Ok.new (m : Int) : Ok (St.new m) := by
 refine ⟨by simp [St.new], by simp [St.new], ?_, ?_, rfl, by simp [St.new], by simp [St.new], by simp [St.new]⟩
 ·simp only [St.new, capS]; split <;> omega
 ·simp only [St.new, capS]; simp; split <;> omega
theorem addRows_bound' {r : List (LabK × List Int)} {last : Int} {id : Int} {ls : List Lab} (h : ∀ t ∈ r, (t.2.length : Int) ≤ 6 * last) (h0 : 0 ≤ last) (hl : ls.length ≤ 6) : ∀ t ∈ addRows r id ls, (t.2.length : Int) ≤ 6 * (last + 1) := by
 intro t ht
 have := addRows_bound (B := (6 * last).toNat) (fun t ht => by have := h t ht; omega) id ls t ht
 omega
theorem Ok.post {s : St} (h : Ok s) (ls : List Lab) {val : Nat} (hv : val < 18446744073709551616) : Ok (postS s ls val).1 := by
 have hc := can_lt hv
 unfold postS
 by_cases his : isS ls = false
 ·rw [if_pos his]; exact h
 ·rw [if_neg his]
  split
  ·rename_i i hi
   refine ⟨h.last0, h.last1, h.most, h.outLe, by simp [h.alOut], h.has, h.rows, fun a ha => ?_⟩
   obtain ⟨j, hj⟩ := List.getElem?_of_mem ha
   simp only [List.getElem?_modify] at hj
   cases hx : s.al[j]? with
   | none => simp [hx] at hj
   | some x =>
    have := h.vals x (List.mem_of_getElem? hx)
    simp only [hx, Option.map_some] at hj
    split at hj <;> (simp at hj; subst hj; first | exact hc | exact this)
  ·cases hf : fullS s.most s.last s.out with
   | true => simpa using h
   | false =>
    have hf' := of_decide_eq_false hf
    have hl := h.last0
    have hl1 := h.last1
    have ho := h.outLe
    simp only [Bool.false_eq_true, if_false]
    refine ⟨by simp only; omega, by simp only; omega, h.most, by simp; omega, by simp [h.alOut], fun t ht => ?_, addRows_bound' h.rows hl (isS_len (by simpa using his)).2, fun a ha => ?_⟩
    ·rcases mem_putM ht with h1 | rfl
     ·have := h.has t h1; simp only; omega
     ·exact Int.le_refl _
    ·simp at ha
     rcases ha with h1 | rfl
     ·exact h.vals a h1
     ·exact hc
theorem apart4 {w : World} {p q ix mh mr : Nat} {cs : List Value} {vo vl : Value} {M : Nat → Prop} {m l : Int} {o : List Int} {has : List (Int × List Lab)} {rows : List (LabK × List Int)} {k : Nat} {xs : List Value}
  (hB : Blk w p 190 cs) (hP : PoolAt w q m l o vo) (hI : IdxAt M w ix mh mr has rows) (hR : Row w 35 3 vl k xs) :
  (p ≠ q ∧ p ≠ ix ∧ p ≠ mh ∧ p ≠ mr) ∧ (q ≠ ix ∧ q ≠ mh ∧ q ≠ mr) ∧ (ix ≠ mh ∧ ix ≠ mr) ∧ (∀ b, vo.ownBlock = some b → b ≠ p ∧ b ≠ q ∧ b ≠ ix ∧ b ≠ mh ∧ b ≠ mr ∧ vl.ownBlock ≠ some b) ∧ (∀ b, vl.ownBlock = some b → b ≠ p ∧ b ≠ q ∧ b ≠ ix ∧ b ≠ mh ∧ b ≠ mr) := by
 have h1 := hB.ty
 have h2 := hP.blk.ty
 have h3 := hI.blk.ty
 obtain ⟨h4, h5⟩ := hI.mps
 exact ⟨⟨h1.ne h2 rfl, h1.ne h3 rfl, h1.nem h4, h1.nem h5⟩, ⟨h2.ne h3 rfl, h2.nem h4, h2.nem h5⟩, ⟨h3.nem h4, h3.nem h5⟩, fun b e => ⟨(hP.row.ty e).ne h1 rfl, (hP.row.ty e).ne h2 rfl, (hP.row.ty e).ne h3 rfl, (hP.row.ty e).nem h4, (hP.row.ty e).nem h5, fun e2 => (hP.row.ty e).ne (hR.ty e2) rfl rfl⟩, fun b e => ⟨(hR.ty e).ne h1 rfl, (hR.ty e).ne h2 rfl, (hR.ty e).ne h3 rfl, (hR.ty e).nem h4, (hR.ty e).nem h5⟩⟩
def setVal (a : Al) (x : Nat) : Al := { a with val := x }
theorem set_val (x : Nat) : ∀ (al : List Al) (i : Nat), i < al.length → (al.flatMap alC).set (i * 3 + 2) (.float .f64 x) = (al.modify i fun a => setVal a x).flatMap alC
 | [], i, h => by simp at h
 | a :: al, 0, h => by simp [alC, setVal]
 | a :: al, i + 1, h => by
  have e : (i + 1) * 3 + 2 = (alC a).length + (i * 3 + 2) := by rw [alC_len]; omega
  rw [List.flatMap_cons, e, List.set_append_right _ _ (by omega), Nat.add_sub_cancel_left, set_val x al i (by simpa using h)]
  simp
end Go.Proofs.YthbjfhhiajihfaaGreat
set_option linter.unusedVariables false
set_option linter.unusedSimpArgs false
set_option maxHeartbeats 400000
set_option maxRecDepth 100000
namespace Go.Proofs.YthbjfhhiajihfaaGreat
open Go Go.X
theorem postX_ok (w : World) (p : Nat) (s : St) (O M : Nat → Prop) (h : StoreX O M w p s) (hok : Ok s) (ls : List Lab) (v : Value) (hv : SlL M w v ls) (val : Nat) :
  Fx Tryz.prog 127 [pp p, v, .float .f64 val] w (fun u w' => ∃ O', u = .tuple #[.int .i64 (postS s ls val).2.1, .bool (postS s ls val).2.2.1, .int .i64 (postS s ls val).2.2.2] ∧ StoreX O' (fun b => M b ∨ O' b) w' p (postS s ls val).1 ∧ Mod O w w' ∧ ∀ b, O' b → O b ∨ w.heap.size ≤ b) := by
 have hself := h
 have hOM : ∀ b, O b → M b := fun b e => h.sub e
 obtain ⟨q, ix, mh, mr, vo, vl, al, hO, h⟩ := h
 obtain ⟨adl, cl, rfl⟩ := h.row.slice
 obtain ⟨ad, c, rfl⟩ := hv.shape
 have hal : al.length = s.al.length := by rw [← h.als]; simp
 have hlab : al.map (·.ls) = s.al.map (·.2.1) := by rw [← h.als]; simp [pub]
 have hal16 : al.length ≤ 16 := by have h1 := hok.most; have h2 := hok.outLe; have h3 := hok.alOut; omega
 have hMlt : ∀ b, M b → b < w.heap.size := fun b hb => h.lt hb
 refine enter Tryz.func127 rfl rfl rfl _ (Pick.sub (l := [0, 1, 2]) (.cons rfl (.cons rfl (.cons rfl .nil)))) ?_
 refine GG ?_
 refine OP (Does.box rfl) ?_
 rintro _ w1 ⟨b4, rfl, hn4⟩
 refine GG ?_
 refine QQ (Yld.load p33 rfl (at1 (hn4.blk.cell rfl))) ?_
 refine OP (Does.call rfl e171 (is_ok M ls _ _ (hv.mod (Mod.any' hn4.grow)))) ?_
 rintro _ w2 ⟨rfl, hg2⟩
 refine GG ?_
 refine CD (fun h14 => ?_) (fun h14 => ?_)
 ·have his : isS ls = false := by simpa using h14
  have e : postS s ls val = (s, 0, false, 1) := by unfold postS; rw [if_pos his]
  rw [e]
  refine GG ?_
  refine RK.ret_of Tryz.func127 (res3 rfl rfl rfl rfl) ?_ _
  exact ⟨_, rfl, O, rfl, (hself.grow (hn4.grow.trans hg2)).off (fun b e => .inr e) (fun b e => e.elim id (hOM b)), Mod.any' (hn4.grow.trans hg2), fun b hb => .inl hb⟩
 ·have his : isS ls = true := by simpa using h14
  have hg02 : Grow w w2 := hn4.grow.trans hg2
  have h2 := h.grow hg02
  have hb42 := hn4.blk.mod hg2 (fun h => h)
  refine GG ?_
  refine OP (Does.call rfl e173 (bits_ok _ _)) ?_
  rintro _ _ ⟨rfl, rfl⟩
  refine OP (Does.call rfl e172 (of_ok _ _)) ?_
  rintro _ _ ⟨rfl, rfl⟩
  refine GG ?_
  refine QQ (Yld.fieldAddr fo190_2 rfl) ?_
  refine QQ (Yld.load p49 rfl (at1 (h2.blk.cell rfl))) ?_
  refine RL.p rfl rfl ?_
  refine OP (Does.call rfl e174 (indexFunc_ok M al ls _ _ b4 _ (Sl.own h2.row (fun _ _ h => h)) h2.sls (hv.mod (Mod.any' hg02)) hb42)) ?_
  rintro _ w3 ⟨rfl, hg3⟩
  rw [hlab]
  have h3 := h2.grow hg3
  have hg03 := hg02.trans hg3
  refine GG ?_
  refine CD (fun h28 => ?_) (fun h28 => ?_)
  ·obtain ⟨i, hi⟩ : ∃ i, findS (s.al.map (·.2.1)) ls = some i := by
     cases hf : findS (s.al.map (·.2.1)) ls with
     | none => rw [hf] at h28; simp [optI] at h28
     | some i => exact ⟨i, rfl⟩
   have hil : i < al.length := by
     unfold findS at hi
     have := (List.findIdx?_eq_some_iff_getElem.1 hi).1
     simpa [hal] using this
   have e : postS s ls val = ({ s with al := s.al.modify i fun a => (a.1, a.2.1, canS val) }, ((s.al[i]?).map (·.1)).getD 0, false, 0) := by unfold postS; rw [if_neg (by simp [his]), hi]
   rw [e, hi]
   obtain ⟨a, ha⟩ : ∃ a, al[i]? = some a := ⟨al[i]'hil, List.getElem?_eq_getElem hil⟩
   obtain ⟨hp1, hp2, hp3, hp4, hp5⟩ := apart4 h3.blk h3.pool h3.idx h3.row
   have hOg : ∀ b, (Value.slice adl al.length cl).ownBlock = some b → O b := fun b e => (hO b).2 (.inr (.inr (.inr (.inr (.inr (.inl e))))))
   obtain ⟨g, cap, tl, hvl, hbg, hclose⟩ := h3.row.open (by omega)
   cases hvl
   have hOg := hOg g rfl
   have hMg := hOM g hOg
   have hg5 := hp5 g rfl
   have hflat : (al.flatMap alC).length = al.length * 3 := flat_len alC 3 alC_len al
   refine GG ?_
   refine QQ (Yld.fieldAddr fo190_2 rfl) ?_
   refine QQ (Yld.load p49 rfl (at1 (h3.blk.cell rfl))) ?_
   refine GG ?_
   refine QQ (Yld.indexAddrN u49 i35 rfl rfl (hil)) ?_
   refine QQ (Yld.fieldAddr fo35_2 rfl) ?_
   refine OQ (Does.store i25 rfl rfl rfl hbg (SetAt.of (by simp only [List.length_append, hflat]; omega))) ?_
   rintro _ w4 ⟨hb4, hm4, _⟩
   have hset : (al.flatMap alC ++ tl).set (0 + i * 3 + 2) (.float .f64 (canS val)) = (al.modify i fun a => setVal a (canS val)).flatMap alC ++ tl := by
     rw [List.set_append_left _ _ (by rw [hflat]; omega), Nat.zero_add, set_val _ _ _ hil]
   have hlen' : ((al.modify i fun a => setVal a (canS val)).flatMap alC).length = (al.flatMap alC).length := by rw [hflat, flat_len alC 3 alC_len]; simp
   have hrow4 := hclose w4 _ hlen' (by rw [← hset]; exact hb4)
   have ha' : (al.modify i fun a => setVal a (canS val))[i]? = some (setVal a (canS val)) := by simp [ha]
   have hrl : (al.modify i fun a => setVal a (canS val)).length = al.length := by simp
   have hsl4 : Sl No w4 (.slice (some ⟨g, 0, none⟩) al.length cl) 3 (al.modify i fun a => setVal a (canS val)).length ((al.modify i fun a => setVal a (canS val)).flatMap alC) := by rw [hrl]; exact Sl.own hrow4 (fun _ _ h => h)
   obtain ⟨b1, o1, c1', he1, _, _, hc1⟩ := hsl4.elem alC_len ha'
   rw [hrl] at he1
   cases he1
   have hid : ((s.al[i]?).map (·.1)).getD 0 = a.id := by rw [← h.als]; simp [ha, pub]
   have hm03 : Mod O w w4 := (Mod.any' hg03).trans (hm4.mono fun b _ e => e ▸ hOg)
   refine GG ?_
   refine QQ (Yld.fieldAddr fo190_2 rfl) ?_
   refine QQ (Yld.load p49 rfl (at1 ((h3.blk.mod hm4 hg5.1.symm).cell rfl))) ?_
   refine RL.p rfl rfl ?_
   refine QQ (Yld.indexAddrN u49 i35 rfl rfl (hil)) ?_
   refine QQ (Yld.fieldAddr fo35_0 rfl) ?_
   refine QQ (Yld.load p3 rfl (at1 (hc1 0 _ rfl))) ?_
   refine GG ?_
   refine RK.ret_of Tryz.func127 (res3 rfl rfl rfl rfl) ?_ _
   exact ⟨_, rfl, O, by rw [hid]; rfl, StoreX.off (M := M) ⟨q, ix, mh, mr, vo, _, al.modify i fun a => setVal a (canS val), hO, ⟨h3.blk.mod hm4 hg5.1.symm, h3.pool.mod hm4 hg5.2.1.symm (fun b e e' => (hp4 b e).2.2.2.2.2 (e' ▸ rfl)), h3.idx.mod hm4 (fun b _ e => e ▸ hMg) hg5.2.2.1.symm hg5.2.2.2.1.symm hg5.2.2.2.2.symm, by rw [hrl]; exact hrow4, by
     rw [← h.als]
     apply List.ext_getElem?
     intro j
     simp only [List.getElem?_map, List.getElem?_modify]
     cases al[j]? with
     | none => rfl
     | some x => by_cases hj : i = j <;> simp [hj, pub, setVal]
    , fun x hx => by
     obtain ⟨j, hj⟩ := List.getElem?_of_mem hx
     simp only [List.getElem?_modify] at hj
     cases hy : al[j]? with
     | none => simp [hy] at hj
     | some y =>
      have h5 := (h3.sls y (List.mem_of_getElem? hy)).mod (hm4.mono fun b _ e => e ▸ hMg)
      simp only [hy, Option.map_some] at hj
      split at hj <;> (simp at hj; subst hj; exact h5)
    , h.ownM, fun b hb => Nat.lt_of_lt_of_le (h.ltM b hb) hm03.size⟩⟩ (fun b e => .inr e) (fun b e => e.elim id (hOM b)), hm03, fun b hb => .inl hb⟩
  ·have hi : findS (s.al.map (·.2.1)) ls = none := by
     cases hf : findS (s.al.map (·.2.1)) ls with
     | none => rfl
     | some i => rw [hf] at h28; simp [optI] at h28
   refine GG ?_
   refine QQ (Yld.fieldAddr fo190_0 rfl) ?_
   refine QQ (Yld.load p156 rfl (at1 (h3.blk.cell rfl))) ?_
   refine OP (Does.call rfl e100 (take_any _ q _ _ _ vo h3.pool hok.last0 hok.last1 (by have h1 := hok.alOut; omega))) ?_
   rintro _ w4 ⟨rfl, vo', hP4, hm4, hvo'⟩
   obtain ⟨hp1, hp2, hp3, hp4, hp5⟩ := apart4 h3.blk h3.pool h3.idx h3.row
   have hOp : O p := (hO p).2 (.inl rfl)
   have hOq : O q := (hO q).2 (.inr (.inl rfl))
   have hOh : O mh := (hO mh).2 (.inr (.inr (.inl rfl)))
   have hOr : O mr := (hO mr).2 (.inr (.inr (.inr (.inl rfl))))
   have hOx : O ix := (hO ix).2 (.inr (.inr (.inr (.inr (.inr (.inr rfl))))))
   have hOo : ∀ b, vo.ownBlock = some b → O b := fun b e => (hO b).2 (.inr (.inr (.inr (.inr (.inl e)))))
   have hOl : ∀ b, (Value.slice adl al.length cl).ownBlock = some b → O b := fun b e => (hO b).2 (.inr (.inr (.inr (.inr (.inr (.inl e))))))
   have hMp := hOM p hOp
   have hMq := hOM q hOq
   have hMh := hOM mh hOh
   have hMr := hOM mr hOr
   have hMo : ∀ b, vo.ownBlock = some b → M b := fun b e => hOM b (hOo b e)
   have hMl : ∀ b, (Value.slice adl al.length cl).ownBlock = some b → M b := fun b e => hOM b (hOl b e)
   have hoff : ∀ b, b < w3.heap.size → (M b ∨ vo'.ownBlock = some b) → M b := fun b hb e => by
     rcases e with e | e
     ·exact e
     ·rcases hvo' b e with h1 | h1
      ·exact hMo b h1
      ·omega
   have hsubO : ∀ b, (b = q ∨ vo.ownBlock = some b) → O b := fun b e => by rcases e with rfl | e; exact hOq; exact hOo b e
   have hsub : ∀ b, (b = q ∨ vo.ownBlock = some b) → M b := fun b e => hOM b (hsubO b e)
   have hB4 := h3.blk.mod hm4 (by rintro (e | e); exact hp1.1 e; exact (hp4 p e).1 rfl)
   have hI4 : IdxAt (fun b => M b ∨ vo'.ownBlock = some b) w4 ix mh mr s.has s.rows := (h3.idx.off hoff).mod hm4 (fun b _ e => .inl (hsub b e)) (by rintro (e | e); exact hp2.1 e.symm; exact (hp4 ix e).2.2.1 rfl) (by rintro (e | e); exact hp2.2.1 e.symm; exact (hp4 mh e).2.2.2.1 rfl) (by rintro (e | e); exact hp2.2.2 e.symm; exact (hp4 mr e).2.2.2.2.1 rfl)
   have hR4 := h3.row.mod hm4 (fun b e e' => by rcases e' with rfl | e'; exact (hp5 _ e).2.1 rfl; exact (hp4 b e').2.2.2.2.2 e)
   have hS4 : ∀ a ∈ al, SlL (fun b => M b ∨ vo'.ownBlock = some b) w4 a.v a.ls := fun a ha => ((h3.sls a ha).off (by omega) hoff).mod (hm4.mono fun b _ e => .inl (hsub b e))
   have hm04 : Mod O w w4 := (Mod.any' hg03).then hm4 (fun b _ e => hsubO b e)
   have hs03 := hg03.size
   have hs34 := hm4.size
   refine GG ?_
   refine CD (fun h54 => ?_) (fun h54 => ?_)
   ·have hfull : fullS s.most s.last s.out = true := by simpa using h54
    have e : postS s ls val = (s, 0, false, 10) := by unfold postS; rw [if_neg (by simp [his]), hi]; simp [hfull]
    rw [e]
    rw [hfull] at hP4
    have hown : ∀ b, own p q ix mh mr vo' (.slice adl al.length cl) b → O b ∨ vo'.ownBlock = some b := fun b hb => by
      rcases hb with rfl | rfl | rfl | rfl | e | e | rfl
      ·exact .inl hOp
      ·exact .inl hOq
      ·exact .inl hOh
      ·exact .inl hOr
      ·exact .inr e
      ·exact .inl (hOl b e)
      ·exact .inl hOx
    have hown2 : ∀ b, (M b ∨ own p q ix mh mr vo' (.slice adl al.length cl) b) → M b ∨ vo'.ownBlock = some b := fun b hb => hb.elim .inl fun e => (hown b e).imp (hOM b) id
    have hlt4 : ∀ b, (M b ∨ own p q ix mh mr vo' (.slice adl al.length cl) b) → b < w4.heap.size := fun b hb => by
      rcases hb with e | e
      ·have := hMlt b e; omega
      ·exact own_lt hB4 hP4 hI4 hR4 b e
    refine GG ?_
    refine RK.ret_of Tryz.func127 (res3 rfl rfl rfl rfl) ?_ _
    exact ⟨_, rfl, own p q ix mh mr vo' (.slice adl al.length cl), rfl, ⟨q, ix, mh, mr, vo', _, al, fun _ => Iff.rfl, ⟨hB4, hP4, hI4.off fun b _ hb => hown2 b hb, hR4, h.als, fun a ha => (hS4 a ha).off (by omega) fun b _ hb => hown2 b hb, fun _ e => .inr e, hlt4⟩⟩, hm04, fun b hb => by
      rcases hown b hb with e | e
      ·exact .inl e
      ·rcases hvo' b e with h1 | h1
       ·exact .inl (hOo b h1)
       ·exact .inr (by omega)
     ⟩
   ·have hfull : fullS s.most s.last s.out = false := by simpa using h54
    have e : postS s ls val = ({ most := s.most, last := s.last + 1, out := s.out ++ [s.last + 1], al := s.al ++ [(s.last + 1, ls, canS val)], has := putM s.has (s.last + 1) ls, rows := addRows s.rows (s.last + 1) ls }, s.last + 1, true, 0) := by unfold postS; rw [if_neg (by simp [his]), hi]; simp [hfull]
    rw [e, hfull]
    rw [hfull] at hP4
    have hl16 := isS_len his
    have hnew : lookM s.has (s.last + 1) = none := by
      unfold lookM
      rw [placeM_none.2 fun hm => by obtain ⟨t, ht, h1⟩ := List.mem_map.1 hm; have := hok.has t ht; omega]
      rfl
    have hbv : Blk w4 b4 33 [.slice ad ls.length c] := (hb42.mod hg3 (fun h => h)).mod hm4 (fun e => by have := hMlt b4 (hsub b4 e); have := hn4.at_; omega)
    have hb4M : ¬ M b4 := fun e => by have := hMlt b4 e; have := hn4.at_; omega
    obtain ⟨ha1, ha2, ha3, ha4, ha5⟩ := apart4 hB4 hP4 hI4 hR4
    have hv4 : SlL (fun b => M b ∨ vo'.ownBlock = some b) w4 (.slice ad ls.length c) ls := (hv.off (by omega) (fun b hb e => hoff b (by omega) e)).mod (hm04.mono fun b _ e => .inl (hOM b e))
    have hnp : ¬ (p = mh ∨ p = mr) := by rintro (e | e); exact hp1.2.2.1 e; exact hp1.2.2.2 e
    have hnb : ¬ (b4 = mh ∨ b4 = mr) := by rintro (e | e); exact hb4M (e ▸ hMh); exact hb4M (e ▸ hMr)
    refine GG ?_
    refine RK.drawM (fun b => b = mh ∨ b = mr) [(0, false), (1, false), (2, false), (3, false), (4, false), (5, false), (6, true)] [] mixed (by kernel_rfl) ?_
    refine GG ?_
    refine DF (Yld.fieldAddr fo190_1 rfl) ?_
    refine DQ (Yld.load p187 rfl (atM (hB4.cell rfl) (hnp))) (Mod.drew _ _) ?_
    refine DL.p rfl rfl rfl ?_
    refine DQ (Yld.load p33 rfl (atM (hbv.cell rfl) (hnb))) (Mod.drew _ _) ?_
    refine OD (Does.call rfl e177 (add_ok (fun b => M b ∨ vo'.ownBlock = some b) _ ix mh mr s.has s.rows (hI4.mod (Mod.drew No _) (fun _ _ h => h.elim) (fun h => h) (fun h => h) (fun h => h)) (.inl hMh) (.inl hMr) (fun b e => by rcases e with e | e; (have := hMlt b e; simp only [World.drew]; omega); exact hP4.row.lt e) (s.last + 1) ls _ (hv4.mod (Mod.drew _ _)) hnew his (fun t ht => by have h1 := hok.rows t ht; have h2 := hok.last1; omega))) ?_
    rintro _ w5 ⟨rfl, hI5, hm5⟩
    refine ⟨(Mod.drew _ _).trans hm5, ?_⟩
    have hm45 : Mod (fun b => b = mh ∨ b = mr) w4 w5 := (Mod.drew _ _).trans hm5
    have hs45 := hm45.size
    have hB5 := hB4.mod hm45 (by rintro (e | e); exact hp1.2.2.1 e; exact hp1.2.2.2 e)
    have hbv5 := hbv.mod hm45 (by rintro (e | e); exact hb4M (e ▸ hMh); exact hb4M (e ▸ hMr))
    have hR5 := hR4.mod hm45 (fun b e e' => by rcases e' with rfl | rfl; exact (ha5 _ e).2.2.2.1 rfl; exact (ha5 _ e).2.2.2.2 rfl)
    have hv5 := hv4.mod (hm45.mono fun b _ e => by rcases e with rfl | rfl; exact .inl hMh; exact .inl hMr)
    refine GG ?_
    refine RK.drawM (fun b => (Value.slice adl al.length cl).ownBlock = some b) [(0, false), (1, false), (2, false), (3, false), (4, false), (5, false), (6, false), (8, false), (7, true), (9, false), (10, true), (11, true), (12, false), (13, false), (14, true)] [14] mixed (by kernel_rfl) ?_
    refine GG ?_
    refine DF (Yld.fieldAddr fo190_2 rfl) ?_
    refine DQ (Yld.load p49 rfl (atM (hB5.cell rfl) (fun e => (hp5 p e).1 rfl))) (Mod.drew _ _) ?_
    refine DL.p rfl rfl rfl ?_
    refine DQ (Yld.load p33 rfl (atM (hbv5.cell rfl) (fun e => hb4M (hMl b4 e)))) (Mod.drew _ _) ?_
    refine DL.p rfl rfl rfl ?_
    refine OD (Does.call rfl e178 (cloneL_ok (fun b => M b ∨ vo'.ownBlock = some b) ls _ _ (hv5.mod (Mod.drew _ _)) (by omega))) ?_
    rintro u6 w6 ⟨hr6, hf6, hg6⟩
    refine ⟨(Mod.drew _ _).trans (Mod.any' hg6), ?_⟩
    obtain ⟨ad6, c6, rfl⟩ := hr6.slice
    have hs56 : w5.heap.size ≤ w6.heap.size := hg6.size
    refine DF (Yld.build (v := .agg #[.int .i64 (s.last + 1), .slice ad6 ls.length c6, .float .f64 (canS val)]) rfl (fun w => by kernel_rfl)) ?_
    refine OD (Does.slice1 u49 i35 rfl rfl rfl rfl rfl) ?_
    rintro _ w7 ⟨b7, rfl, hn7⟩
    refine ⟨((Mod.drew _ _).trans (Mod.any' hg6)).trans (Mod.any' hn7.grow), ?_⟩
    have hg57 : Grow w5 w7 := ((Mod.drew _ _).trans hg6).trans hn7.grow
    have hs67 := hn7.size
    refine OD (Does.append u49 i35 rfl rfl rfl rfl rfl (hR5.mod hg57 (fun _ _ h => h)) (Sl.new hn7 3 1 rfl (by omega) (fun h => h)) (rfl) (by omega)) ?_
    rintro u8 w8 ⟨hr8, hm8, hu8⟩
    refine ⟨(((Mod.drew _ _).trans (Mod.any' hg6)).trans (Mod.any' hn7.grow)).trans hm8, ?_⟩
    obtain ⟨ad8, c8, rfl⟩ := hr8.slice
    have hm58 : Mod (fun b => (Value.slice adl al.length cl).ownBlock = some b) w5 w8 := (Mod.any' hg57).trans hm8
    have hB8 := hB5.mod hm58 (fun e => (hp5 p e).1 rfl)
    refine DL.p rfl rfl rfl ?_
    refine DF (Yld.fieldAddr fo190_2 rfl) ?_
    refine DL.opT rfl (.free rfl) rfl rfl (Does.store i49 rfl rfl rfl hB8 (.s (.s .z))) ?_
    rintro _ w9 ⟨hb9, hm9, _⟩
    have hplt := hB4.lt
    have hu8' : ∀ b, (Value.slice ad8 (al.length + 1) c8).ownBlock = some b → (Value.slice adl al.length cl).ownBlock = some b ∨ b = w7.heap.size := fun b e => by
      rcases hu8 with h1 | h1
      ·rw [h1] at e; exact .inl e
      ·rw [h1] at e; cases e; exact .inr rfl
    have hm59 : Mod (fun b => (Value.slice adl al.length cl).ownBlock = some b ∨ b = p) w5 w9 := (hm58.mono fun b _ e => .inl e).trans (hm9.mono fun b _ e => .inr e)
    have hm69 : Mod (fun b => (Value.slice adl al.length cl).ownBlock = some b ∨ b = p) w6 w9 := ((Mod.any' hn7.grow).trans (hm8.mono fun b _ e => .inl e)).trans (hm9.mono fun b _ e => .inr e)
    have hm49 : Mod (fun b => b = mh ∨ b = mr ∨ (Value.slice adl al.length cl).ownBlock = some b ∨ b = p) w4 w9 := (hm45.mono fun b _ e => by rcases e with e | e; exact .inl e; exact .inr (.inl e)).trans (hm59.mono fun b _ e => by rcases e with e | e; exact .inr (.inr (.inl e)); exact .inr (.inr (.inr e)))
    have hO59 : ∀ b, ((Value.slice adl al.length cl).ownBlock = some b ∨ b = p) → O b := fun b e => by rcases e with e | rfl; exact hOl b e; exact hOp
    have hM59 : ∀ b, ((Value.slice adl al.length cl).ownBlock = some b ∨ b = p) → M b := fun b e => hOM b (hO59 b e)
    have hO49 : ∀ b, (b = mh ∨ b = mr ∨ (Value.slice adl al.length cl).ownBlock = some b ∨ b = p) → O b := fun b e => by rcases e with rfl | rfl | e; exact hOh; exact hOr; exact hO59 b e
    have hM49 : ∀ b, (b = mh ∨ b = mr ∨ (Value.slice adl al.length cl).ownBlock = some b ∨ b = p) → M b := fun b e => hOM b (hO49 b e)
    have hoff8 : ∀ b, b < w6.heap.size → ((M b ∨ vo'.ownBlock = some b) ∨ (Value.slice ad8 (al.length + 1) c8).ownBlock = some b) → (M b ∨ vo'.ownBlock = some b) := fun b hb e => by
      rcases e with e | e
      ·exact e
      ·rcases hu8' b e with h1 | h1
       ·exact .inl (hMl b h1)
       ·omega
    have hownO : ∀ b, own p q ix mh mr vo' (.slice ad8 (al.length + 1) c8) b → (O b ∨ vo'.ownBlock = some b) ∨ (Value.slice ad8 (al.length + 1) c8).ownBlock = some b := fun b hb => by
      rcases hb with rfl | rfl | rfl | rfl | e | e | rfl
      ·exact .inl (.inl hOp)
      ·exact .inl (.inl hOq)
      ·exact .inl (.inl hOh)
      ·exact .inl (.inl hOr)
      ·exact .inl (.inr e)
      ·exact .inr e
      ·exact .inl (.inl hOx)
    have hown : ∀ b, (M b ∨ own p q ix mh mr vo' (.slice ad8 (al.length + 1) c8) b) → (M b ∨ vo'.ownBlock = some b) ∨ (Value.slice ad8 (al.length + 1) c8).ownBlock = some b := fun b hb => hb.elim (fun e => .inl (.inl e)) fun e => (hownO b e).imp (Or.imp (hOM b) id) id
    have hP9 := hP4.mod hm49 (by rintro (e | e | e | e); exact ha2.2.1 e; exact ha2.2.2 e; exact (ha5 q e).2.1 rfl; exact ha1.1 e.symm) (fun b e e' => by obtain ⟨k1, k2, k3, k4, k5, k6⟩ := ha4 b e; rcases e' with e' | e' | e' | e'; exact k4 e'; exact k5 e'; exact k6 e'; exact k1 e')
    have hI9 : IdxAt (fun b => M b ∨ own p q ix mh mr vo' (.slice ad8 (al.length + 1) c8) b) w9 ix mh mr (putM s.has (s.last + 1) ls) (addRows s.rows (s.last + 1) ls) := ((hI5.off fun b hb e => hoff8 b (by omega) e).mod hm59 (fun b _ e => .inl (.inl (hM59 b e))) (by rintro (e | e); exact (ha5 ix e).2.2.1 rfl; exact ha1.2.1 e.symm) (by rintro (e | e); exact (ha5 mh e).2.2.2.1 rfl; exact ha1.2.2.1 e.symm) (by rintro (e | e); exact (ha5 mr e).2.2.2.2 rfl; exact ha1.2.2.2 e.symm)).off fun b _ hb => hown b hb
    have hr9 := hr8.mod hm9 (fun b e e' => by have e'' : b = p := e'; rcases hu8' b e with h1 | h1; exact (hp5 b h1).1 e''; omega)
    have hs9 : ∀ a ∈ al, SlL (fun b => M b ∨ own p q ix mh mr vo' (.slice ad8 (al.length + 1) c8) b) w9 a.v a.ls := fun a ha => (((hS4 a ha).off (by omega) fun b hb e => hoff8 b (by omega) e).mod (hm49.mono fun b _ e => .inl (.inl (hM49 b e)))).off (by omega) fun b _ hb => hown b hb
    have hs9' : SlL (fun b => M b ∨ own p q ix mh mr vo' (.slice ad8 (al.length + 1) c8) b) w9 (.slice ad6 ls.length c6) ls := ((Sl.own (M := fun b => (M b ∨ vo'.ownBlock = some b) ∨ (Value.slice ad8 (al.length + 1) c8).ownBlock = some b) hr6 (fun b e e' => by
      have h1 : w5.heap.size ≤ b := hf6 b e
      have h2 := hr6.lt e
      rcases hoff8 b h2 e' with h3 | h3
      ·have := hMlt b h3; omega
      ·have := hP4.row.lt h3; omega)).mod (hm69.mono fun b _ e => .inl (.inl (hM59 b e)))).off (by omega) fun b _ hb => hown b hb
    have hr9' : Row w9 35 3 (.slice ad8 (al.length + 1) c8) (al ++ [⟨s.last + 1, ls, canS val, .slice ad6 ls.length c6⟩] : List Al).length ((al ++ [⟨s.last + 1, ls, canS val, .slice ad6 ls.length c6⟩] : List Al).flatMap alC) := by rw [List.length_append, List.flatMap_append]; exact hr9
    have hlt9 : ∀ b, (M b ∨ own p q ix mh mr vo' (.slice ad8 (al.length + 1) c8) b) → b < w9.heap.size := fun b hb => by
      rcases hb with e | e
      ·have h1 := hMlt b e; have h2 := hm49.size; omega
      ·exact own_lt hb9 hP9 hI9 hr9' b e
    refine GG ?_
    refine RK.ret_of Tryz.func127 (res3 rfl rfl rfl rfl) ?_ _
    exact ⟨_, rfl, own p q ix mh mr vo' (.slice ad8 (al.length + 1) c8), rfl, ⟨q, ix, mh, mr, vo', _, al ++ [⟨s.last + 1, ls, canS val, .slice ad6 ls.length c6⟩], fun _ => Iff.rfl, ⟨hb9, hP9, hI9, hr9', by simp [h.als, pub], fun a ha => by
      simp only [List.mem_append, List.mem_singleton] at ha
      rcases ha with ha | rfl
      ·exact hs9 a ha
      ·exact hs9'
     , fun _ e => .inr e, hlt9⟩⟩, hm04.trans (hm49.mono fun b _ e => hO49 b e), fun b hb => by
      rcases hownO b hb with (e | e) | e
      ·exact .inl e
      ·rcases hvo' b e with h1 | h1
       ·exact .inl (hOo b h1)
       ·exact .inr (by omega)
      ·rcases hu8' b e with h1 | h1
       ·exact .inl (hOl b h1)
       ·exact .inr (by omega)
     ⟩
theorem post_ok (w : World) (p : Nat) (s : St) (M : Nat → Prop) (h : StoreAt w p s M) (hok : Ok s) (ls : List Lab) (v : Value) (hv : SlL M w v ls) (val : Nat) :
  Fx Tryz.prog 127 [pp p, v, .float .f64 val] w (fun u w' => ∃ M', u = .tuple #[.int .i64 (postS s ls val).2.1, .bool (postS s ls val).2.2.1, .int .i64 (postS s ls val).2.2.2] ∧ StoreAt w' p (postS s ls val).1 M' ∧ Mod M w w' ∧ ∀ b, M' b → M b ∨ w.heap.size ≤ b) :=
 Fx.mono (postX_ok w p s M M h hok ls v hv val) fun u w' ⟨M', h1, h2, h3, h4⟩ => ⟨M', h1, h2.at_, h3, h4⟩
end Go.Proofs.YthbjfhhiajihfaaGreat
set_option linter.unusedVariables false
set_option linter.unusedSimpArgs false
set_option maxHeartbeats 400000
set_option maxRecDepth 100000
namespace Go.Proofs.YthbjfhhiajihfaaGreat
open Go Go.X
def At (w0 w : World) (p : Nat) (s : St) : Prop := ∃ M, StoreAt w p s M ∧ (∀ b, M b → w0.heap.size ≤ b) ∧ Grow w0 w ∧ Ok s
theorem At.grow {w0 w w' : World} {p : Nat} {s : St} (h : At w0 w p s) (hg : Grow w w') : At w0 w' p s := by
 obtain ⟨M, h1, h2, h3, h4⟩ := h
 exact ⟨M, h1.grow hg, h2, h3.trans hg, h4⟩
theorem At.all {w0 w : World} {p : Nat} {s : St} (h : At w0 w p s) : Grow w0 w := by
 obtain ⟨M, h1, h2, h3, h4⟩ := h
 exact h3
theorem new_at (m : Int) (w : World) : Fx Tryz.prog 68 [.int .i64 m] w (fun u w' => ∃ p, u = pp p ∧ At w w' p (St.new m)) :=
 Fx.mono (alertNew_ok m w) fun u w' ⟨p, M, h1, h2, h3, h4⟩ => ⟨p, h1, M, h2, h3, h4, Ok.new m⟩
theorem post_at {w0 w : World} {p : Nat} {s : St} {M : Nat → Prop} (h : StoreAt w p s M) (hM : ∀ b, M b → w0.heap.size ≤ b) (hg : Grow w0 w) (hok : Ok s) {ls : List Lab} {v : Value} (hv : SlL M w v ls) {val : Nat} (hval : val < 18446744073709551616) {s' : St} {id code : Int} {fr : Bool} (he : postS s ls val = (s', id, fr, code)) :
  Fx Tryz.prog 127 [pp p, v, .float .f64 val] w (fun u w' => u = .tuple #[.int .i64 id, .bool fr, .int .i64 code] ∧ At w0 w' p s') := by
 refine Fx.mono (post_ok w p s M h hok ls v hv val) ?_
 rintro u w' ⟨M', h1, h2, h3, h4⟩
 have hok' := hok.post ls hval
 rw [he] at h1 h2 hok'
 have := hg.size
 exact ⟨h1, M', h2, fun b hb => (h4 b hb).elim (hM b) (fun h => by omega), hg.then h3 (fun b hb e => by have := hM b e; omega), hok'⟩
theorem At.postN {w0 w1 w2 : World} {p : Nat} {s : St} (h : At w0 w1 p s) {b : Nat} {t : TypeId} {cs : List Value} (hn : New w1 w2 b t cs) {ls : List Lab} {k : Nat} (hk : ls.length = k) (hcs : ls.flatMap labC = cs) (hbig : k ≤ 1000) {val : Nat} (hval : val < 18446744073709551616) {s' : St} {id code : Int} {fr : Bool} (he : postS s ls val = (s', id, fr, code)) :
  Fx Tryz.prog 127 [pp p, .slice (some ⟨b, 0, none⟩) k k, .float .f64 val] w2 (fun u w' => u = .tuple #[.int .i64 id, .bool fr, .int .i64 code] ∧ At w0 w' p s') := by
 obtain ⟨M, h1, h2, h3, h4⟩ := h
 subst hcs
 subst hk
 exact post_at (h1.grow hn.grow) h2 (h3.trans hn.grow) h4 (Sl.new hn 2 ls.length (flat_len labC 2 labC_len ls) (by omega) (fun e => by have := h1.lt e; have := hn.at_; omega)) hval he
theorem At.rank {w0 w : World} {p : Nat} {s : St} (h : At w0 w p s) : Fx Tryz.prog 129 [pp p] w (fun u w' => Row w' 3 1 u s.al.length (ints (rankIds s)) ∧ Fresh w.heap.size u ∧ Grow w w') := by
 obtain ⟨M, h1, h2, h3, h4⟩ := h
 exact alertRank_ok w p s M h1 h4.vals (by have h5 := h4.most; have h6 := h4.outLe; have h7 := h4.alOut; omega)
theorem At.len {w0 w : World} {p : Nat} {s : St} (h : At w0 w p s) : Fx Tryz.prog 130 [pp p] w (fun u w' => u = .int .i64 s.al.length ∧ w = w') := by
 obtain ⟨M, h1, h2, h3, h4⟩ := h
 exact alertLen_ok w p s M h1
theorem At.posts {w0 w : World} {p : Nat} {s : St} (h : At w0 w p s) : Fx Tryz.prog 131 [pp p] w (fun u w' => u = .int .i64 s.rows.length ∧ w = w') := by
 obtain ⟨M, h1, h2, h3, h4⟩ := h
 exact alertPosts_ok w p s M h1
def lsA (c : UInt8) : List Lab := [⟨⟨#[97]⟩, ⟨#[c]⟩⟩]
def sR1 : St := (postS (St.new 5) (lsA 120) 9223372036854775808).1
def sR2 : St := (postS sR1 (lsA 121) 9221120237041090561).1
def sR3 : St := (postS sR2 (lsA 122) 0).1
def sR4 : St := (postS sR3 (lsA 121) 9221120237041090561).1
theorem eR1 : postS (St.new 5) (lsA 120) 9223372036854775808 = (sR1, 1, true, 0) := by kernel_rfl
theorem eR2 : postS sR1 (lsA 121) 9221120237041090561 = (sR2, 2, true, 0) := by kernel_rfl
theorem eR3 : postS sR2 (lsA 122) 0 = (sR3, 3, true, 0) := by kernel_rfl
theorem eR4 : postS sR3 (lsA 121) 9221120237041090561 = (sR4, 2, false, 0) := by kernel_rfl
theorem rR4 : rankIds sR4 = [3, 1, 2] := by kernel_rfl
theorem lR4 : sR4.al.length = 3 := by kernel_rfl
theorem pR4 : sR4.rows.length = 3 := by kernel_rfl
theorem runs_ok (w : World) : Fx Tryz.prog 67 [] w (fun u w' => u = .bool true ∧ Grow w w') := by
 refine enter Tryz.func67 rfl rfl rfl _ (Pick.sub (l := []) .nil) ?_
 refine GG ?_
 refine OP (Does.call rfl e68 (new_at _ _)) ?_
 rintro _ w1 ⟨p, rfl, h1⟩
 refine GG ?_
 refine QQ (Yld.eqPtr Tryz.underlying118 rfl rfl) ?_
 refine RL.done ?_
 refine RK.condF rfl ?_
 refine GG ?_
 refine QQ (Yld.build (v := .agg #[.string ⟨#[97]⟩, .string ⟨#[120]⟩]) rfl (fun w => by kernel_rfl)) ?_
 refine OP (Does.slice1 u33 i79 rfl rfl rfl rfl rfl) ?_
 rintro _ w2 ⟨b1, rfl, hn1⟩
 refine OP (Does.call rfl e128 (copysign0_ok _)) ?_
 rintro _ _ ⟨rfl, rfl⟩
 refine OP (Does.call rfl e127 (h1.postN hn1 (ls := lsA 120) rfl rfl (by decide) (by omega) eR1)) ?_
 rintro _ w3 ⟨rfl, h3⟩
 refine GG ?_
 refine QQ (Yld.build (v := .agg #[.string ⟨#[97]⟩, .string ⟨#[121]⟩]) rfl (fun w => by kernel_rfl)) ?_
 refine OP (Does.slice1 u33 i79 rfl rfl rfl rfl rfl) ?_
 rintro _ w4 ⟨b2, rfl, hn2⟩
 refine OP (Does.call rfl e38 (nan_ok _)) ?_
 rintro _ _ ⟨rfl, rfl⟩
 refine OP (Does.call rfl e127 (h3.postN hn2 (ls := lsA 121) rfl rfl (by decide) (by omega) eR2)) ?_
 rintro _ w5 ⟨rfl, h5⟩
 refine GG ?_
 refine QQ (Yld.build (v := .agg #[.string ⟨#[97]⟩, .string ⟨#[122]⟩]) rfl (fun w => by kernel_rfl)) ?_
 refine OP (Does.slice1 u33 i79 rfl rfl rfl rfl rfl) ?_
 rintro _ w6 ⟨b3, rfl, hn3⟩
 refine OP (Does.call rfl e127 (h5.postN hn3 (ls := lsA 122) rfl rfl (by decide) (by omega) eR3)) ?_
 rintro _ w7 ⟨rfl, h7⟩
 refine GG ?_
 refine QQ (Yld.build (v := .agg #[.string ⟨#[97]⟩, .string ⟨#[121]⟩]) rfl (fun w => by kernel_rfl)) ?_
 refine OP (Does.slice1 u33 i79 rfl rfl rfl rfl rfl) ?_
 rintro _ w8 ⟨b4, rfl, hn4⟩
 refine OP (Does.call rfl e38 (nan_ok _)) ?_
 rintro _ _ ⟨rfl, rfl⟩
 refine OP (Does.call rfl e127 (h7.postN hn4 (ls := lsA 121) rfl rfl (by decide) (by omega) eR4)) ?_
 rintro _ w9 ⟨rfl, h9⟩
 refine GG ?_
 refine RL.knownT (d := 54) rfl rfl (rfl) ?_
 refine QQ (Yld.pure rfl) ?_
 refine GG ?_
 refine RL.knownT (d := 57) rfl rfl (rfl) ?_
 iterate 2 refine QQ (Yld.pure rfl) ?_
 refine GG ?_
 refine RL.knownT (d := 61) rfl rfl (rfl) ?_
 iterate 2 refine QQ (Yld.pure rfl) ?_
 refine GG ?_
 refine RL.knownT (d := 65) rfl rfl (rfl) ?_
 iterate 2 refine QQ (Yld.pure rfl) ?_
 refine GG ?_
 refine RL.knownT (d := 69) rfl rfl (rfl) ?_
 iterate 2 refine QQ (Yld.pure rfl) ?_
 refine GG ?_
 refine RL.knownT (d := 73) rfl rfl (rfl) ?_
 iterate 2 refine QQ (Yld.pure rfl) ?_
 refine GG ?_
 refine RL.knownT (d := 77) rfl rfl (rfl) ?_
 refine QQ (Yld.pure rfl) ?_
 refine OP (Does.call rfl e129 (h9.rank)) ?_
 rintro u10 w10 ⟨hr10, _, hg10⟩
 refine OP (Does.bslice (el := 3) ([.int .i64 3, .int .i64 1, .int .i64 2]) rfl (fun w => by kernel_rfl)) ?_
 rintro _ w11 ⟨b5, rfl, hn5⟩
 refine OP (Does.call rfl e23 (sameInts_ok No (rankIds sR4) [3, 1, 2] u10 _ _ (by have := Sl.own (M := No) (hr10.mod hn5.grow (fun _ _ h => h)) (fun _ _ h => h); rw [show (rankIds sR4).length = sR4.al.length from rankIds_len _]; exact this) (Sl.new hn5 1 3 rfl (by omega) (fun h => h)))) ?_
 rintro _ w12 ⟨rfl, hg12⟩
 have h12 := ((h9.grow hg10).grow hn5.grow).grow hg12
 refine GG ?_
 refine RL.knownT (d := 83) rfl rfl (decide_eq_true rR4) ?_
 refine QQ (Yld.pure rfl) ?_
 refine OP (Does.call rfl e130 (h12.len)) ?_
 rintro _ _ ⟨rfl, rfl⟩
 refine QQ (Yld.pure rfl) ?_
 refine GG ?_
 refine RL.knownT (d := 88) rfl rfl (by rw [lR4]; rfl) ?_
 refine QQ (Yld.pure rfl) ?_
 refine OP (Does.call rfl e131 (h12.posts)) ?_
 rintro _ _ ⟨rfl, rfl⟩
 refine QQ (Yld.pure rfl) ?_
 refine GG ?_
 refine RK.ret_of Tryz.func67 (res1 rfl rfl) ?_ _
 exact ⟨_, rfl, by rw [pR4]; rfl, h12.all⟩
end Go.Proofs.YthbjfhhiajihfaaGreat
