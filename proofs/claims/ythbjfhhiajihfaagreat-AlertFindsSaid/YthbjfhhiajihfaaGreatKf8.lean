/- What the claim stands on, part 8. Of own lemmas only those that it reaches. -/
import Derived.Test.YthbjfhhiajihfaaGreatKf7
set_option linter.unusedVariables false
set_option linter.unusedSimpArgs false
set_option maxHeartbeats 800000
set_option maxRecDepth 100000
namespace Go.Proofs.YthbjfhhiajihfaaGreat
open Go Go.X
def withinS (n lo hi : Int) : Int := lo + (if n.tmod (hi - lo + 1) < 0 then n.tmod (hi - lo + 1) + hi - lo + 1 else n.tmod (hi - lo + 1))
theorem tmod_range (n : Int) {b : Int} (hb : 0 < b) : -b < n.tmod b ∧ n.tmod b < b := ⟨Int.lt_tmod_of_pos n hb, Int.tmod_lt_of_pos n hb⟩
theorem within_range (n : Int) {lo hi : Int} (h : lo ≤ hi) : lo ≤ withinS n lo hi ∧ withinS n lo hi ≤ hi := by
 have := tmod_range n (b := hi - lo + 1) (by omega)
 unfold withinS
 split <;> omega
theorem within_ok (n lo hi : Int) (h : lo ≤ hi) (h1 : -1000 ≤ lo) (h2 : hi ≤ 1000) (w : World) : Fx Tryz.prog 83 [.int .i64 n, .int .i64 lo, .int .i64 hi] w (fun u w' => u = .int .i64 (withinS n lo hi) ∧ w = w') := by
 have hr := tmod_range n (b := hi - lo + 1) (by omega)
 have hw := within_range n h
 refine enter Tryz.func83 rfl rfl rfl _ (Pick.sub (l := [0, 1, 2]) (.cons rfl (.cons rfl (.cons rfl .nil)))) ?_
 refine RK.seq ?_
 refine RK.region ?_
 refine RL.p rfl rfl ?_
 refine RL.done ?_
 refine RK.seq ?_
 refine RK.region ?_
 iterate 4 refine RL.p rfl rfl ?_
 refine RL.re (d := 10) rfl rfl (sub_i64 (z := hi - lo) rfl (by omega) (by omega)) ?_
 refine RL.p rfl rfl ?_
 refine RL.re (d := 11) rfl rfl (add_i64 (z := hi - lo + 1) rfl (by omega) (by omega)) ?_
 refine QQ (Yld.rem rfl rfl (by omega)) ?_
 refine GG ?_
 refine CD (fun h14 => ?_) (fun h14 => ?_)
 ·refine RK.region ?_
  iterate 3 refine RL.p rfl rfl ?_
  refine RL.re (d := 17) rfl rfl (add_i64 (z := n.tmod (hi - lo + 1) + hi) rfl (by omega) (by omega)) ?_
  iterate 2 refine RL.p rfl rfl ?_
  refine RL.re (d := 19) rfl rfl (sub_i64 (z := n.tmod (hi - lo + 1) + hi - lo) rfl (by omega) (by omega)) ?_
  refine RL.p rfl rfl ?_
  refine RL.re (d := 20) rfl rfl (add_i64 (z := n.tmod (hi - lo + 1) + hi - lo + 1) rfl (by omega) (by omega)) ?_
  refine RL.p rfl rfl ?_
  refine RL.done ?_
  refine RK.seq ?_
  refine RK.region ?_
  iterate 3 refine RL.p rfl rfl ?_
  refine RL.re (d := 23) rfl rfl (add_i64 rfl (by omega) (by omega)) ?_
  refine GG ?_
  refine RK.ret_of Tryz.func83 (res1 rfl rfl) ?_ _
  exact ⟨_, rfl, by unfold withinS; rw [if_pos h14], rfl⟩
 ·refine RK.skip ?_
  refine RK.seq ?_
  refine RK.region ?_
  iterate 3 refine RL.p rfl rfl ?_
  refine RL.re (d := 23) rfl rfl (add_i64 rfl (by omega) (by omega)) ?_
  refine GG ?_
  refine RK.ret_of Tryz.func83 (res1 rfl rfl) ?_ _
  exact ⟨_, rfl, by unfold withinS; rw [if_neg h14], rfl⟩
def inS (n lo hi : Int) : Int := if lo ≤ n ∧ n ≤ hi then n else withinS n lo hi
theorem in_range (n : Int) {lo hi : Int} (h : lo ≤ hi) : lo ≤ inS n lo hi ∧ inS n lo hi ≤ hi := by
 unfold inS
 split
 ·assumption
 ·exact within_range n h
theorem in_ok (n lo hi : Int) (h : lo ≤ hi) (h1 : -1000 ≤ lo) (h2 : hi ≤ 1000) (w : World) : Fx Tryz.prog 147 [.int .i64 n, .int .i64 lo, .int .i64 hi] w (fun u w' => u = .int .i64 (inS n lo hi) ∧ w = w') := by
 refine enter Tryz.func147 rfl rfl rfl _ (Pick.sub (l := [0, 1, 2]) (.cons rfl (.cons rfl (.cons rfl .nil)))) ?_
 refine GG ?_
 refine SP 10 (fun h10 => ?_) (fun h10 => ?_)
 ·iterate 3 refine QQ (Yld.pure rfl) ?_
  refine GG ?_
  refine CD (fun h14 => ?_) (fun h14 => ?_)
  ·refine GG ?_
   refine RK.ret_of Tryz.func147 (res1 rfl rfl) ?_ _
   exact ⟨_, rfl, by unfold inS; first | rw [if_pos (by omega)] | rw [if_neg (by omega)], rfl⟩
  ·refine GG ?_
   refine OP (Does.call rfl e83 (within_ok n lo hi h h1 h2 _)) ?_
   rintro _ _ ⟨rfl, rfl⟩
   refine GG ?_
   refine RK.ret_of Tryz.func147 (res1 rfl rfl) ?_ _
   exact ⟨_, rfl, by unfold inS; first | rw [if_pos (by omega)] | rw [if_neg (by omega)], rfl⟩
 ·iterate 3 refine RL.no (.no rfl rfl rfl rfl) rfl rfl ?_
  refine GG ?_
  refine RK.condF rfl ?_
  refine GG ?_
  refine OP (Does.call rfl e83 (within_ok n lo hi h h1 h2 _)) ?_
  rintro _ _ ⟨rfl, rfl⟩
  refine GG ?_
  refine RK.ret_of Tryz.func147 (res1 rfl rfl) ?_ _
  exact ⟨_, rfl, by unfold inS; first | rw [if_pos (by omega)] | rw [if_neg (by omega)], rfl⟩
def nmL : List ByteArray := [⟨#[115, 101, 118]⟩, ⟨#[106, 111, 98]⟩, ⟨#[104, 111, 115, 116]⟩, ⟨#[95, 120]⟩, ⟨#[90, 111, 110, 101, 57]⟩]
def vlL : List ByteArray := [⟨#[97]⟩, ⟨#[98]⟩, ⟨#[99, 114, 105, 116]⟩, ⟨#[119, 97, 114, 110]⟩, ⟨#[97, 98]⟩, ⟨#[0, 255]⟩, ⟨#[97, 98, 97, 98, 97, 98, 97, 98, 97, 98, 97, 98, 97, 98, 97, 98, 97, 98, 97, 98, 97, 98, 97, 98]⟩]
def nmS (n : Int) : ByteArray := nmL.getD (inS n 0 4).toNat ByteArray.empty
def vlS (n : Int) : ByteArray := vlL.getD (inS n 0 6).toNat ByteArray.empty
theorem nm_get : ∀ q, q < 5 → (nmL.map Value.string).toArray[q]? = some (.string (nmL.getD q ByteArray.empty)) := by
 intro q hq
 rcases q with _ | _ | _ | _ | _ | q <;> first | rfl | omega
theorem vl_get : ∀ q, q < 7 → (vlL.map Value.string).toArray[q]? = some (.string (vlL.getD q ByteArray.empty)) := by
 intro q hq
 rcases q with _ | _ | _ | _ | _ | _ | _ | q <;> first | rfl | omega
theorem nm_mem (n : Int) : nmS n ∈ nmL := by
 have := in_range n (lo := 0) (hi := 4) (by omega)
 unfold nmS
 have h : (inS n 0 4).toNat < nmL.length := by show _ < 5; omega
 rw [List.getD_eq_getElem?_getD, List.getElem?_eq_getElem h]
 exact List.getElem_mem _
theorem vl_mem (n : Int) : vlS n ∈ vlL := by
 have := in_range n (lo := 0) (hi := 6) (by omega)
 unfold vlS
 have h : (inS n 0 6).toNat < vlL.length := by show _ < 7; omega
 rw [List.getD_eq_getElem?_getD, List.getElem?_eq_getElem h]
 exact List.getElem_mem _
theorem nmK_ok (n : Int) (w : World) : Fx Tryz.prog 80 [.int .i64 n] w (fun u w' => u = .string (nmS n) ∧ w = w') := by
 have hr := in_range n (lo := 0) (hi := 4) (by omega)
 refine enter Tryz.func80 rfl rfl rfl _ (Pick.sub (l := [0]) (.cons rfl .nil)) ?_
 refine GG ?_
 refine QQ (Yld.build (v := .agg (nmL.map Value.string).toArray) rfl (fun w => by kernel_rfl)) ?_
 refine RL.p rfl rfl ?_
 refine OP (Does.call rfl e147 (in_ok n 0 4 (by omega) (by omega) (by omega) _)) ?_
 rintro _ _ ⟨rfl, rfl⟩
 have hq : inS n 0 4 = (((inS n 0 4).toNat : Nat) : Int) := by omega
 rw [hq]
 refine QQ (Yld.idxArr Tryz.underlying139 i9 p9 rfl rfl (by omega) (nm_get _ (by omega))) ?_
 refine GG ?_
 refine RK.ret_of Tryz.func80 (res1 rfl rfl) ?_ _
 exact ⟨_, rfl, rfl, rfl⟩
theorem vlK_ok (n : Int) (w : World) : Fx Tryz.prog 84 [.int .i64 n] w (fun u w' => u = .string (vlS n) ∧ w = w') := by
 have hr := in_range n (lo := 0) (hi := 6) (by omega)
 refine enter Tryz.func84 rfl rfl rfl _ (Pick.sub (l := [0]) (.cons rfl .nil)) ?_
 refine GG ?_
 refine QQ (Yld.build (v := .agg (vlL.map Value.string).toArray) rfl (fun w => by kernel_rfl)) ?_
 refine RL.p rfl rfl ?_
 refine OP (Does.call rfl e147 (in_ok n 0 6 (by omega) (by omega) (by omega) _)) ?_
 rintro _ _ ⟨rfl, rfl⟩
 have hq : inS n 0 6 = (((inS n 0 6).toNat : Nat) : Int) := by omega
 rw [hq]
 refine QQ (Yld.idxArr Tryz.underlying200 i9 p9 rfl rfl (by omega) (vl_get _ (by omega))) ?_
 refine GG ?_
 refine RK.ret_of Tryz.func84 (res1 rfl rfl) ?_ _
 exact ⟨_, rfl, rfl, rfl⟩
end Go.Proofs.YthbjfhhiajihfaaGreat
set_option linter.unusedVariables false
set_option linter.unusedSimpArgs false
set_option maxHeartbeats 800000
set_option maxRecDepth 100000
namespace Go.Proofs.YthbjfhhiajihfaaGreat
open Go Go.X
def getL (ls : List Lab) (nm : ByteArray) : ByteArray := ((ls.find? fun x => decide (x.name = nm)).map (·.value)).getD ByteArray.empty
theorem getL_at {ls : List Lab} {nm : ByteArray} {k : Nat} {x : Lab} (hx : ls[k]? = some x) (h : x.name = nm) (hno : ∀ i y, i < k → ls[i]? = some y → y.name ≠ nm) : getL ls nm = x.value := by
 unfold getL
 have : ls.find? (fun x => decide (x.name = nm)) = some x := by
  rw [List.find?_eq_some_iff_getElem]
  obtain ⟨hk, e⟩ := List.getElem?_eq_some_iff.1 hx
  exact ⟨by simp [h], k, hk, e, fun j hj => by simpa using hno j _ hj (List.getElem?_eq_getElem (by omega))⟩
 rw [this]; rfl
theorem getL_none {ls : List Lab} {nm : ByteArray} (hno : ∀ y ∈ ls, y.name ≠ nm) : getL ls nm = ByteArray.empty := by
 unfold getL
 rw [List.find?_eq_none.2 fun y hy => by simpa using hno y hy]
 rfl
theorem getLabel_ok (M : Nat → Prop) (ls : List Lab) (v : Value) (nm : ByteArray) (w : World) (hv : SlL M w v ls) : Fx Tryz.prog 85 [v, .string nm] w (fun u w' => u = .string (getL ls nm) ∧ w = w') := by
 obtain ⟨ad, c, rfl⟩ := hv.shape
 have hbig := hv.big
 refine enter Tryz.func85 rfl rfl rfl _ (Pick.sub (l := [0, 1]) (.cons rfl (.cons rfl .nil))) ?_
 refine GG ?_
 refine RK.loop (fun k : Nat => [(0, .slice ad ls.length c), (1, .string nm), (5, .int .i64 k)]) (fun k w' => w = w' ∧ k ≤ ls.length ∧ ∀ i y, i < k → ls[i]? = some y → y.name ≠ nm) (fun k => ls.length - k) 0 ⟨rfl, rfl, rfl, trivial⟩ ⟨rfl, by omega, fun i y h => by omega⟩ (fun k w' hI ih => ?_)
 obtain ⟨rfl, hk, hno⟩ := hI
 refine GG ?_
 refine QQ (Yld.lenSl u33 rfl) ?_
 refine GG ?_
 refine CD (fun h9 => ?_) (fun h9 => ?_)
 ·obtain ⟨x, hx⟩ : ∃ x, ls[k]? = some x := ⟨ls[k]'(by omega), List.getElem?_eq_getElem (by omega)⟩
  obtain ⟨b, o, c', he, _, _, hcell⟩ := hv.elem labC_len hx
  cases he
  refine GG ?_
  refine QQ (Yld.indexAddrN u33 i79 rfl rfl (by omega)) ?_
  refine QQ (Yld.fieldAddr fo79_0 rfl) ?_
  refine QQ (Yld.load p9 rfl (at1 (hcell 0 _ rfl))) ?_
  refine GG ?_
  refine CD (fun h18 => ?_) (fun h18 => ?_)
  ·refine GG ?_
   refine QQ (Yld.indexAddrN u33 i79 rfl rfl (by omega)) ?_
   refine QQ (Yld.fieldAddr fo79_1 rfl) ?_
   refine QQ (Yld.load p9 rfl (at1 (hcell 1 _ rfl))) ?_
   refine GG ?_
   refine RK.ret_of Tryz.func85 (res1 rfl rfl) ?_ _
   exact ⟨_, rfl, congrArg _ (getL_at hx h18 hno).symm, rfl⟩
  ·refine RK.skip ?_
   refine RK.inBlock ?_
   refine RK.region ?_
   iterate 2 refine RL.p rfl rfl ?_
   refine RL.re (d := 11) rfl rfl (succ_i64 (by omega)) ?_
   refine GG ?_
   exact RK.back (ih (k + 1) _ ⟨rfl, by omega, fun i y hi hy => by by_cases e : i = k; (subst e; rw [hx] at hy; cases hy; exact h18); exact hno i y (by omega) hy⟩ (by omega)) ⟨rfl, rfl, rfl, trivial⟩
 ·refine RK.exit rfl ?_
  refine GG ?_
  refine RK.ret_of Tryz.func85 (res1 rfl rfl) ?_ _
  exact ⟨_, rfl, congrArg _ (getL_none fun y hy => by
    obtain ⟨i, hi⟩ := List.getElem?_of_mem hy
    exact hno i y (by have := (List.getElem?_eq_some_iff.1 hi).1; omega) hi).symm, rfl⟩
def byName (x y : Lab) : Bool := slt x.name y.name
def sortS (ls : List Lab) : List Lab := isort byName ls
theorem mem_insE {α : Type} {lt : α → α → Bool} {L : List α} {x y : α} : y ∈ insE lt L x ↔ y ∈ L ∨ y = x := by
 unfold insE
 have : y ∈ L ↔ y ∈ L.take (pos lt x L) ∨ y ∈ L.drop (pos lt x L) := by rw [← List.mem_append, List.take_append_drop]
 rw [this, List.mem_append, List.mem_cons]
 constructor
 ·rintro (h | h | h) <;> simp [h]
 ·rintro ((h | h) | h) <;> simp [h]
theorem mem_isort {α : Type} {lt : α → α → Bool} {xs : List α} {y : α} : y ∈ isort lt xs ↔ y ∈ xs := by
 have key : ∀ (xs L : List α), y ∈ xs.foldl (insE lt) L ↔ y ∈ L ∨ y ∈ xs := by
  intro xs
  induction xs with
  | nil => intro L; simp
  | cons x xs ih =>
   intro L
   rw [List.foldl_cons, ih, mem_insE, List.mem_cons]
   constructor
   ·rintro ((h | h) | h) <;> simp [h]
   ·rintro (h | h | h) <;> simp [h]
 rw [show isort lt xs = xs.foldl (insE lt) [] from rfl, key]
 simp
theorem pos_splitG {α : Type} {lt : α → α → Bool} {x : α} {L : List α} {j : Nat} (hj : j ≤ L.length) (hD : ∀ y ∈ L.drop j, lt x y = true) (hA : ∀ y, 0 < j → L[j - 1]? = some y → lt x y = false) : pos lt x L = j := by
 have h1 : L.reverse.takeWhile (lt x) = (L.drop j).reverse := by
  have e : L.reverse = (L.drop j).reverse ++ (L.take j).reverse := by rw [← List.reverse_append, List.take_append_drop]
  rw [e, List.takeWhile_append_of_pos (by intro y hy; exact hD y (by simpa using hy))]
  have : (L.take j).reverse.takeWhile (lt x) = [] := by
   cases hr : (L.take j).reverse with
   | nil => rfl
   | cons y l =>
    have e2 : L.take j = l.reverse ++ [y] := by have := congrArg List.reverse hr; simpa using this
    have hjl : j = l.length + 1 := by have := congrArg List.length e2; simp at this; omega
    have hy : L[j - 1]? = some y := by
     have h3 : (L.take j)[l.length]? = some y := by rw [e2]; simp
     rw [List.getElem?_take_of_lt (by omega)] at h3
     rw [hjl]; exact h3
    simp [List.takeWhile, hA y (by omega) hy]
  rw [this, List.append_nil]
 unfold pos
 rw [h1]
 simp; omega
theorem laidF {α : Type} {f : α → List Value} {w : World} {t : TypeId} {sz : Nat} {u : Value} {L : List α} {j : Nat} {x : α} {R : List α} {xc : List Value} (hxc : xc = f x) (hj : j ≤ L.length) (hI : R = L.take j ++ x :: L.drop j) (h : Row w t sz u (0 + j + 1 + (L.length - j)) (([] ++ (L.take j).flatMap f) ++ xc ++ (L.drop j).flatMap f)) : Row w t sz u R.length (R.flatMap f) := by
 subst hI
 subst hxc
 have e1 : ([] ++ (L.take j).flatMap f) ++ f x ++ (L.drop j).flatMap f = (L.take j ++ x :: L.drop j).flatMap f := by simp
 have e2 : 0 + j + 1 + (L.length - j) = (L.take j ++ x :: L.drop j).length := by simp; omega
 rw [e1, e2] at h
 exact h
theorem makeSet_ok (M : Nat → Prop) (xs : List Lab) (hsz : ∀ x ∈ xs, x.name.size ≤ 9223372036854775807) (v : Value) (w : World) (hv : SlL M w v xs) (hb : xs.length ≤ 1000000000000) :
    Fx Tryz.prog 86 [v] w (fun u w' => (∃ v', u = .tuple #[v', .bool (isS (sortS xs))] ∧ (isS (sortS xs) = true → Row w' 79 2 v' (sortS xs).length ((sortS xs).flatMap labC) ∧ Fresh w.heap.size v')) ∧ Grow w w') := by
  obtain ⟨ad, c, rfl⟩ := hv.shape
  refine enter Tryz.func86 rfl rfl rfl _ (Pick.sub (l := [0]) (.cons rfl .nil)) ?_
  refine RK.seq ?_
  refine RK.region ?_
  iterate 2 refine RL.p rfl rfl ?_
  refine RL.done ?_
  refine RK.seq ?_
  refine RK.region ?_
  refine RL.p rfl rfl ?_
  refine RL.done ?_
  iterate 2 refine RK.seq ?_
  refine RK.region ?_
  refine RL.p rfl rfl ?_
  refine RL.done ?_
  refine RK.block ?_
  refine RK.loop (fun s : Nat × Value => [(0, .slice ad xs.length c), (4, s.2), (5, .int .i64 (s.1 : Int))]) (fun s w' => Row w' 79 2 s.2 (sortS (xs.take s.1)).length ((sortS (xs.take s.1)).flatMap labC) ∧ Fresh w.heap.size s.2 ∧ Grow w w' ∧ s.1 ≤ xs.length) (fun s => xs.length - s.1) (0, .slice none 0 0) ⟨rfl, rfl, rfl, trivial⟩ ⟨by simpa [sortS, isort] using Row.nil _ _ _, fun b hb => by simp [Value.ownBlock] at hb, Mod.refl _ _, by simp⟩ (fun s w' hI ih => ?_)
  obtain ⟨i, u⟩ := s
  obtain ⟨hr, hfr, hg, hi⟩ := hI
  simp only at hr hfr hi
  iterate 2 refine RK.seq ?_
  refine RK.region ?_
  iterate 2 refine RL.p rfl rfl ?_
  refine RL.q (.free rfl) rfl rfl (Yld.lenSl u33 rfl) ?_
  refine RL.p rfl rfl ?_
  refine RL.done ?_
  first | refine RK.condD rfl (fun h10 => ?_) (fun h10 => ?_) | refine RK.condN rfl (fun h10 => ?_) (fun h10 => ?_) | refine RK.cond rfl (fun h10 => ?_) (fun h10 => ?_)
  · obtain ⟨x, hx⟩ : ∃ x, xs[i]? = some x := ⟨xs[i]'(by omega), List.getElem?_eq_getElem (by omega)⟩
    have htk : xs.take (i + 1) = xs.take i ++ [x] := by rw [List.take_succ_eq_append_getElem (by omega)]; congr 2; exact (List.getElem?_eq_some_iff.1 hx).2
    obtain ⟨b1, o1, c1', he1, _, _, hc1⟩ := hv.elem labC_len hx
    cases he1
    have hLle : (sortS (xs.take i)).length ≤ i := by unfold sortS; rw [isort_len]; simp; omega
    generalize hLe : sortS (xs.take i) = L at *
    obtain ⟨adu, cu, rfl, hcu⟩ := hr.cap
    have hsu : Sl No w' (.slice adu L.length cu) 2 L.length (L.flatMap labC) := Sl.own hr (fun _ _ h => h)
    refine RK.skip ?_
    refine RK.seq ?_
    refine RK.block ?_
    refine RK.seq ?_
    refine RK.region ?_
    refine RL.p rfl rfl ?_
    refine RL.q (.free rfl) rfl rfl (Yld.lenSl u33 rfl) ?_
    refine RL.p rfl rfl ?_
    refine RL.done ?_
    refine RK.seq ?_
    refine RK.block ?_
    refine RK.loop (fun j : Nat => [(0, .slice (some ⟨b1, o1, none⟩) xs.length c), (4, .slice adu L.length cu), (5, .int .i64 (i : Int)), (6, .int .i64 (j : Int))]) (fun j w2 => Grow w' w2 ∧ j ≤ L.length ∧ ∀ y ∈ L.drop j, byName x y = true) (fun j => j) L.length ⟨rfl, rfl, rfl, rfl, trivial⟩ ⟨Mod.refl _ _, Nat.le_refl _, by simp⟩ (fun j w2 hI2 ih2 => ?_)
    obtain ⟨hg2, hj, hD⟩ := hI2
    have hin : ∀ w3, Grow w' w3 → ∀ q z, (labC x)[q]? = some z → w3.cell? ⟨b1, o1 + i * 2 + q, none⟩ = some z := fun w3 h3 q z hq => (hg.trans h3).cell (hc1 q z hq) (fun h => h)
    have hhi : ∀ w3, Grow w' w3 → Sl No w3 (.slice adu j cu) 2 j ((L.take j).flatMap labC) := fun w3 h3 => (hsu.mod h3).takeF labC_len hj
    have hlo : ∀ w3, Grow w' w3 → Sl No w3 (.slice (fromAt adu cu j 2) (L.length - j) (cu - j)) 2 (L.length - j) ((L.drop j).flatMap labC) := fun w3 h3 => (hsu.mod h3).fromF labC_len hj hcu
    iterate 2 refine RK.seq ?_
    refine RK.drawM No [(0, false), (1, false), (2, false), (3, false), (4, false), (5, false), (6, false), (7, false), (8, false), (9, false), (10, false), (11, false), (12, false), (13, false), (14, false), (15, false)] [] mixed (by kernel_rfl) ?_
    iterate 3 refine DL.p rfl rfl rfl ?_
    first | refine DL.splitD (d := 17) rfl rfl (fun h17 => ?_) (fun h17 => ?_) | refine DL.splitN (d := 17) rfl rfl (fun h17 => ?_) (fun h17 => ?_) | refine DL.split (d := 17) rfl rfl (fun h17 => ?_) (fun h17 => ?_)
    · obtain ⟨y, hy⟩ : ∃ y, L[j - 1]? = some y := ⟨L[j - 1]'(by omega), List.getElem?_eq_getElem (by omega)⟩
      obtain ⟨b2, o2, c2', he2, _, _, hc2⟩ := hsu.elem labC_len hy
      cases he2
      iterate 2 refine DL.qf rfl (.yes rfl rfl rfl) rfl rfl (Yld.pure rfl) ?_
      refine DL.qf rfl (.yes rfl rfl rfl) rfl rfl (Yld.indexAddrN u33 i79 rfl rfl (by omega)) ?_
      refine DL.qf rfl (.yes rfl rfl rfl) rfl rfl (Yld.fieldAddr fo79_0 rfl) ?_
      refine DL.q rfl (.yes rfl rfl rfl) rfl rfl rfl (Yld.load p9 rfl (atM (hin _ hg2 0 _ rfl) (fun h => h))) (Mod.drew _ _) ?_
      iterate 3 refine DL.qf rfl (.yes rfl rfl rfl) rfl rfl (Yld.pure rfl) ?_
      refine DL.re (d := 25) rfl rfl (sub_i64 (z := ((j - 1 : Nat) : Int)) (by omega) (by omega) (by omega)) ?_
      refine DL.qf rfl (.yes rfl rfl rfl) rfl rfl (Yld.indexAddrN u33 i79 rfl rfl (by omega)) ?_
      refine DL.qf rfl (.yes rfl rfl rfl) rfl rfl (Yld.fieldAddr fo79_0 rfl) ?_
      refine DL.q rfl (.yes rfl rfl rfl) rfl rfl rfl (Yld.load p9 rfl (atM (hg2.cell (hc2 0 _ rfl) (fun h => h)) (fun h => h))) (Mod.drew _ _) ?_
      refine DL.qf rfl (.yes rfl rfl rfl) rfl rfl (Yld.pure rfl) ?_
      refine DL.p rfl rfl rfl ?_
      refine DL.done ?_
      first | refine RK.condD rfl (fun h30 => ?_) (fun h30 => ?_) | refine RK.condN rfl (fun h30 => ?_) (fun h30 => ?_) | refine RK.cond rfl (fun h30 => ?_) (fun h30 => ?_)
      · refine RK.skip ?_
        refine RK.block ?_
        refine RK.region ?_
        iterate 2 refine RL.p rfl rfl ?_
        refine RL.re (d := 32) rfl rfl (sub_i64 (z := ((j - 1 : Nat) : Int)) (by omega) (by omega) (by omega)) ?_
        refine RL.p rfl rfl ?_
        refine RL.done ?_
        refine RK.inBlock ?_
        exact RK.back (ih2 (j - 1) _ ⟨hg2.trans (Mod.drew _ _), by omega, fun z hz => by
            rw [show L.drop (j - 1) = y :: L.drop j by rw [List.drop_eq_getElem_cons (by omega : j - 1 < L.length), show j - 1 + 1 = j by omega, (List.getElem?_eq_some_iff.1 hy).2]] at hz
            rcases List.mem_cons.1 hz with rfl | hz
            · exact h30
            · exact hD z hz
          ⟩ (by omega)) ⟨rfl, rfl, rfl, rfl, trivial⟩
      · have hpos : pos byName x L = j := pos_splitG hj hD (fun z _ hz => by rw [hy] at hz; cases hz; simpa [byName] using h30)
        have hI : sortS (xs.take (i + 1)) = L.take j ++ x :: L.drop j := by rw [htk]; unfold sortS; rw [isort_snoc]; unfold sortS at hLe; rw [hLe, insE, hpos]
        obtain ⟨w9, hw9⟩ : ∃ w9, w9 = w2.drew := ⟨_, rfl⟩
        rw [← hw9]
        have hgr : Grow w' w9 := hw9 ▸ (hg2.trans (Mod.drew _ _))
        have hgd : Grow w' w9.drew := hgr.trans (Mod.drew _ _)
        refine RK.exit rfl ?_
        refine RK.drawF No [(0, false), (1, false), (2, false), (4, false), (5, false), (6, false), (7, false), (10, false), (11, false), (12, false)] 3 8 [(8, true), (9, true), (13, true), (14, false)] [(3, true), (9, true), (13, true), (14, false)] [] mixed (by kernel_rfl) ?_
        iterate 2 refine DL.p rfl rfl rfl ?_
        refine DL.qf rfl (.free rfl) rfl rfl (Yld.sliceHi u33 i79 (m := j) rfl rfl (by omega)) ?_
        iterate 2 refine DL.p rfl rfl rfl ?_
        refine DL.qf rfl (.free rfl) rfl rfl (Yld.indexAddrN u33 i79 rfl rfl (by omega)) ?_
        refine DL.q rfl (.free rfl) rfl rfl rfl (Yld.loadN (cs := [.string x.name, .string x.value]) a79 rfl (atNM (hin _ hgr) (fun h => h))) (Mod.drew _ _) ?_
        iterate 2 refine DL.p rfl rfl rfl ?_
        refine DL.qf rfl (.free rfl) rfl rfl (Yld.sliceFrom u33 i79 (m := j) rfl rfl hj) ?_
        refine DL.fork ?_ ?_
        · refine DL.op rfl (.free rfl) rfl rfl (Does.append u33 i79 rfl rfl rfl rfl rfl (Row.nil _ _ _) (hhi _ hgd) (allOne_labs _) (by omega)) ?_
          rintro u1 v1 ⟨hr1, hm1, hu1⟩
          have hg1 : Grow w9.drew v1 := hm1.mono (fun b _ e => by simp [Value.ownBlock] at e)
          refine ⟨(Mod.drew _ _).trans hg1, ?_⟩
          refine DL.op rfl (.free rfl) rfl rfl (Does.slice1 u33 i79 rfl rfl rfl rfl rfl) ?_
          rintro _ v2 ⟨b2, rfl, hn2⟩
          refine ⟨((Mod.drew _ _).trans hg1).trans hn2.grow, ?_⟩
          refine DL.op rfl (.free rfl) rfl rfl (Does.append u33 i79 rfl rfl rfl rfl rfl (hr1.mod hn2.grow (fun _ _ h => h)) (Sl.new hn2 2 1 rfl (by omega) (fun h => h)) (rfl) (by omega)) ?_
          rintro u3 v3 ⟨hr3, hm3, hu3⟩
          have hf1 : Fresh w9.drew.heap.size u1 := fun b e => by
              rcases hu1 with h | h <;> rw [h] at e
              · simp [Value.ownBlock] at e
              · cases e; omega
          have hf3 : Fresh w9.drew.heap.size u3 := fun b e => by
              have h1 := hg1.size; have h2 := hn2.size
              rcases hu3 with h | h <;> rw [h] at e
              · exact hf1 b e
              · cases e; omega
          have hg13 : Grow w9.drew v3 := (hg1.trans hn2.grow).then hm3 (fun b hb e => by have := hf1 b e; omega)
          refine ⟨(Mod.drew _ _).trans hg13, ?_⟩
          refine DL.op rfl (.free rfl) rfl rfl (Does.append u33 i79 rfl rfl rfl rfl rfl (hr3) (hlo _ (hgd.trans hg13)) (allOne_labs _) (by omega)) ?_
          rintro u4 v4 ⟨hr4, hm4, hu4⟩
          have hg14 : Grow w9.drew v4 := hg13.then hm4 (fun b hb e => by have := hf3 b e; omega)
          have hf4 : Fresh w.heap.size u4 := fun b e => by
              have h1 := hg13.size; have h2 := (hg.trans hgd).size
              rcases hu4 with h | h <;> rw [h] at e
              · have := hf3 b e; omega
              · cases e; omega
          refine ⟨(Mod.drew _ _).trans hg14, ?_⟩
          refine DL.p rfl rfl rfl ?_
          refine DL.done ?_
          refine RK.inBlock ?_
          refine RK.region ?_
          iterate 2 refine RL.p rfl rfl ?_
          refine RL.re (d := 12) rfl rfl (succ_i64 (by have := hv.big; omega)) ?_
          refine RL.p rfl rfl ?_
          refine RL.done ?_
          exact RK.back (ih (i + 1, u4) _ ⟨laidF (x := x) rfl hj hI hr4, hf4, (hg.trans hgd).trans hg14, by simp only; omega⟩ (by simp only; omega)) ⟨rfl, rfl, rfl, trivial⟩
        · refine DL.op rfl (.free rfl) rfl rfl (Does.slice1 u33 i79 rfl rfl rfl rfl rfl) ?_
          rintro _ v2 ⟨b2, rfl, hn2⟩
          refine ⟨(Mod.drew _ _).trans hn2.grow, ?_⟩
          refine DL.op rfl (.free rfl) rfl rfl (Does.append u33 i79 rfl rfl rfl rfl rfl (Row.nil _ _ _) (hhi _ (hgd.trans hn2.grow)) (allOne_labs _) (by omega)) ?_
          rintro u1 v1 ⟨hr1, hm1, hu1⟩
          have hg1' : Grow v2 v1 := hm1.mono (fun b _ e => by simp [Value.ownBlock] at e)
          have hg1 : Grow w9.drew v1 := hn2.grow.trans hg1'
          refine ⟨(Mod.drew _ _).trans hg1, ?_⟩
          refine DL.op rfl (.free rfl) rfl rfl (Does.append u33 i79 rfl rfl rfl rfl rfl (hr1) ((Sl.new hn2 2 1 rfl (by omega) (fun h => h)).mod hg1') (rfl) (by omega)) ?_
          rintro u3 v3 ⟨hr3, hm3, hu3⟩
          have hf1 : Fresh w9.drew.heap.size u1 := fun b e => by
              have h2 := hn2.size
              rcases hu1 with h | h <;> rw [h] at e
              · simp [Value.ownBlock] at e
              · cases e; omega
          have hf3 : Fresh w9.drew.heap.size u3 := fun b e => by
              have h1 := hg1.size
              rcases hu3 with h | h <;> rw [h] at e
              · exact hf1 b e
              · cases e; omega
          have hg13 : Grow w9.drew v3 := hg1.then hm3 (fun b hb e => by have := hf1 b e; omega)
          refine ⟨(Mod.drew _ _).trans hg13, ?_⟩
          refine DL.op rfl (.free rfl) rfl rfl (Does.append u33 i79 rfl rfl rfl rfl rfl (hr3) (hlo _ (hgd.trans hg13)) (allOne_labs _) (by omega)) ?_
          rintro u4 v4 ⟨hr4, hm4, hu4⟩
          have hg14 : Grow w9.drew v4 := hg13.then hm4 (fun b hb e => by have := hf3 b e; omega)
          have hf4 : Fresh w.heap.size u4 := fun b e => by
              have h1 := hg13.size; have h2 := (hg.trans hgd).size
              rcases hu4 with h | h <;> rw [h] at e
              · have := hf3 b e; omega
              · cases e; omega
          refine ⟨(Mod.drew _ _).trans hg14, ?_⟩
          refine DL.p rfl rfl rfl ?_
          refine DL.done ?_
          refine RK.inBlock ?_
          refine RK.region ?_
          iterate 2 refine RL.p rfl rfl ?_
          refine RL.re (d := 12) rfl rfl (succ_i64 (by have := hv.big; omega)) ?_
          refine RL.p rfl rfl ?_
          refine RL.done ?_
          exact RK.back (ih (i + 1, u4) _ ⟨laidF (x := x) rfl hj hI hr4, hf4, (hg.trans hgd).trans hg14, by simp only; omega⟩ (by simp only; omega)) ⟨rfl, rfl, rfl, trivial⟩
    · have hj0 : j = 0 := by omega
      have hpos : pos byName x L = j := pos_splitG hj hD (fun z h0 _ => by omega)
      have hI : sortS (xs.take (i + 1)) = L.take j ++ x :: L.drop j := by rw [htk]; unfold sortS; rw [isort_snoc]; unfold sortS at hLe; rw [hLe, insE, hpos]
      obtain ⟨w9, hw9⟩ : ∃ w9, w9 = w2.drew := ⟨_, rfl⟩
      rw [← hw9]
      have hgr : Grow w' w9 := hw9 ▸ (hg2.trans (Mod.drew _ _))
      have hgd : Grow w' w9.drew := hgr.trans (Mod.drew _ _)
      iterate 12 refine DL.no rfl (.no rfl rfl rfl rfl) rfl rfl ?_
      refine DL.p rfl rfl rfl ?_
      refine DL.done ?_
      refine RK.condF rfl ?_
      refine RK.exit rfl ?_
      refine RK.drawF No [(0, false), (1, false), (2, false), (4, false), (5, false), (6, false), (7, false), (10, false), (11, false), (12, false)] 3 8 [(8, true), (9, true), (13, true), (14, false)] [(3, true), (9, true), (13, true), (14, false)] [] mixed (by kernel_rfl) ?_
      iterate 2 refine DL.p rfl rfl rfl ?_
      refine DL.qf rfl (.free rfl) rfl rfl (Yld.sliceHi u33 i79 (m := j) rfl rfl (by omega)) ?_
      iterate 2 refine DL.p rfl rfl rfl ?_
      refine DL.qf rfl (.free rfl) rfl rfl (Yld.indexAddrN u33 i79 rfl rfl (by omega)) ?_
      refine DL.q rfl (.free rfl) rfl rfl rfl (Yld.loadN (cs := [.string x.name, .string x.value]) a79 rfl (atNM (hin _ hgr) (fun h => h))) (Mod.drew _ _) ?_
      iterate 2 refine DL.p rfl rfl rfl ?_
      refine DL.qf rfl (.free rfl) rfl rfl (Yld.sliceFrom u33 i79 (m := j) rfl rfl hj) ?_
      refine DL.fork ?_ ?_
      · refine DL.op rfl (.free rfl) rfl rfl (Does.append u33 i79 rfl rfl rfl rfl rfl (Row.nil _ _ _) (hhi _ hgd) (allOne_labs _) (by omega)) ?_
        rintro u1 v1 ⟨hr1, hm1, hu1⟩
        have hg1 : Grow w9.drew v1 := hm1.mono (fun b _ e => by simp [Value.ownBlock] at e)
        refine ⟨(Mod.drew _ _).trans hg1, ?_⟩
        refine DL.op rfl (.free rfl) rfl rfl (Does.slice1 u33 i79 rfl rfl rfl rfl rfl) ?_
        rintro _ v2 ⟨b2, rfl, hn2⟩
        refine ⟨((Mod.drew _ _).trans hg1).trans hn2.grow, ?_⟩
        refine DL.op rfl (.free rfl) rfl rfl (Does.append u33 i79 rfl rfl rfl rfl rfl (hr1.mod hn2.grow (fun _ _ h => h)) (Sl.new hn2 2 1 rfl (by omega) (fun h => h)) (rfl) (by omega)) ?_
        rintro u3 v3 ⟨hr3, hm3, hu3⟩
        have hf1 : Fresh w9.drew.heap.size u1 := fun b e => by
            rcases hu1 with h | h <;> rw [h] at e
            · simp [Value.ownBlock] at e
            · cases e; omega
        have hf3 : Fresh w9.drew.heap.size u3 := fun b e => by
            have h1 := hg1.size; have h2 := hn2.size
            rcases hu3 with h | h <;> rw [h] at e
            · exact hf1 b e
            · cases e; omega
        have hg13 : Grow w9.drew v3 := (hg1.trans hn2.grow).then hm3 (fun b hb e => by have := hf1 b e; omega)
        refine ⟨(Mod.drew _ _).trans hg13, ?_⟩
        refine DL.op rfl (.free rfl) rfl rfl (Does.append u33 i79 rfl rfl rfl rfl rfl (hr3) (hlo _ (hgd.trans hg13)) (allOne_labs _) (by omega)) ?_
        rintro u4 v4 ⟨hr4, hm4, hu4⟩
        have hg14 : Grow w9.drew v4 := hg13.then hm4 (fun b hb e => by have := hf3 b e; omega)
        have hf4 : Fresh w.heap.size u4 := fun b e => by
            have h1 := hg13.size; have h2 := (hg.trans hgd).size
            rcases hu4 with h | h <;> rw [h] at e
            · have := hf3 b e; omega
            · cases e; omega
        refine ⟨(Mod.drew _ _).trans hg14, ?_⟩
        refine DL.p rfl rfl rfl ?_
        refine DL.done ?_
        refine RK.inBlock ?_
        refine RK.region ?_
        iterate 2 refine RL.p rfl rfl ?_
        refine RL.re (d := 12) rfl rfl (succ_i64 (by have := hv.big; omega)) ?_
        refine RL.p rfl rfl ?_
        refine RL.done ?_
        exact RK.back (ih (i + 1, u4) _ ⟨laidF (x := x) rfl hj hI hr4, hf4, (hg.trans hgd).trans hg14, by simp only; omega⟩ (by simp only; omega)) ⟨rfl, rfl, rfl, trivial⟩
      · refine DL.op rfl (.free rfl) rfl rfl (Does.slice1 u33 i79 rfl rfl rfl rfl rfl) ?_
        rintro _ v2 ⟨b2, rfl, hn2⟩
        refine ⟨(Mod.drew _ _).trans hn2.grow, ?_⟩
        refine DL.op rfl (.free rfl) rfl rfl (Does.append u33 i79 rfl rfl rfl rfl rfl (Row.nil _ _ _) (hhi _ (hgd.trans hn2.grow)) (allOne_labs _) (by omega)) ?_
        rintro u1 v1 ⟨hr1, hm1, hu1⟩
        have hg1' : Grow v2 v1 := hm1.mono (fun b _ e => by simp [Value.ownBlock] at e)
        have hg1 : Grow w9.drew v1 := hn2.grow.trans hg1'
        refine ⟨(Mod.drew _ _).trans hg1, ?_⟩
        refine DL.op rfl (.free rfl) rfl rfl (Does.append u33 i79 rfl rfl rfl rfl rfl (hr1) ((Sl.new hn2 2 1 rfl (by omega) (fun h => h)).mod hg1') (rfl) (by omega)) ?_
        rintro u3 v3 ⟨hr3, hm3, hu3⟩
        have hf1 : Fresh w9.drew.heap.size u1 := fun b e => by
            have h2 := hn2.size
            rcases hu1 with h | h <;> rw [h] at e
            · simp [Value.ownBlock] at e
            · cases e; omega
        have hf3 : Fresh w9.drew.heap.size u3 := fun b e => by
            have h1 := hg1.size
            rcases hu3 with h | h <;> rw [h] at e
            · exact hf1 b e
            · cases e; omega
        have hg13 : Grow w9.drew v3 := hg1.then hm3 (fun b hb e => by have := hf1 b e; omega)
        refine ⟨(Mod.drew _ _).trans hg13, ?_⟩
        refine DL.op rfl (.free rfl) rfl rfl (Does.append u33 i79 rfl rfl rfl rfl rfl (hr3) (hlo _ (hgd.trans hg13)) (allOne_labs _) (by omega)) ?_
        rintro u4 v4 ⟨hr4, hm4, hu4⟩
        have hg14 : Grow w9.drew v4 := hg13.then hm4 (fun b hb e => by have := hf3 b e; omega)
        have hf4 : Fresh w.heap.size u4 := fun b e => by
            have h1 := hg13.size; have h2 := (hg.trans hgd).size
            rcases hu4 with h | h <;> rw [h] at e
            · have := hf3 b e; omega
            · cases e; omega
        refine ⟨(Mod.drew _ _).trans hg14, ?_⟩
        refine DL.p rfl rfl rfl ?_
        refine DL.done ?_
        refine RK.inBlock ?_
        refine RK.region ?_
        iterate 2 refine RL.p rfl rfl ?_
        refine RL.re (d := 12) rfl rfl (succ_i64 (by have := hv.big; omega)) ?_
        refine RL.p rfl rfl ?_
        refine RL.done ?_
        exact RK.back (ih (i + 1, u4) _ ⟨laidF (x := x) rfl hj hI hr4, hf4, (hg.trans hgd).trans hg14, by simp only; omega⟩ (by simp only; omega)) ⟨rfl, rfl, rfl, trivial⟩
  · have ek : xs.take i = xs := List.take_of_length_le (by omega)
    rw [ek] at hr
    obtain ⟨ad9, c9, rfl⟩ := hr.slice
    refine RK.exit rfl ?_
    iterate 2 refine RK.seq ?_
    refine RK.region ?_
    refine RL.p rfl rfl ?_
    refine RL.op (.free rfl) rfl rfl (Does.call rfl e149 (isSet_ok No (sortS xs) (fun x hx => hsz x (mem_isort.1 hx)) _ _ (Sl.own hr (fun _ _ h => h)))) ?_
    rintro _ w5 ⟨rfl, hg5⟩
    refine RL.p rfl rfl ?_
    refine RL.done ?_
    first | refine RK.condD rfl (fun h49 => ?_) (fun h49 => ?_) | refine RK.condN rfl (fun h49 => ?_) (fun h49 => ?_) | refine RK.cond rfl (fun h49 => ?_) (fun h49 => ?_)
    · have his : isS (sortS xs) = false := by simpa using h49
      refine RK.seq ?_
      refine RK.region ?_
      iterate 2 refine RL.p rfl rfl ?_
      refine RL.done ?_
      refine RK.ret_of Tryz.func86 (res2 rfl rfl rfl) ?_ _
      exact ⟨_, rfl, ⟨_, by rw [his], fun h => by rw [his] at h; cases h⟩, hg.trans hg5⟩
    · have his : isS (sortS xs) = true := by simpa using h49
      refine RK.skip ?_
      refine RK.seq ?_
      refine RK.region ?_
      iterate 3 refine RL.p rfl rfl ?_
      refine RL.done ?_
      refine RK.ret_of Tryz.func86 (res2 rfl rfl rfl) ?_ _
      exact ⟨_, rfl, ⟨_, by rw [his], fun _ => ⟨hr.mod hg5 (fun _ _ h => h), hfr⟩⟩, hg.trans hg5⟩
def labOf (n : Int) : Lab := ⟨nmS (withinS n 0 4), vlS (withinS (n.tdiv 5) 0 6)⟩
def labStep (out : List Lab) (n : Int) : List Lab := if getL out (labOf n).name = ByteArray.empty then out ++ [labOf n] else out
def sevA : Lab := ⟨⟨#[115, 101, 118]⟩, ⟨#[97]⟩⟩
def rawS (l : List Int) : List Lab := (l.take 5).foldl labStep []
def rawS' (l : List Int) : List Lab := if rawS l = [] then [sevA] else rawS l
def labelsS (l : List Int) : List Lab := sortS (rawS' l)
theorem nmL_ok : ∀ s ∈ nmL, nameS s = true ∧ s ≠ ByteArray.empty ∧ s.size ≤ 12 := by
 intro s hs
 simp only [nmL, List.mem_cons, List.not_mem_nil, or_false] at hs
 rcases hs with rfl | rfl | rfl | rfl | rfl <;> exact ⟨by kernel_rfl, by decide, by decide⟩
theorem vlL_ok : ∀ s ∈ vlL, valS s = true ∧ s ≠ ByteArray.empty := by
 intro s hs
 simp only [vlL, List.mem_cons, List.not_mem_nil, or_false] at hs
 rcases hs with rfl | rfl | rfl | rfl | rfl | rfl | rfl <;> exact ⟨by kernel_rfl, by decide⟩
structure Raw (ls : List Lab) : Prop where
 nd : (ls.map (·.name)).Nodup
 nm : ∀ x ∈ ls, x.name ∈ nmL
 vl : ∀ x ∈ ls, x.value ∈ vlL
theorem labOf_ok (n : Int) : (labOf n).name ∈ nmL ∧ (labOf n).value ∈ vlL := ⟨nm_mem _, vl_mem _⟩
theorem getL_empty {ls : List Lab} (h : Raw ls) {nm : ByteArray} (he : getL ls nm = ByteArray.empty) : nm ∉ ls.map (·.name) := by
 intro hm
 obtain ⟨x, hx, rfl⟩ := List.mem_map.1 hm
 unfold getL at he
 cases hf : ls.find? (fun y => decide (y.name = x.name)) with
 | none => have := List.find?_eq_none.1 hf x hx; simp at this
 | some y =>
  rw [hf] at he
  have hy := List.mem_of_find?_eq_some hf
  exact (vlL_ok _ (h.vl y hy)).2 he
theorem Raw.step {ls : List Lab} (h : Raw ls) (n : Int) : Raw (labStep ls n) := by
 unfold labStep
 split
 ·rename_i he
  have hn := getL_empty h he
  refine ⟨?_, fun x hx => ?_, fun x hx => ?_⟩
  ·rw [List.map_append, List.nodup_append]
   exact ⟨h.nd, by simp, fun a ha b hb e => hn (by simp at hb; subst hb; exact e ▸ ha)⟩
  ·rcases List.mem_append.1 hx with h1 | h1
   ·exact h.nm x h1
   ·simp at h1; subst h1; exact (labOf_ok n).1
  ·rcases List.mem_append.1 hx with h1 | h1
   ·exact h.vl x h1
   ·simp at h1; subst h1; exact (labOf_ok n).2
 ·exact h
theorem Raw.nil : Raw [] := ⟨by simp, by simp, by simp⟩
theorem raw_fold : ∀ (l : List Int) (ls : List Lab), Raw ls → Raw (l.foldl labStep ls)
 | [], ls, h => h
 | n :: l, ls, h => raw_fold l _ (h.step n)
theorem labStep_len (ls : List Lab) (n : Int) : (labStep ls n).length ≤ ls.length + 1 := by unfold labStep; split <;> simp
theorem fold_len : ∀ (l : List Int) (ls : List Lab), (l.foldl labStep ls).length ≤ ls.length + l.length
 | [], ls => by simp
 | n :: l, ls => by have h1 := fold_len l (labStep ls n); have h2 := labStep_len ls n; simp only [List.foldl_cons, List.length_cons]; omega
theorem raw_ok (l : List Int) : Raw (rawS' l) ∧ 1 ≤ (rawS' l).length ∧ (rawS' l).length ≤ 5 := by
 unfold rawS'
 split
 ·exact ⟨⟨by simp, by simp [sevA, nmL], by simp [sevA, vlL]⟩, by simp, by simp⟩
 ·rename_i h
  have := fold_len (l.take 5) []
  refine ⟨raw_fold _ _ Raw.nil, by cases hr : rawS l with | nil => exact absurd hr h | cons => simp, ?_⟩
  simp only [List.length_nil, List.length_take] at this
  unfold rawS
  omega
theorem insE_sorted {ls : List Lab} {x : Lab} (h : ls.Pairwise fun a b => slt a.name b.name = true) (hx : x.name ∉ ls.map (·.name)) : (insE byName ls x).Pairwise fun a b => slt a.name b.name = true := by
 obtain ⟨A, D, rfl, hD, hA⟩ : ∃ A D, ls = A ++ D ∧ (∀ y ∈ D, byName x y = true) ∧ (∀ A' y, A = A' ++ [y] → byName x y = false) := by
  refine ⟨(ls.reverse.dropWhile (byName x)).reverse, (ls.reverse.takeWhile (byName x)).reverse, ?_, ?_, ?_⟩
  ·rw [← List.reverse_append, List.takeWhile_append_dropWhile, List.reverse_reverse]
  ·intro y hy
   exact List.all_eq_true.1 (List.all_takeWhile (p := byName x) (l := ls.reverse)) y (by simpa using hy)
  ·intro A' y h
   have h2 : ls.reverse.dropWhile (byName x) = y :: A'.reverse := by have := congrArg List.reverse h; simpa using this
   have := List.head_dropWhile_not (byName x) (l := ls.reverse) (by rw [h2]; simp)
   simpa [h2] using this
 rw [insE_split hD hA]
 obtain ⟨h1, h2, h3⟩ := List.pairwise_append.1 h
 refine List.pairwise_append.2 ⟨h1, List.pairwise_cons.2 ⟨hD, h2⟩, fun a ha b hb => ?_⟩
 rcases List.mem_cons.1 hb with rfl | hb
 ·rcases List.eq_nil_or_concat A with rfl | ⟨A', y, rfl⟩
  ·simp at ha
  ·rw [List.concat_eq_append] at *
   have hyx : slt b.name y.name = false := hA A' y rfl
   have hne : b.name ≠ y.name := fun e => hx (List.mem_map.2 ⟨y, by simp, e.symm⟩)
   have hlt := slt_total hyx hne
   rcases List.mem_append.1 ha with ha | ha
   ·exact slt_trans ((List.pairwise_append.1 h1).2.2 a ha y (by simp)) hlt
   ·simp at ha; subst ha; exact hlt
 ·exact h3 a ha b hb
theorem sortS_sorted (ls : List Lab) (h : (ls.map (·.name)).Nodup) : (sortS ls).Pairwise fun a b => slt a.name b.name = true := by
 have key : ∀ (xs L : List Lab), (xs.map (·.name)).Nodup → (∀ x ∈ xs, x.name ∉ L.map (·.name)) → (L.Pairwise fun a b => slt a.name b.name = true) → (xs.foldl (insE byName) L).Pairwise fun a b => slt a.name b.name = true := by
  intro xs
  induction xs with
  | nil => intro L _ _ h; exact h
  | cons x xs ih =>
   intro L hn hd hL
   rw [List.map_cons, List.nodup_cons] at hn
   refine ih _ hn.2 (fun y hy hm => ?_) (insE_sorted hL (hd x (by simp)))
   obtain ⟨z, hz, e⟩ := List.mem_map.1 hm
   rcases mem_insE.1 hz with h1 | rfl
   ·exact hd y (by simp [hy]) (List.mem_map.2 ⟨z, h1, e⟩)
   ·exact hn.1 (List.mem_map.2 ⟨y, hy, e.symm⟩)
 exact key ls [] h (by simp) List.Pairwise.nil
theorem isS_of {ls : List Lab} (h1 : 1 ≤ ls.length) (h2 : ls.length ≤ 6) (hs : ls.Pairwise fun a b => slt a.name b.name = true) (hn : ∀ x ∈ ls, nameS x.name = true) (hv : ∀ x ∈ ls, valS x.value = true) : isS ls = true := by
 refine is_yes h1 h2 fun i hi => ?_
 unfold okAt
 rw [List.getElem?_eq_getElem hi]
 have hm := List.getElem_mem hi
 simp only [hn _ hm, hv _ hm, Bool.true_and]
 cases i with
 | zero => rfl
 | succ j =>
  simp only
  rw [List.getElem?_eq_getElem (by omega)]
  exact List.pairwise_iff_getElem.1 hs j (j + 1) (by omega) hi (by omega)
theorem labels_isS (l : List Int) : isS (labelsS l) = true := by
 obtain ⟨h1, h2, h3⟩ := raw_ok l
 unfold labelsS
 have hl : (sortS (rawS' l)).length = (rawS' l).length := isort_len _ _
 exact isS_of (by omega) (by omega) (sortS_sorted _ h1.nd) (fun x hx => (nmL_ok _ (h1.nm x (mem_isort.1 hx))).1) (fun x hx => (vlL_ok _ (h1.vl x (mem_isort.1 hx))).1)
theorem labels_ok (M : Nat → Prop) (xs : List Int) (v : Value) (w : World) (hv : Sl M w v 1 xs.length (ints xs)) (hi64 : ∀ x ∈ xs, -9223372036854775808 ≤ x ∧ x ≤ 9223372036854775807) :
  Fx Tryz.prog 31 [v] w (fun u w' => ∃ ad c, u = .slice ad (labelsS xs).length c ∧ Row w' 79 2 u (labelsS xs).length ((labelsS xs).flatMap labC) ∧ Fresh w.heap.size u ∧ Grow w w') := by
 obtain ⟨ad, c, rfl⟩ := hv.shape
 have hbig := hv.big
 refine enter Tryz.func31 rfl rfl rfl _ (Pick.sub (l := [0]) (.cons rfl .nil)) ?_
 refine GG ?_
 refine RK.loop (fun s : Nat × Value => [(0, .slice ad xs.length c), (3, s.2), (4, .int .i64 (s.1 : Int))]) (fun s w' => Row w' 79 2 s.2 ((xs.take s.1).foldl labStep []).length (((xs.take s.1).foldl labStep []).flatMap labC) ∧ Fresh w.heap.size s.2 ∧ Grow w w' ∧ s.1 ≤ xs.length ∧ s.1 ≤ 5) (fun s => xs.length - s.1) (0, .slice none 0 0) ⟨rfl, rfl, rfl, trivial⟩ ⟨by simpa using Row.nil _ _ _, fun b hb => by simp [Value.ownBlock] at hb, Mod.refl _ _, by simp, by simp⟩ (fun s w' hI ih => ?_)
 obtain ⟨i, u⟩ := s
 obtain ⟨hr, hfr, hg, hi, hi5⟩ := hI
 simp only at hr hfr hi hi5
 obtain ⟨adu, cu, rfl⟩ := hr.slice
 have hdone : ¬ ((i : Int) < xs.length ∧ (i : Int) < 5) → (xs.take i).foldl labStep [] = rawS xs := fun h => by
   unfold rawS
   by_cases h5 : i = 5
   ·rw [h5]
   ·have : i = xs.length := by omega
    rw [List.take_of_length_le (by omega), List.take_of_length_le (by omega)]
 have hLle : ((xs.take i).foldl labStep []).length ≤ 5 := by have := fold_len (xs.take i) []; simp at this; omega
 have hfin : ∀ (u' : Value) (w5 : World) (ls : List Lab), Row w5 79 2 u' ls.length (ls.flatMap labC) → Raw ls → 1 ≤ ls.length → ls.length ≤ 5 → Fx Tryz.prog 86 [u'] w5 (fun u2 w6 => ∃ ad2 c2, u2 = .tuple #[.slice ad2 (sortS ls).length c2, .bool true] ∧ Row w6 79 2 (.slice ad2 (sortS ls).length c2) (sortS ls).length ((sortS ls).flatMap labC) ∧ Fresh w5.heap.size (.slice ad2 (sortS ls).length c2) ∧ Grow w5 w6) := fun u' w5 ls h1 h2 h3 h4 => by
   have his : isS (sortS ls) = true := by
    have hl : (sortS ls).length = ls.length := isort_len _ _
    exact isS_of (by omega) (by omega) (sortS_sorted _ h2.nd) (fun x hx => (nmL_ok _ (h2.nm x (mem_isort.1 hx))).1) (fun x hx => (vlL_ok _ (h2.vl x (mem_isort.1 hx))).1)
   refine Fx.mono (makeSet_ok No ls (fun x hx => by have := (nmL_ok _ (h2.nm x hx)).2.2; omega) u' w5 (Sl.own h1 (fun _ _ h => h)) (by omega)) ?_
   rintro u2 w6 ⟨⟨v', rfl, h5⟩, h6⟩
   obtain ⟨h7, h8⟩ := h5 his
   obtain ⟨ad2, c2, rfl⟩ := h7.slice
   exact ⟨ad2, c2, by rw [his], h7, h8, h6⟩
 refine GG ?_
 refine QQ (Yld.lenSl u37 rfl) ?_
 refine GG ?_
 refine SP 12 (fun h12 => ?_) (fun h12 => ?_)
 ·iterate 2 refine QQ (Yld.pure rfl) ?_
  refine GG ?_
  refine CD (fun h15 => ?_) (fun h15 => ?_)
  ·obtain ⟨n, hx⟩ : ∃ n, xs[i]? = some n := ⟨xs[i]'(by omega), List.getElem?_eq_getElem (by omega)⟩
   have hn64 := hi64 n (List.mem_of_getElem? hx)
   have hstep : (xs.take (i + 1)).foldl labStep [] = labStep ((xs.take i).foldl labStep []) n := by
     rw [List.take_succ_eq_append_getElem (by omega), List.foldl_append, (List.getElem?_eq_some_iff.1 hx).2]; rfl
   generalize hL : (xs.take i).foldl labStep [] = L at *
   obtain ⟨b1, o1, c1', he1, _, _, hc1⟩ := hv.elem1 (k := i) (u := .int .i64 n) (by simp [hx])
   cases he1
   have hq5 : n.tdiv 5 ≤ 9223372036854775807 ∧ -9223372036854775808 ≤ n.tdiv 5 := by
     have h1 := Int.mul_tdiv_add_tmod n 5
     have h2 := tmod_range n (b := 5) (by omega)
     omega
   refine GG ?_
   refine RK.drawT No (.op 0 false (.op 1 false (.op 2 false (.op 3 false (.op 6 false (.op 7 false (.op 8 false (.op 9 false (.op 10 false (.fork 4 (.fork 5 (.fork 11 (.fork 12 (.op 13 false (.op 14 true (.op 15 true .nil))) 14 (.op 12 true (.op 13 false (.op 15 true .nil)))) 14 (.op 11 true (.op 12 true (.op 13 false (.op 15 true .nil))))) 14 (.op 5 true (.op 11 true (.op 12 true (.op 13 false (.op 15 true .nil)))))) 14 (.op 4 true (.op 5 true (.op 11 true (.op 12 true (.op 13 false (.op 15 true .nil)))))))))))))))) [] mixed (by kernel_rfl) ?_
   iterate 2 refine DT.p rfl rfl rfl ?_
   refine DT.qf rfl (.free rfl) rfl rfl (Yld.indexAddrN u37 i3 rfl rfl (by omega)) ?_
   refine DT.q rfl (.free rfl) rfl rfl rfl (Yld.load p3 rfl (atM (hg.cell (hc1 i (.int .i64 n) (by simp [hx])) (fun h => h)) (fun h => h))) (Mod.drew _ _) ?_
   iterate 2 refine DT.p rfl rfl rfl ?_
   refine DT.qf rfl (.free rfl) rfl rfl (Yld.indexAddrN u37 i3 rfl rfl (by omega)) ?_
   refine DT.q rfl (.free rfl) rfl rfl rfl (Yld.load p3 rfl (atM (hg.cell (hc1 i (.int .i64 n) (by simp [hx])) (fun h => h)) (fun h => h))) (Mod.drew _ _) ?_
   refine DT.qf rfl (.free rfl) rfl rfl (Yld.quo rfl rfl (by omega)) ?_
   refine DT.re (d := 28) rfl rfl (congrArg (Value.int .i64) (wrap_i64 (x := n.tdiv 5) hq5.2 hq5.1)) ?_
   refine DT.fork ?_ ?_
   ·refine DT.op rfl (.free rfl) rfl rfl (Does.call rfl e83 (within_ok n 0 4 (by omega) (by omega) (by omega) _)) ?_
    rintro _ _ ⟨rfl, rfl⟩
    refine ⟨Mod.drew _ _, ?_⟩
    refine DT.fork ?_ ?_
    ·refine DT.op rfl (.free rfl) rfl rfl (Does.call rfl e80 (nmK_ok _ _)) ?_
     rintro _ _ ⟨rfl, rfl⟩
     refine ⟨Mod.drew _ _, ?_⟩
     refine DT.fork ?_ ?_
     ·refine DT.op rfl (.free rfl) rfl rfl (Does.call rfl e83 (within_ok (n.tdiv 5) 0 6 (by omega) (by omega) (by omega) _)) ?_
      rintro _ _ ⟨rfl, rfl⟩
      refine ⟨Mod.drew _ _, ?_⟩
      refine DT.fork ?_ ?_
      ·refine DT.op rfl (.free rfl) rfl rfl (Does.call rfl e84 (vlK_ok _ _)) ?_
       rintro _ _ ⟨rfl, rfl⟩
       refine ⟨Mod.drew _ _, ?_⟩
       refine DT.qf rfl (.free rfl) rfl rfl (Yld.build (v := .agg #[.string (labOf n).name, .string (labOf n).value]) rfl (fun w => by kernel_rfl)) ?_
       refine DT.op rfl (.free rfl) rfl rfl (Does.alloc i79) ?_
       rintro _ w2 ⟨b2, rfl, hn2⟩
       refine ⟨(Mod.drew _ _).trans hn2.grow, ?_⟩
       refine DT.op' rfl (.free rfl) rfl (Does.storeN i79 rfl rfl rfl rfl hn2.blk (Nat.le_refl 2)) ?_
       rintro _ w3 ⟨hb3, hm3, _⟩
       have hB3 : Blk w3 b2 79 [.string (labOf n).name, .string (labOf n).value] := hb3
       have hg3 : Grow w' w3 := ((Mod.drew No _).trans hn2.grow).then hm3 (fun y hy e => by have e' : y = b2 := e; have := hn2.at_; simp only [World.drew] at this; omega)
       refine ⟨hg3, ?_⟩
       refine DT.done ?_
       refine GG ?_
       refine QQ (Yld.fieldAddr fo79_0 rfl) ?_
       refine QQ (Yld.load p9 rfl (at1 (hB3.cell rfl))) ?_
       refine OP (Does.call rfl e85 (getLabel_ok No L _ _ _ (Sl.own (hr.mod hg3 (fun _ _ h => h)) (fun _ _ h => h)))) ?_
       rintro _ _ ⟨rfl, rfl⟩
       refine GG ?_
       refine CD (fun h36 => ?_) (fun h36 => ?_)
       ·have hst : labStep L n = L ++ [labOf n] := if_pos h36
        refine GG ?_
        refine QQ (Yld.loadN (cs := [.string (labOf n).name, .string (labOf n).value]) a79 rfl (atN (fun j u hj => by rw [Nat.zero_add]; exact hB3.cell' hj))) ?_
        refine OP (Does.slice1 u33 i79 rfl rfl rfl rfl rfl) ?_
        rintro _ w4 ⟨b4, rfl, hn4⟩
        refine OP (Does.append u33 i79 rfl rfl rfl rfl rfl ((hr.mod hg3 (fun _ _ h => h)).mod hn4.grow (fun _ _ h => h)) (Sl.new hn4 2 1 rfl (by omega) (fun h => h)) (rfl) (by omega)) ?_
        rintro u5 w5 ⟨hr5, hm5, hu5⟩
        have hs3 := hg3.size
        have hs0 := hg.size
        refine RL.p rfl rfl ?_
        refine RL.done ?_
        refine RK.inBlock ?_
        refine RK.region ?_
        iterate 2 refine RL.p rfl rfl ?_
        refine RL.re (d := 17) rfl rfl (succ_i64 (by omega)) ?_
        refine GG ?_
        exact RK.back (ih (i + 1, u5) _ ⟨by
          simp only
          rw [hstep, hst]
          have e1 : (L ++ [labOf n]).flatMap labC = L.flatMap labC ++ (Value.agg #[.string (labOf n).name, .string (labOf n).value]).cells.toList := by simp [labC, Value.cells]
          rw [e1, List.length_append]; exact hr5, fun b e => by
          rcases hu5 with h1 | h1
          ·exact hfr b (h1 ▸ e)
          ·simp only at e; rw [h1] at e; cases e; have := hn4.grow.size; omega, ((hg.trans hg3).trans hn4.grow).then hm5 (fun b hb e => by have := hfr b e; omega), by simp only; omega, by simp only; omega⟩ (by simp only; omega)) ⟨rfl, rfl, rfl, trivial⟩
       ·have hst : labStep L n = L := if_neg h36
        refine RK.skip ?_
        refine RK.inBlock ?_
        refine RK.region ?_
        iterate 2 refine RL.p rfl rfl ?_
        refine RL.re (d := 17) rfl rfl (succ_i64 (by omega)) ?_
        refine GG ?_
        exact RK.back (ih (i + 1, _) _ ⟨by simp only; rw [hstep, hst]; exact hr.mod hg3 (fun _ _ h => h), hfr, hg.trans hg3, by simp only; omega, by simp only; omega⟩ (by simp only; omega)) ⟨rfl, rfl, rfl, trivial⟩
      ·refine DT.op rfl (.free rfl) rfl rfl (Does.alloc i79) ?_
       rintro _ w2 ⟨b2, rfl, hn2⟩
       refine ⟨(Mod.drew _ _).trans hn2.grow, ?_⟩
       refine DT.op rfl (.free rfl) rfl rfl (Does.call rfl e84 (vlK_ok _ _)) ?_
       rintro _ _ ⟨rfl, rfl⟩
       refine ⟨(Mod.drew _ _).trans hn2.grow, ?_⟩
       refine DT.qf rfl (.free rfl) rfl rfl (Yld.build (v := .agg #[.string (labOf n).name, .string (labOf n).value]) rfl (fun w => by kernel_rfl)) ?_
       refine DT.op' rfl (.free rfl) rfl (Does.storeN i79 rfl rfl rfl rfl hn2.blk (Nat.le_refl 2)) ?_
       rintro _ w3 ⟨hb3, hm3, _⟩
       have hB3 : Blk w3 b2 79 [.string (labOf n).name, .string (labOf n).value] := hb3
       have hg3 : Grow w' w3 := ((Mod.drew No _).trans hn2.grow).then hm3 (fun y hy e => by have e' : y = b2 := e; have := hn2.at_; simp only [World.drew] at this; omega)
       refine ⟨hg3, ?_⟩
       refine DT.done ?_
       refine GG ?_
       refine QQ (Yld.fieldAddr fo79_0 rfl) ?_
       refine QQ (Yld.load p9 rfl (at1 (hB3.cell rfl))) ?_
       refine OP (Does.call rfl e85 (getLabel_ok No L _ _ _ (Sl.own (hr.mod hg3 (fun _ _ h => h)) (fun _ _ h => h)))) ?_
       rintro _ _ ⟨rfl, rfl⟩
       refine GG ?_
       refine CD (fun h36 => ?_) (fun h36 => ?_)
       ·have hst : labStep L n = L ++ [labOf n] := if_pos h36
        refine GG ?_
        refine QQ (Yld.loadN (cs := [.string (labOf n).name, .string (labOf n).value]) a79 rfl (atN (fun j u hj => by rw [Nat.zero_add]; exact hB3.cell' hj))) ?_
        refine OP (Does.slice1 u33 i79 rfl rfl rfl rfl rfl) ?_
        rintro _ w4 ⟨b4, rfl, hn4⟩
        refine OP (Does.append u33 i79 rfl rfl rfl rfl rfl ((hr.mod hg3 (fun _ _ h => h)).mod hn4.grow (fun _ _ h => h)) (Sl.new hn4 2 1 rfl (by omega) (fun h => h)) (rfl) (by omega)) ?_
        rintro u5 w5 ⟨hr5, hm5, hu5⟩
        have hs3 := hg3.size
        have hs0 := hg.size
        refine RL.p rfl rfl ?_
        refine RL.done ?_
        refine RK.inBlock ?_
        refine RK.region ?_
        iterate 2 refine RL.p rfl rfl ?_
        refine RL.re (d := 17) rfl rfl (succ_i64 (by omega)) ?_
        refine GG ?_
        exact RK.back (ih (i + 1, u5) _ ⟨by
          simp only
          rw [hstep, hst]
          have e1 : (L ++ [labOf n]).flatMap labC = L.flatMap labC ++ (Value.agg #[.string (labOf n).name, .string (labOf n).value]).cells.toList := by simp [labC, Value.cells]
          rw [e1, List.length_append]; exact hr5, fun b e => by
          rcases hu5 with h1 | h1
          ·exact hfr b (h1 ▸ e)
          ·simp only at e; rw [h1] at e; cases e; have := hn4.grow.size; omega, ((hg.trans hg3).trans hn4.grow).then hm5 (fun b hb e => by have := hfr b e; omega), by simp only; omega, by simp only; omega⟩ (by simp only; omega)) ⟨rfl, rfl, rfl, trivial⟩
       ·have hst : labStep L n = L := if_neg h36
        refine RK.skip ?_
        refine RK.inBlock ?_
        refine RK.region ?_
        iterate 2 refine RL.p rfl rfl ?_
        refine RL.re (d := 17) rfl rfl (succ_i64 (by omega)) ?_
        refine GG ?_
        exact RK.back (ih (i + 1, _) _ ⟨by simp only; rw [hstep, hst]; exact hr.mod hg3 (fun _ _ h => h), hfr, hg.trans hg3, by simp only; omega, by simp only; omega⟩ (by simp only; omega)) ⟨rfl, rfl, rfl, trivial⟩
     ·refine DT.op rfl (.free rfl) rfl rfl (Does.alloc i79) ?_
      rintro _ w2 ⟨b2, rfl, hn2⟩
      refine ⟨(Mod.drew _ _).trans hn2.grow, ?_⟩
      refine DT.op rfl (.free rfl) rfl rfl (Does.call rfl e83 (within_ok (n.tdiv 5) 0 6 (by omega) (by omega) (by omega) _)) ?_
      rintro _ _ ⟨rfl, rfl⟩
      refine ⟨(Mod.drew _ _).trans hn2.grow, ?_⟩
      refine DT.op rfl (.free rfl) rfl rfl (Does.call rfl e84 (vlK_ok _ _)) ?_
      rintro _ _ ⟨rfl, rfl⟩
      refine ⟨(Mod.drew _ _).trans hn2.grow, ?_⟩
      refine DT.qf rfl (.free rfl) rfl rfl (Yld.build (v := .agg #[.string (labOf n).name, .string (labOf n).value]) rfl (fun w => by kernel_rfl)) ?_
      refine DT.op' rfl (.free rfl) rfl (Does.storeN i79 rfl rfl rfl rfl hn2.blk (Nat.le_refl 2)) ?_
      rintro _ w3 ⟨hb3, hm3, _⟩
      have hB3 : Blk w3 b2 79 [.string (labOf n).name, .string (labOf n).value] := hb3
      have hg3 : Grow w' w3 := ((Mod.drew No _).trans hn2.grow).then hm3 (fun y hy e => by have e' : y = b2 := e; have := hn2.at_; simp only [World.drew] at this; omega)
      refine ⟨hg3, ?_⟩
      refine DT.done ?_
      refine GG ?_
      refine QQ (Yld.fieldAddr fo79_0 rfl) ?_
      refine QQ (Yld.load p9 rfl (at1 (hB3.cell rfl))) ?_
      refine OP (Does.call rfl e85 (getLabel_ok No L _ _ _ (Sl.own (hr.mod hg3 (fun _ _ h => h)) (fun _ _ h => h)))) ?_
      rintro _ _ ⟨rfl, rfl⟩
      refine GG ?_
      refine CD (fun h36 => ?_) (fun h36 => ?_)
      ·have hst : labStep L n = L ++ [labOf n] := if_pos h36
       refine GG ?_
       refine QQ (Yld.loadN (cs := [.string (labOf n).name, .string (labOf n).value]) a79 rfl (atN (fun j u hj => by rw [Nat.zero_add]; exact hB3.cell' hj))) ?_
       refine OP (Does.slice1 u33 i79 rfl rfl rfl rfl rfl) ?_
       rintro _ w4 ⟨b4, rfl, hn4⟩
       refine OP (Does.append u33 i79 rfl rfl rfl rfl rfl ((hr.mod hg3 (fun _ _ h => h)).mod hn4.grow (fun _ _ h => h)) (Sl.new hn4 2 1 rfl (by omega) (fun h => h)) (rfl) (by omega)) ?_
       rintro u5 w5 ⟨hr5, hm5, hu5⟩
       have hs3 := hg3.size
       have hs0 := hg.size
       refine RL.p rfl rfl ?_
       refine RL.done ?_
       refine RK.inBlock ?_
       refine RK.region ?_
       iterate 2 refine RL.p rfl rfl ?_
       refine RL.re (d := 17) rfl rfl (succ_i64 (by omega)) ?_
       refine GG ?_
       exact RK.back (ih (i + 1, u5) _ ⟨by
         simp only
         rw [hstep, hst]
         have e1 : (L ++ [labOf n]).flatMap labC = L.flatMap labC ++ (Value.agg #[.string (labOf n).name, .string (labOf n).value]).cells.toList := by simp [labC, Value.cells]
         rw [e1, List.length_append]; exact hr5, fun b e => by
         rcases hu5 with h1 | h1
         ·exact hfr b (h1 ▸ e)
         ·simp only at e; rw [h1] at e; cases e; have := hn4.grow.size; omega, ((hg.trans hg3).trans hn4.grow).then hm5 (fun b hb e => by have := hfr b e; omega), by simp only; omega, by simp only; omega⟩ (by simp only; omega)) ⟨rfl, rfl, rfl, trivial⟩
      ·have hst : labStep L n = L := if_neg h36
       refine RK.skip ?_
       refine RK.inBlock ?_
       refine RK.region ?_
       iterate 2 refine RL.p rfl rfl ?_
       refine RL.re (d := 17) rfl rfl (succ_i64 (by omega)) ?_
       refine GG ?_
       exact RK.back (ih (i + 1, _) _ ⟨by simp only; rw [hstep, hst]; exact hr.mod hg3 (fun _ _ h => h), hfr, hg.trans hg3, by simp only; omega, by simp only; omega⟩ (by simp only; omega)) ⟨rfl, rfl, rfl, trivial⟩
    ·refine DT.op rfl (.free rfl) rfl rfl (Does.alloc i79) ?_
     rintro _ w2 ⟨b2, rfl, hn2⟩
     refine ⟨(Mod.drew _ _).trans hn2.grow, ?_⟩
     refine DT.op rfl (.free rfl) rfl rfl (Does.call rfl e80 (nmK_ok _ _)) ?_
     rintro _ _ ⟨rfl, rfl⟩
     refine ⟨(Mod.drew _ _).trans hn2.grow, ?_⟩
     refine DT.op rfl (.free rfl) rfl rfl (Does.call rfl e83 (within_ok (n.tdiv 5) 0 6 (by omega) (by omega) (by omega) _)) ?_
     rintro _ _ ⟨rfl, rfl⟩
     refine ⟨(Mod.drew _ _).trans hn2.grow, ?_⟩
     refine DT.op rfl (.free rfl) rfl rfl (Does.call rfl e84 (vlK_ok _ _)) ?_
     rintro _ _ ⟨rfl, rfl⟩
     refine ⟨(Mod.drew _ _).trans hn2.grow, ?_⟩
     refine DT.qf rfl (.free rfl) rfl rfl (Yld.build (v := .agg #[.string (labOf n).name, .string (labOf n).value]) rfl (fun w => by kernel_rfl)) ?_
     refine DT.op' rfl (.free rfl) rfl (Does.storeN i79 rfl rfl rfl rfl hn2.blk (Nat.le_refl 2)) ?_
     rintro _ w3 ⟨hb3, hm3, _⟩
     have hB3 : Blk w3 b2 79 [.string (labOf n).name, .string (labOf n).value] := hb3
     have hg3 : Grow w' w3 := ((Mod.drew No _).trans hn2.grow).then hm3 (fun y hy e => by have e' : y = b2 := e; have := hn2.at_; simp only [World.drew] at this; omega)
     refine ⟨hg3, ?_⟩
     refine DT.done ?_
     refine GG ?_
     refine QQ (Yld.fieldAddr fo79_0 rfl) ?_
     refine QQ (Yld.load p9 rfl (at1 (hB3.cell rfl))) ?_
     refine OP (Does.call rfl e85 (getLabel_ok No L _ _ _ (Sl.own (hr.mod hg3 (fun _ _ h => h)) (fun _ _ h => h)))) ?_
     rintro _ _ ⟨rfl, rfl⟩
     refine GG ?_
     refine CD (fun h36 => ?_) (fun h36 => ?_)
     ·have hst : labStep L n = L ++ [labOf n] := if_pos h36
      refine GG ?_
      refine QQ (Yld.loadN (cs := [.string (labOf n).name, .string (labOf n).value]) a79 rfl (atN (fun j u hj => by rw [Nat.zero_add]; exact hB3.cell' hj))) ?_
      refine OP (Does.slice1 u33 i79 rfl rfl rfl rfl rfl) ?_
      rintro _ w4 ⟨b4, rfl, hn4⟩
      refine OP (Does.append u33 i79 rfl rfl rfl rfl rfl ((hr.mod hg3 (fun _ _ h => h)).mod hn4.grow (fun _ _ h => h)) (Sl.new hn4 2 1 rfl (by omega) (fun h => h)) (rfl) (by omega)) ?_
      rintro u5 w5 ⟨hr5, hm5, hu5⟩
      have hs3 := hg3.size
      have hs0 := hg.size
      refine RL.p rfl rfl ?_
      refine RL.done ?_
      refine RK.inBlock ?_
      refine RK.region ?_
      iterate 2 refine RL.p rfl rfl ?_
      refine RL.re (d := 17) rfl rfl (succ_i64 (by omega)) ?_
      refine GG ?_
      exact RK.back (ih (i + 1, u5) _ ⟨by
        simp only
        rw [hstep, hst]
        have e1 : (L ++ [labOf n]).flatMap labC = L.flatMap labC ++ (Value.agg #[.string (labOf n).name, .string (labOf n).value]).cells.toList := by simp [labC, Value.cells]
        rw [e1, List.length_append]; exact hr5, fun b e => by
        rcases hu5 with h1 | h1
        ·exact hfr b (h1 ▸ e)
        ·simp only at e; rw [h1] at e; cases e; have := hn4.grow.size; omega, ((hg.trans hg3).trans hn4.grow).then hm5 (fun b hb e => by have := hfr b e; omega), by simp only; omega, by simp only; omega⟩ (by simp only; omega)) ⟨rfl, rfl, rfl, trivial⟩
     ·have hst : labStep L n = L := if_neg h36
      refine RK.skip ?_
      refine RK.inBlock ?_
      refine RK.region ?_
      iterate 2 refine RL.p rfl rfl ?_
      refine RL.re (d := 17) rfl rfl (succ_i64 (by omega)) ?_
      refine GG ?_
      exact RK.back (ih (i + 1, _) _ ⟨by simp only; rw [hstep, hst]; exact hr.mod hg3 (fun _ _ h => h), hfr, hg.trans hg3, by simp only; omega, by simp only; omega⟩ (by simp only; omega)) ⟨rfl, rfl, rfl, trivial⟩
   ·refine DT.op rfl (.free rfl) rfl rfl (Does.alloc i79) ?_
    rintro _ w2 ⟨b2, rfl, hn2⟩
    refine ⟨(Mod.drew _ _).trans hn2.grow, ?_⟩
    refine DT.op rfl (.free rfl) rfl rfl (Does.call rfl e83 (within_ok n 0 4 (by omega) (by omega) (by omega) _)) ?_
    rintro _ _ ⟨rfl, rfl⟩
    refine ⟨(Mod.drew _ _).trans hn2.grow, ?_⟩
    refine DT.op rfl (.free rfl) rfl rfl (Does.call rfl e80 (nmK_ok _ _)) ?_
    rintro _ _ ⟨rfl, rfl⟩
    refine ⟨(Mod.drew _ _).trans hn2.grow, ?_⟩
    refine DT.op rfl (.free rfl) rfl rfl (Does.call rfl e83 (within_ok (n.tdiv 5) 0 6 (by omega) (by omega) (by omega) _)) ?_
    rintro _ _ ⟨rfl, rfl⟩
    refine ⟨(Mod.drew _ _).trans hn2.grow, ?_⟩
    refine DT.op rfl (.free rfl) rfl rfl (Does.call rfl e84 (vlK_ok _ _)) ?_
    rintro _ _ ⟨rfl, rfl⟩
    refine ⟨(Mod.drew _ _).trans hn2.grow, ?_⟩
    refine DT.qf rfl (.free rfl) rfl rfl (Yld.build (v := .agg #[.string (labOf n).name, .string (labOf n).value]) rfl (fun w => by kernel_rfl)) ?_
    refine DT.op' rfl (.free rfl) rfl (Does.storeN i79 rfl rfl rfl rfl hn2.blk (Nat.le_refl 2)) ?_
    rintro _ w3 ⟨hb3, hm3, _⟩
    have hB3 : Blk w3 b2 79 [.string (labOf n).name, .string (labOf n).value] := hb3
    have hg3 : Grow w' w3 := ((Mod.drew No _).trans hn2.grow).then hm3 (fun y hy e => by have e' : y = b2 := e; have := hn2.at_; simp only [World.drew] at this; omega)
    refine ⟨hg3, ?_⟩
    refine DT.done ?_
    refine GG ?_
    refine QQ (Yld.fieldAddr fo79_0 rfl) ?_
    refine QQ (Yld.load p9 rfl (at1 (hB3.cell rfl))) ?_
    refine OP (Does.call rfl e85 (getLabel_ok No L _ _ _ (Sl.own (hr.mod hg3 (fun _ _ h => h)) (fun _ _ h => h)))) ?_
    rintro _ _ ⟨rfl, rfl⟩
    refine GG ?_
    refine CD (fun h36 => ?_) (fun h36 => ?_)
    ·have hst : labStep L n = L ++ [labOf n] := if_pos h36
     refine GG ?_
     refine QQ (Yld.loadN (cs := [.string (labOf n).name, .string (labOf n).value]) a79 rfl (atN (fun j u hj => by rw [Nat.zero_add]; exact hB3.cell' hj))) ?_
     refine OP (Does.slice1 u33 i79 rfl rfl rfl rfl rfl) ?_
     rintro _ w4 ⟨b4, rfl, hn4⟩
     refine OP (Does.append u33 i79 rfl rfl rfl rfl rfl ((hr.mod hg3 (fun _ _ h => h)).mod hn4.grow (fun _ _ h => h)) (Sl.new hn4 2 1 rfl (by omega) (fun h => h)) (rfl) (by omega)) ?_
     rintro u5 w5 ⟨hr5, hm5, hu5⟩
     have hs3 := hg3.size
     have hs0 := hg.size
     refine RL.p rfl rfl ?_
     refine RL.done ?_
     refine RK.inBlock ?_
     refine RK.region ?_
     iterate 2 refine RL.p rfl rfl ?_
     refine RL.re (d := 17) rfl rfl (succ_i64 (by omega)) ?_
     refine GG ?_
     exact RK.back (ih (i + 1, u5) _ ⟨by
       simp only
       rw [hstep, hst]
       have e1 : (L ++ [labOf n]).flatMap labC = L.flatMap labC ++ (Value.agg #[.string (labOf n).name, .string (labOf n).value]).cells.toList := by simp [labC, Value.cells]
       rw [e1, List.length_append]; exact hr5, fun b e => by
       rcases hu5 with h1 | h1
       ·exact hfr b (h1 ▸ e)
       ·simp only at e; rw [h1] at e; cases e; have := hn4.grow.size; omega, ((hg.trans hg3).trans hn4.grow).then hm5 (fun b hb e => by have := hfr b e; omega), by simp only; omega, by simp only; omega⟩ (by simp only; omega)) ⟨rfl, rfl, rfl, trivial⟩
    ·have hst : labStep L n = L := if_neg h36
     refine RK.skip ?_
     refine RK.inBlock ?_
     refine RK.region ?_
     iterate 2 refine RL.p rfl rfl ?_
     refine RL.re (d := 17) rfl rfl (succ_i64 (by omega)) ?_
     refine GG ?_
     exact RK.back (ih (i + 1, _) _ ⟨by simp only; rw [hstep, hst]; exact hr.mod hg3 (fun _ _ h => h), hfr, hg.trans hg3, by simp only; omega, by simp only; omega⟩ (by simp only; omega)) ⟨rfl, rfl, rfl, trivial⟩
  ·have hL := hdone (by omega)
   rw [hL] at hr hLle
   obtain ⟨hraw, h1r, h5r⟩ := raw_ok xs
   refine RK.exit rfl ?_
   refine GG ?_
   refine QQ (Yld.lenSl u33 rfl) ?_
   refine GG ?_
   refine CD (fun h43 => ?_) (fun h43 => ?_)
   ·have hz : (rawS xs).length = 0 := by rw [hL] at h43; omega
    have he : rawS xs = [] := List.eq_nil_of_length_eq_zero hz
    have hr' : rawS' xs = [sevA] := by unfold rawS'; rw [if_pos he]
    rw [he] at hr
    rw [hr'] at hraw
    have hlab : labelsS xs = sortS [sevA] := by unfold labelsS; rw [hr']
    refine GG ?_
    refine QQ (Yld.build (v := .agg #[.string ⟨#[115, 101, 118]⟩, .string ⟨#[97]⟩]) rfl (fun w => by kernel_rfl)) ?_
    refine OP (Does.slice1 u33 i79 rfl rfl rfl rfl rfl) ?_
    rintro _ w6 ⟨b6, rfl, hn6⟩
    have hr6 : Row w6 79 2 (.slice adu ((xs.take i).foldl labStep []).length cu) ((xs.take i).foldl labStep []).length [] := by rw [hL, he]; exact hr.mod hn6.grow (fun _ _ h => h)
    refine OP (Does.append u33 i79 rfl rfl rfl rfl rfl (hr6) (Sl.new hn6 2 1 rfl (by omega) (fun h => h)) (rfl) (by rw [hL]; omega)) ?_
    rintro u7 w7 ⟨hr7, hm7, hu7⟩
    have hg7 : Grow w w7 := (hg.trans hn6.grow).then hm7 (fun b hb e => by have := hfr b e; omega)
    refine GG ?_
    refine OP (Does.call rfl e86 (hfin u7 _ [sevA] (by have h9 := hr7; rw [hL, he] at h9; simpa [labC, sevA, Value.cells] using h9) hraw (by simp) (by simp))) ?_
    rintro _ w8 ⟨ad8, c8, rfl, hr8, hf8, hg8⟩
    refine GG ?_
    refine RK.ret_of Tryz.func31 (res1 rfl rfl) ?_ _
    exact ⟨_, rfl, ad8, c8, by rw [hlab], by rw [hlab]; exact hr8, fun b e => by have := hf8 b e; have := hg7.size; omega, hg7.trans hg8⟩
   ·have he : rawS xs ≠ [] := fun e => h43 (by rw [hL, e]; rfl)
    have hr' : rawS' xs = rawS xs := by unfold rawS'; rw [if_neg he]
    rw [hr'] at hraw h1r h5r
    have hlab : labelsS xs = sortS (rawS xs) := by unfold labelsS; rw [hr']
    refine GG ?_
    refine OP (Does.call rfl e86 (hfin _ _ (rawS xs) (by rw [hL]; exact hr) hraw h1r h5r)) ?_
    rintro _ w8 ⟨ad8, c8, rfl, hr8, hf8, hg8⟩
    refine GG ?_
    refine RK.ret_of Tryz.func31 (res1 rfl rfl) ?_ _
    exact ⟨_, rfl, ad8, c8, by rw [hlab], by rw [hlab]; exact hr8, fun b e => by have := hf8 b e; have := hg.size; omega, hg.trans hg8⟩
 ·iterate 2 refine RL.no (.no rfl rfl rfl rfl) rfl rfl ?_
  refine GG ?_
  refine RK.condF rfl ?_
  have hL := hdone (by omega)
  rw [hL] at hr hLle
  obtain ⟨hraw, h1r, h5r⟩ := raw_ok xs
  refine RK.exit rfl ?_
  refine GG ?_
  refine QQ (Yld.lenSl u33 rfl) ?_
  refine GG ?_
  refine CD (fun h43 => ?_) (fun h43 => ?_)
  ·have hz : (rawS xs).length = 0 := by rw [hL] at h43; omega
   have he : rawS xs = [] := List.eq_nil_of_length_eq_zero hz
   have hr' : rawS' xs = [sevA] := by unfold rawS'; rw [if_pos he]
   rw [he] at hr
   rw [hr'] at hraw
   have hlab : labelsS xs = sortS [sevA] := by unfold labelsS; rw [hr']
   refine GG ?_
   refine QQ (Yld.build (v := .agg #[.string ⟨#[115, 101, 118]⟩, .string ⟨#[97]⟩]) rfl (fun w => by kernel_rfl)) ?_
   refine OP (Does.slice1 u33 i79 rfl rfl rfl rfl rfl) ?_
   rintro _ w6 ⟨b6, rfl, hn6⟩
   have hr6 : Row w6 79 2 (.slice adu ((xs.take i).foldl labStep []).length cu) ((xs.take i).foldl labStep []).length [] := by rw [hL, he]; exact hr.mod hn6.grow (fun _ _ h => h)
   refine OP (Does.append u33 i79 rfl rfl rfl rfl rfl (hr6) (Sl.new hn6 2 1 rfl (by omega) (fun h => h)) (rfl) (by rw [hL]; omega)) ?_
   rintro u7 w7 ⟨hr7, hm7, hu7⟩
   have hg7 : Grow w w7 := (hg.trans hn6.grow).then hm7 (fun b hb e => by have := hfr b e; omega)
   refine GG ?_
   refine OP (Does.call rfl e86 (hfin u7 _ [sevA] (by have h9 := hr7; rw [hL, he] at h9; simpa [labC, sevA, Value.cells] using h9) hraw (by simp) (by simp))) ?_
   rintro _ w8 ⟨ad8, c8, rfl, hr8, hf8, hg8⟩
   refine GG ?_
   refine RK.ret_of Tryz.func31 (res1 rfl rfl) ?_ _
   exact ⟨_, rfl, ad8, c8, by rw [hlab], by rw [hlab]; exact hr8, fun b e => by have := hf8 b e; have := hg7.size; omega, hg7.trans hg8⟩
  ·have he : rawS xs ≠ [] := fun e => h43 (by rw [hL, e]; rfl)
   have hr' : rawS' xs = rawS xs := by unfold rawS'; rw [if_neg he]
   rw [hr'] at hraw h1r h5r
   have hlab : labelsS xs = sortS (rawS xs) := by unfold labelsS; rw [hr']
   refine GG ?_
   refine OP (Does.call rfl e86 (hfin _ _ (rawS xs) (by rw [hL]; exact hr) hraw h1r h5r)) ?_
   rintro _ w8 ⟨ad8, c8, rfl, hr8, hf8, hg8⟩
   refine GG ?_
   refine RK.ret_of Tryz.func31 (res1 rfl rfl) ?_ _
   exact ⟨_, rfl, ad8, c8, by rw [hlab], by rw [hlab]; exact hr8, fun b e => by have := hf8 b e; have := hg.size; omega, hg.trans hg8⟩
end Go.Proofs.YthbjfhhiajihfaaGreat
set_option linter.unusedVariables false
set_option linter.unusedSimpArgs false
set_option maxHeartbeats 800000
set_option maxRecDepth 100000
namespace Go.Proofs.YthbjfhhiajihfaaGreat
open Go Go.X
theorem sameLabels_ok (M M' : Nat → Prop) (l1 l2 : List Lab) (v1 v2 : Value) (w : World) (hv1 : SlL M w v1 l1) (hv2 : SlL M' w v2 l2) :
    Fx Tryz.prog 184 [v1, v2] w (fun u w' => u = .bool (decide (l1 = l2)) ∧ Grow w w') := by
  obtain ⟨a1, c1, rfl⟩ := hv1.shape
  obtain ⟨a2, c2, rfl⟩ := hv2.shape
  have hbig := hv1.big
  refine enter Tryz.func184 rfl rfl rfl _ (Pick.sub (l := [0, 1]) (.cons rfl (.cons rfl .nil))) ?_
  refine RK.seq ?_
  refine RK.region ?_
  refine RL.p rfl rfl ?_
  refine RL.done ?_
  iterate 2 refine RK.seq ?_
  refine RK.region ?_
  refine RL.p rfl rfl ?_
  refine RL.q (.free rfl) rfl rfl (Yld.lenSl u33 rfl) ?_
  refine RL.p rfl rfl ?_
  refine RL.q (.free rfl) rfl rfl (Yld.lenSl u33 rfl) ?_
  refine RL.p rfl rfl ?_
  refine RL.done ?_
  first | refine RK.condD rfl (fun h10 => ?_) (fun h10 => ?_) | refine RK.condN rfl (fun h10 => ?_) (fun h10 => ?_) | refine RK.cond rfl (fun h10 => ?_) (fun h10 => ?_)
  · refine RK.seq ?_
    refine RK.region ?_
    refine RL.p rfl rfl ?_
    refine RL.done ?_
    refine RK.ret_of Tryz.func184 (res1 rfl rfl) ?_ _
    exact ⟨_, rfl, congrArg _ (by rw [eq_comm, decide_eq_false_iff_not]; rintro rfl; simp at h10), Mod.refl _ _⟩
  · refine RK.skip ?_
    iterate 2 refine RK.seq ?_
    refine RK.region ?_
    refine RL.p rfl rfl ?_
    refine RL.done ?_
    refine RK.block ?_
    refine RK.loop (fun k : Nat => [(0, .slice a1 l1.length c1), (1, .slice a2 l2.length c2), (5, .int .i64 k)]) (fun k w' => Grow w w' ∧ k ≤ l1.length ∧ l1.take k = l2.take k) (fun k => l1.length - k) 0 ⟨rfl, rfl, rfl, trivial⟩ ⟨Mod.refl _ _, by omega, by simp⟩ (fun k w' hI ih => ?_)
    obtain ⟨hg, hk, htk⟩ := hI
    have hl : l1.length = l2.length := by simp at h10; omega
    iterate 2 refine RK.seq ?_
    refine RK.region ?_
    iterate 2 refine RL.p rfl rfl ?_
    refine RL.q (.free rfl) rfl rfl (Yld.lenSl u33 rfl) ?_
    refine RL.p rfl rfl ?_
    refine RL.done ?_
    first | refine RK.condD rfl (fun h14 => ?_) (fun h14 => ?_) | refine RK.condN rfl (fun h14 => ?_) (fun h14 => ?_) | refine RK.cond rfl (fun h14 => ?_) (fun h14 => ?_)
    · obtain ⟨x, hx⟩ : ∃ x, l1[k]? = some x := ⟨l1[k]'(by omega), List.getElem?_eq_getElem (by omega)⟩
      obtain ⟨y, hy⟩ : ∃ y, l2[k]? = some y := ⟨l2[k]'(by omega), List.getElem?_eq_getElem (by omega)⟩
      obtain ⟨b1, o1, c1', he1, _, _, hc1⟩ := hv1.elem labC_len hx
      obtain ⟨b2, o2, c2', he2, _, _, hc2⟩ := hv2.elem labC_len hy
      cases he1
      cases he2
      refine RK.skip ?_
      refine RK.seq ?_
      refine RK.block ?_
      refine RK.seq ?_
      refine RK.drawM No [(0, false), (1, false), (2, false), (3, false), (4, false), (5, false), (6, false), (7, false), (8, false)] [] mixed (by kernel_rfl) ?_
      iterate 2 refine DL.p rfl rfl rfl ?_
      refine DL.qf rfl (.free rfl) rfl rfl (Yld.indexAddrN u33 i79 rfl rfl (by omega)) ?_
      refine DL.q rfl (.free rfl) rfl rfl rfl (Yld.loadN (cs := [.string x.name, .string x.value]) a79 rfl (atNM (fun j u hj => hg.cell (hc1 j u hj) (fun h => h)) (id))) (Mod.drew _ _) ?_
      iterate 2 refine DL.p rfl rfl rfl ?_
      refine DL.qf rfl (.free rfl) rfl rfl (Yld.indexAddrN u33 i79 rfl rfl (by omega)) ?_
      refine DL.q rfl (.free rfl) rfl rfl rfl (Yld.loadN (cs := [.string y.name, .string y.value]) a79 rfl (atNM (fun j u hj => hg.cell (hc2 j u hj) (fun h => h)) (id))) (Mod.drew _ _) ?_
      refine DL.qf rfl (.free rfl) rfl rfl (Yld.neqPair pair79 rfl rfl) ?_
      refine DL.done ?_
      first | refine RK.condD rfl (fun h25 => ?_) (fun h25 => ?_) | refine RK.condN rfl (fun h25 => ?_) (fun h25 => ?_) | refine RK.cond rfl (fun h25 => ?_) (fun h25 => ?_)
      · refine RK.seq ?_
        refine RK.region ?_
        refine RL.p rfl rfl ?_
        refine RL.done ?_
        refine RK.ret_of Tryz.func184 (res1 rfl rfl) ?_ _
        exact ⟨_, rfl, congrArg _ (by rw [eq_comm, decide_eq_false_iff_not]; rintro rfl; rw [hx] at hy; cases hy; exact h25 ⟨rfl, rfl⟩), hg.trans (Mod.drew _ _)⟩
      · refine RK.skip ?_
        refine RK.inBlock ?_
        refine RK.region ?_
        iterate 2 refine RL.p rfl rfl ?_
        refine RL.re (d := 16) rfl rfl (succ_i64 (by omega)) ?_
        refine RL.p rfl rfl ?_
        refine RL.done ?_
        exact RK.back (ih (k + 1) _ ⟨hg.trans (Mod.drew _ _), by omega, take_snoc_eq htk hx (by rw [lab_eq.1 h25]; exact hy)⟩ (by omega)) ⟨rfl, rfl, rfl, trivial⟩
    · refine RK.exit rfl ?_
      refine RK.seq ?_
      refine RK.region ?_
      refine RL.p rfl rfl ?_
      refine RL.done ?_
      refine RK.ret_of Tryz.func184 (res1 rfl rfl) ?_ _
      exact ⟨_, rfl, congrArg _ (by
          have e1 : k = l1.length := by omega
          have h1 : l1.take k = l1 := List.take_of_length_le (by omega)
          have h2 : l2.take k = l2 := List.take_of_length_le (by omega)
          rw [h1, h2] at htk; simp [htk]), hg⟩
theorem bits1_ok (b : Nat) (w : World) : Fx Tryz.prog 120 [.float .f64 b] w (fun v w' => v = .int .u64 (bitsS b) ∧ w = w') := by
 refine enter Tryz.func120 rfl rfl rfl _ (Pick.sub (l := [0]) (.cons rfl .nil)) ?_
 refine GG ?_
 refine CD (fun h5 => ?_) (fun h5 => ?_)
 ·refine GG ?_
  refine RK.ret_of Tryz.func120 (res1 rfl rfl) ?_ _
  exact ⟨_, rfl, by unfold bitsS nanS; rw [show Ieee.double.order b b = FloatKind.f64.format.order b b from rfl]; simp_all, rfl⟩
 ·refine GG ?_
  refine QQ (Yld.callx rfl (fun w => x169 _ w)) ?_
  refine GG ?_
  refine RK.ret_of Tryz.func120 (res1 rfl rfl) ?_ _
  exact ⟨_, rfl, by unfold bitsS nanS; rw [show Ieee.double.order b b = FloatKind.f64.format.order b b from rfl]; simp_all, rfl⟩
theorem find_self (ls : List Lab) : findS [ls] ls = some 0 := by simp [findS]
section
variable (ls : List Lab) (his : isS ls = true) (u v : Nat)
def vS1 : St := (postS (St.new 3) ls u).1
def vS2 : St := (postS (vS1 ls u) ls v).1
def vS3 : St := (resolveS (vS2 ls u v) 1).1
def vS4 : St := (postS (vS3 ls u v) ls u).1
include his
theorem v1 : postS (St.new 3) ls u = (vS1 ls u, 1, true, 0) ∧ (vS1 ls u).al = [(1, ls, canS u)] ∧ (vS1 ls u).last = 1 ∧ (vS1 ls u).out = [1] ∧ (vS1 ls u).most = 3 := by
 have hf : fullS (St.new 3).most (St.new 3).last (St.new 3).out = false := by decide
 have hn : findS ((St.new 3).al.map (·.2.1)) ls = none := rfl
 have e : postS (St.new 3) ls u = (⟨(St.new 3).most, (St.new 3).last + 1, (St.new 3).out ++ [(St.new 3).last + 1], (St.new 3).al ++ [((St.new 3).last + 1, ls, canS u)], putM (St.new 3).has ((St.new 3).last + 1) ls, addRows (St.new 3).rows ((St.new 3).last + 1) ls⟩, (St.new 3).last + 1, true, 0) := by
  unfold postS; rw [if_neg (by simp [his]), hn]; simp [hf]
 unfold vS1
 rw [e]
 exact ⟨rfl, rfl, rfl, rfl, rfl⟩
theorem v2 : postS (vS1 ls u) ls v = (vS2 ls u v, 1, false, 0) ∧ (vS2 ls u v).al = [(1, ls, canS v)] ∧ (vS2 ls u v).last = 1 ∧ (vS2 ls u v).out = [1] ∧ (vS2 ls u v).most = 3 := by
 obtain ⟨_, h1, h2, h3, h4⟩ := v1 ls his u
 have hn : findS ((vS1 ls u).al.map (·.2.1)) ls = some 0 := by rw [h1]; exact find_self ls
 have e : postS (vS1 ls u) ls v = ({ vS1 ls u with al := (vS1 ls u).al.modify 0 fun a => (a.1, a.2.1, canS v) }, (((vS1 ls u).al[0]?).map (·.1)).getD 0, false, 0) := by
  unfold postS; rw [if_neg (by simp [his]), hn]
 unfold vS2
 rw [e]
 refine ⟨by rw [h1]; rfl, by simp only; rw [h1]; rfl, h2, h3, h4⟩
theorem v3 : resolveS (vS2 ls u v) 1 = (vS3 ls u v, 0) ∧ (vS3 ls u v).al = [] ∧ (vS3 ls u v).last = 1 ∧ (vS3 ls u v).out = [] ∧ (vS3 ls u v).most = 3 := by
 obtain ⟨_, h1, h2, h3, h4⟩ := v2 ls his u v
 have hp : placeS (vS2 ls u v) 1 = some 0 := by unfold placeS; rw [h1]; rfl
 have e : resolveS (vS2 ls u v) 1 = ({ vS2 ls u v with al := (vS2 ls u v).al.eraseIdx 0, out := giveS (vS2 ls u v).out 1, has := cutM (vS2 ls u v).has 1, rows := dropRows (vS2 ls u v).rows 1 ((lookM (vS2 ls u v).has 1).getD []) }, 0) := by
  unfold resolveS; rw [hp]
 unfold vS3
 rw [e]
 refine ⟨rfl, by simp only; rw [h1]; rfl, h2, ?_, h4⟩
 simp only
 rw [h3]
 have : ∀ x, x ∉ giveS [1] 1 := fun x hx => by
  unfold giveS at hx
  rw [if_pos (by decide), mem_cutRow] at hx
  simp at hx
 exact List.eq_nil_iff_forall_not_mem.2 this
theorem v4 : postS (vS3 ls u v) ls u = (vS4 ls u v, 2, true, 0) ∧ (vS4 ls u v).al = [(2, ls, canS u)] := by
 obtain ⟨_, h1, h2, h3, h4⟩ := v3 ls his u v
 have hf : fullS (vS3 ls u v).most (vS3 ls u v).last (vS3 ls u v).out = false := by rw [h2, h3, h4]; decide
 have hn : findS ((vS3 ls u v).al.map (·.2.1)) ls = none := by rw [h1]; rfl
 have e : postS (vS3 ls u v) ls u = (⟨(vS3 ls u v).most, (vS3 ls u v).last + 1, (vS3 ls u v).out ++ [(vS3 ls u v).last + 1], (vS3 ls u v).al ++ [((vS3 ls u v).last + 1, ls, canS u)], putM (vS3 ls u v).has ((vS3 ls u v).last + 1) ls, addRows (vS3 ls u v).rows ((vS3 ls u v).last + 1) ls⟩, (vS3 ls u v).last + 1, true, 0) := by
  unfold postS; rw [if_neg (by simp [his]), hn]; simp [hf]
 unfold vS4
 rw [e]
 refine ⟨by rw [h2]; rfl, by simp only; rw [h1, h2]; rfl⟩
theorem v5 : resolveS (vS4 ls u v) 1 = (vS4 ls u v, 5) := by
 obtain ⟨_, h1⟩ := v4 ls his u v
 have hp : placeS (vS4 ls u v) 1 = none := by unfold placeS; rw [h1]; rfl
 unfold resolveS; rw [hp]
end
end Go.Proofs.YthbjfhhiajihfaaGreat
set_option linter.unusedVariables false
set_option linter.unusedSimpArgs false
set_option maxHeartbeats 800000
set_option maxRecDepth 100000
namespace Go.Proofs.YthbjfhhiajihfaaGreat
open Go Go.X
theorem owns_of {w : World} {m : Nat} {l : List (Int × Value)} (h : MapAt (Value.int .i64) w m l) (hn : (l.map (·.1)).Nodup) (hr : ∀ t ∈ l, -9223372036854775808 ≤ t.1 ∧ t.1 ≤ 9223372036854775807) (hl : l.length ≤ maxLen) :
  ∃ D : DataW Unit, w.ownsMap Tryz.prog 3 (fun _ => some (.lit (.bool true), [])) m l.length D ∧ (intKeys D).Perm (l.map (·.1)) ∧ Maps.size D = l.length := by
 obtain ⟨es, c, h1, h2, h3, h4⟩ := h.out
 have hlen : es.toList.length = l.length := by have := congrArg List.length h2; simpa using this
 have hkey : ∀ x : Int, -9223372036854775808 ≤ x ∧ x ≤ 9223372036854775807 → keyOf Tryz.prog 3 (.int .i64 x) = some (.int .i64 x) := fun x hx => by
  simp [keyOf, Tryz.underlying3, mapKey, Lit.wf, IntKind.min, IntKind.max, IntKind.signed, IntKind.bits]
  omega
 have hread : ∀ x ∈ es.toList, ∃ k : Int, x.key = .int .i64 k ∧ -9223372036854775808 ≤ k ∧ k ≤ 9223372036854775807 := fun x hx => by
  have h5 : (x.key, x.val) ∈ l.map fun p => (Value.int .i64 p.1, p.2) := by rw [← h2]; exact List.mem_map_of_mem (f := fun e : MapEntry => (e.key, e.val)) hx
  obtain ⟨p, hp, e⟩ := List.mem_map.1 h5
  simp only [Prod.mk.injEq] at e
  exact ⟨p.1, e.1.symm, hr p hp⟩
 have hrd : ∀ x ∈ es.toList, ∀ k : Int, x.key = .int .i64 k → WideElems.rd (H := Unit) Tryz.prog 3 (fun _ => some (.lit (.bool true), [])) x = some (.int .i64 k, .lit (.bool true)) := fun x hx k hk => by
  obtain ⟨k', hk', h6⟩ := hread x hx
  rw [hk] at hk'
  cases hk'
  simp [WideElems.rd, hk, hkey k h6]
 have hkeys : es.toList.map (·.key) = (l.map (·.1)).map (Value.int .i64) := by
  have := congrArg (List.map fun p : Value × Value => p.1) h2
  rw [List.map_map, List.map_map] at this
  rw [List.map_map]
  exact this
 have hg : es.toList.map (WideElems.rg (H := Unit) Tryz.prog 3 fun _ => some (.lit (.bool true), [])) = (l.map (·.1)).map fun k => ((Lit.int .i64 k : Lit), (DataW.lit (.bool true) : DataW Unit)) := by
  apply List.ext_getElem?
  intro i
  have h7 := congrArg (fun q => q[i]?) hkeys
  simp only [List.getElem?_map] at h7 ⊢
  cases he : es.toList[i]? with
  | none => rw [he] at h7; cases hll : l[i]? with
   | none => rfl
   | some p => rw [hll] at h7; simp at h7
  | some x =>
   rw [he] at h7
   cases hll : l[i]? with
   | none => rw [hll] at h7; simp at h7
   | some p =>
    rw [hll] at h7
    simp at h7
    have := hrd x (List.mem_of_getElem? he) p.1 h7
    simp [WideElems.rg, this]
 have hnd : (es.toList.map (·.key)).Nodup := by
  rw [hkeys]
  exact List.pairwise_map.2 (hn.imp fun {a b} hne e => hne (by simpa using e))
 have hsz : es.size = l.length := by rw [← hlen]; simp
 refine ⟨.map ((es.toList.map (WideElems.rg (H := Unit) Tryz.prog 3 fun _ => some (.lit (.bool true), []))).foldr DataW.insert []), ⟨es, c, h1, ⟨by omega, ⟨h4, h3, hnd⟩, fun x hx => by obtain ⟨k, hk, _⟩ := hread x hx; exact ⟨_, hrd x hx k hk⟩⟩, by omega, rfl⟩, ?_, ?_⟩
 ·rw [hg]
  refine ((WideShapes.sorted_perm _).map _).trans ?_
  rw [List.map_map]
  have : ((fun p : Lit × DataW Unit => Go.intOf p.1) ∘ fun k => ((Lit.int .i64 k : Lit), (DataW.lit (.bool true) : DataW Unit))) = id := by funext k; rfl
  rw [this, List.map_id]
 ·rw [hg, Maps.size_eq, (WideShapes.sorted_perm _).length_eq]
  simp
theorem sortsI (m : Nat) : AnyZI.SortsIn Tryz.prog Tryz.sorted233_ren Fence.wide m :=
 ⟨fun blk off cap ss W hH hblk hsz => callsIn_wide.2 (Tryz.slices_Sort_int blk off cap ss W hH hblk hsz), fun p cap W => callsIn_wide.2 (Tryz.slices_Sort_int_none p cap W)⟩
theorem keysCall (mb : Option Nat) (w : World) : Fx Tryz.prog 234 [.map mb] w (fun u w' => u = .func (.func 272) #[] #[.pointer (some ⟨w.heap.size, 0, none⟩)] ∧ w' = w.alloc (.cells #[.map mb] 237)) := by
 refine Calls.mono ((callsIn_wide (n := 5)).1 (AnyZI.keys_in Tryz.keys234 Fence.wide 5 trivial rfl mb w)) ?_
 rintro e w' ⟨rfl, rfl⟩
 exact ⟨_, rfl, rfl, rfl⟩
end Go.Proofs.YthbjfhhiajihfaaGreat
set_option linter.unusedVariables false
set_option linter.unusedSimpArgs false
set_option maxHeartbeats 800000
set_option maxRecDepth 100000
namespace Go.Proofs.YthbjfhhiajihfaaGreat
open Go Go.X
theorem row_of {w : World} {base : Nat} {t : TypeId} {sz : Nat} {v : Value} {k : Nat} {xs : List Value} (h : w.ownsRow base t sz v k xs) : Row w t sz v k xs ∧ Fresh base v := by
 refine ⟨⟨h.1, ?_⟩, fun b e => ?_⟩
 ·rcases h.2 with h2 | ⟨g, cap, cur, h2, _, r⟩
  ·exact .inl h2
  ·exact .inr ⟨g, cap, cur, h2, Nat.zero_le _, r⟩
 ·rcases h.2 with ⟨rfl, _⟩ | ⟨g, cap, cur, rfl, hb, _⟩
  ·simp [Value.ownBlock] at e
  ·simp [Value.ownBlock] at e; omega
theorem sortI_perm {l l' : List Int} (h : l.Perm l') : l.mergeSort (fun x y => decide (x ≤ y)) = sortI l' := mergeSort_of_perm_i h
theorem sortedCall {w : World} {m : Nat} {l : List (Int × Value)} (h : MapAt (Value.int .i64) w m l) (hn : (l.map (·.1)).Nodup) (hr : ∀ t ∈ l, -9223372036854775808 ≤ t.1 ∧ t.1 ≤ 9223372036854775807) (hl : l.length ≤ 1000000) :
  Fx Tryz.prog 233 [.func (.func 272) #[] #[.pointer (some ⟨w.heap.size, 0, none⟩)]] (w.alloc (.cells #[.map (some m)] 237)) (fun u w' => Row w' 3 1 u (sortI (l.map (·.1))).length (ints (sortI (l.map (·.1)))) ∧ Fresh w.heap.size u ∧ Grow w w') := by
 have hml : (1000000 : Nat) ≤ maxLen := by decide
 obtain ⟨D, hown, hperm, hsize⟩ := owns_of h hn hr (by omega)
 have hbl := hown.lt
 have hseq : SeqGives Fence.wide 2 Tryz.prog 272 #[.pointer (some ⟨w.heap.size, 0, none⟩)] encZ (fun ss => ss.Perm (intKeys D)) (Maps.size D) (w.alloc (.cells #[.map (some m)] 237)) :=
  AnyZI.keys_gives (ρ := Tryz.keys234_ren) { Tryz.keys234 with } Fence.wide _ trivial rfl (by omega) w.heap.size m l.length D _ (by simp) (by simp) (by
   obtain ⟨es, clock, hb, Ft, hs, hD⟩ := hown
   exact ⟨es, clock, (RowKit.Below.heap_alloc _ _ m hbl).trans hb, Ft, hs, hD⟩)
 refine Calls.mono ((callsIn_wide (n := 5)).1 (AnyZI.sorted_in Tryz.sorted233 Fence.wide 5 trivial trivial trivial trivial rfl (by omega) (sortsI _) (enters_of Tryz.func145 (by kernel_rfl) rfl) 272 #[.pointer (some ⟨w.heap.size, 0, none⟩)] trivial (enters_of Tryz.func272 (by kernel_rfl) rfl) _ _ (by omega) (by omega) _ hseq)) ?_
 rintro e w' ⟨v, ss, rfl, hS, hrow, _, hb⟩
 obtain ⟨h1, h2⟩ := row_of hrow
 have e1 := sortI_perm (hS.trans hperm)
 have e2 : ss.length = (sortI (l.map (·.1))).length := by rw [sortI_len, ← (hS.trans hperm).length_eq]
 refine ⟨v, rfl, ?_, fun b e => ?_, (Mod.alloc No w _).trans (Grow.of_below hb)⟩
 ·rw [← e2, ← e1]; exact h1
 ·have := h2 b e
  simp at this
  omega
def idsS (has : List (Int × List Lab)) : List Int := sortI (has.map (·.1))
theorem idsS_ris {has : List (Int × List Lab)} (hn : (has.map (·.1)).Nodup) : Ris (idsS has) := by
 have h1 := sortI_le (has.map (·.1))
 have h2 : (sortI (has.map (·.1))).Nodup := (List.mergeSort_perm _ _).nodup_iff.2 hn
 exact (h1.and h2).imp fun ⟨a, b⟩ => by omega
theorem mem_idsS {has : List (Int × List Lab)} {x : Int} : x ∈ idsS has ↔ x ∈ has.map (·.1) := by unfold idsS sortI; simp
theorem ids_ok (M : Nat → Prop) (w : World) (ix mh mr : Nat) (has : List (Int × List Lab)) (rows : List (LabK × List Int)) (h : IdxAt M w ix mh mr has rows) (hn : (has.map (·.1)).Nodup) (hr : ∀ t ∈ has, -9223372036854775808 ≤ t.1 ∧ t.1 ≤ 9223372036854775807) (hl : has.length ≤ 1000000) :
  Fx Tryz.prog 189 [pp ix] w (fun u w' => Row w' 3 1 u (idsS has).length (ints (idsS has)) ∧ Fresh w.heap.size u ∧ Grow w w') := by
 obtain ⟨l, hl1, hl2, hl3⟩ := h.hl
 have hk : (l.map fun t => (t.1, t.2.2)).map (·.1) = has.map (·.1) := by rw [← hl1]; simp [List.map_map]
 have hlen : l.length = has.length := by rw [← hl1]; simp
 have hcall := sortedCall hl2 (by rw [hk]; exact hn) (fun t ht => by
  obtain ⟨t', ht', rfl⟩ := List.mem_map.1 ht
  exact hr (t'.1, t'.2.1) (by rw [← hl1]; exact List.mem_map_of_mem (f := fun t : Int × (List Lab × Value) => (t.1, t.2.1)) ht')) (by simpa [hlen] using hl)
 rw [hk] at hcall
 refine enter Tryz.func189 rfl rfl rfl _ (Pick.sub (l := [0]) (.cons rfl .nil)) ?_
 refine GG ?_
 refine QQ (Yld.fieldAddr fo240_0 rfl) ?_
 refine QQ (Yld.load p237 rfl (at1 (h.blk.cell rfl))) ?_
 refine OP (Does.call rfl e234 (keysCall (some mh) _)) ?_
 rintro _ _ ⟨rfl, rfl⟩
 refine OP (Does.call rfl e233 (hcall)) ?_
 rintro u2 w2 ⟨hr2, hf2, hg2⟩
 refine GG ?_
 refine RK.ret_of Tryz.func189 (res1 rfl rfl) ?_ _
 exact ⟨_, rfl, hr2, hf2, hg2⟩
theorem posting_ok (M : Nat → Prop) (w : World) (ix mh mr : Nat) (has : List (Int × List Lab)) (rows : List (LabK × List Int)) (h : IdxAt M w ix mh mr has rows) (hB : ∀ t ∈ rows, t.2.length ≤ 1000000000000) (nm vl : ByteArray) :
  Fx Tryz.prog 191 [pp ix, .string nm, .string vl] w (fun u w' => Row w' 3 1 u ((lookM rows (nm, vl)).getD []).length (ints ((lookM rows (nm, vl)).getD [])) ∧ Fresh w.heap.size u ∧ Grow w w') := by
 obtain ⟨r, hr1, hr2, hr3⟩ := h.rl
 have hbnd := look_bound (B := 1000000000000) hB (nm, vl)
 obtain ⟨row0, hrow0⟩ : ∃ row0, (lookM rows (nm, vl)).getD [] = row0 := ⟨_, rfl⟩
 rw [hrow0] at hbnd ⊢
 obtain ⟨vv, hval, hsl⟩ : ∃ vv, (lookM (r.map fun t => (t.1, t.2.2)) (nm, vl)).getD (.slice none 0 0) = vv ∧ Sl M w vv 1 row0.length (ints row0) := by
  rw [← hrow0]
  have e1 := lookM_map (fun a : List Int × Value => a.1) (nm, vl) r
  have e2 := lookM_map (fun a : List Int × Value => a.2) (nm, vl) r
  rw [hr1] at e1
  rw [e1, e2]
  cases hh : lookM r (nm, vl) with
  | none => exact ⟨_, rfl, Sl.nil _ _ _ _ _⟩
  | some a => exact ⟨_, rfl, hr3 _ (lookM_mem hh)⟩
 refine enter Tryz.func191 rfl rfl rfl _ (Pick.sub (l := [0, 1, 2]) (.cons rfl (.cons rfl (.cons rfl .nil)))) ?_
 refine GG ?_
 refine QQ (Yld.fieldAddr fo240_1 rfl) ?_
 refine QQ (Yld.load p238 rfl (at1 (h.blk.cell rfl))) ?_
 refine GG ?_
 refine QQ (Yld.build (v := .agg #[.string nm, .string vl]) rfl (fun w => by kernel_rfl)) ?_
 refine QQ (Yld.lookup Tryz.underlying238 key79 i37 (k := (nm, vl)) rfl rfl (fun w' e => e ▸ hr2)) ?_
 refine RL.re (d := 14) rfl rfl (hval) ?_
 refine OP (Does.call rfl e144 (cloneI_ok M row0 vv _ hsl (by omega))) ?_
 rintro u2 w2 ⟨hr2', hf2, hg2⟩
 refine GG ?_
 refine RK.ret_of Tryz.func191 (res1 rfl rfl) ?_ _
 exact ⟨_, rfl, hr2', hf2, hg2⟩
theorem get1_ok (w : World) (b : Nat) (nm : ByteArray) (hb : Blk w b 9 [.string nm]) (x : Lab) : Fx Tryz.prog 239 [.agg #[.string x.name, .string x.value], pp b] w (fun u w' => u = .bool (decide (x.name = nm)) ∧ Grow w w') := by
 refine enter Tryz.func239 rfl rfl rfl _ (Pick.sub (l := [0, 1]) (.cons rfl (.cons rfl .nil))) ?_
 refine GG ?_
 refine OP (Does.box rfl) ?_
 rintro _ w1 ⟨bx, rfl, hbx⟩
 refine GG ?_
 refine QQ (Yld.fieldAddr fo79_0 rfl) ?_
 refine QQ (Yld.load p9 rfl (at1 (hbx.blk.cell rfl))) ?_
 refine QQ (Yld.load p9 rfl (at1 ((hb.mod hbx.grow (fun h => h)).cell rfl))) ?_
 refine GG ?_
 refine RK.ret_of Tryz.func239 (res1 rfl rfl) ?_ _
 exact ⟨_, rfl, rfl, hbx.grow⟩
theorem getFirst_ok (M : Nat → Prop) (ls : List Lab) (v : Value) (nm : ByteArray) (b4 : Nat) (w : World) (hv : SlL M w v ls) (hb : Blk w b4 9 [.string nm]) :
  Fx Tryz.prog 238 [v, .func (.func 239) #[] #[pp b4]] w (fun u w' => u = .int .i64 (optI (ls.findIdx? fun x => decide (x.name = nm))) ∧ Grow w w') := by
 obtain ⟨ad, c, rfl⟩ := hv.shape
 have hbig := hv.big
 refine enter Tryz.func238 rfl rfl rfl _ (Pick.sub (l := [0, 1]) (.cons rfl (.cons rfl .nil))) ?_
 refine GG ?_
 refine QQ (Yld.lenSl u33 rfl) ?_
 refine GG ?_
 refine RK.loop (fun k : Nat => [(0, .slice ad ls.length c), (1, .func (.func 239) #[] #[pp b4]), (7, .int .i64 ls.length), (8, .int .i64 k)]) (fun k w' => Grow w w' ∧ k ≤ ls.length ∧ ∀ (i : Nat) (a : Lab), i < k → ls[i]? = some a → a.name ≠ nm) (fun k => ls.length - k) 0 ⟨rfl, rfl, rfl, rfl, trivial⟩ ⟨Mod.refl _ _, by omega, fun i a h => by omega⟩ (fun k w' hI ih => ?_)
 obtain ⟨hg, hk, hno⟩ := hI
 refine GG ?_
 refine CD (fun h9 => ?_) (fun h9 => ?_)
 ·obtain ⟨x, hx⟩ : ∃ x, ls[k]? = some x := ⟨ls[k]'(by omega), List.getElem?_eq_getElem (by omega)⟩
  obtain ⟨b1, o1, c1', he1, _, _, hc1⟩ := hv.elem labC_len hx
  cases he1
  refine GG ?_
  refine QQ (Yld.indexAddrN u33 i79 rfl rfl (by omega)) ?_
  refine QQ (Yld.loadN (cs := [.string x.name, .string x.value]) a79 rfl (atN (fun j u hj => hg.cell (hc1 j u hj) (fun h => h)))) ?_
  refine OP (Does.callv rfl rfl e239 (get1_ok _ b4 nm (hb.mod hg (fun h => h)) x)) ?_
  rintro _ w2 ⟨rfl, hg2⟩
  refine RL.done ?_
  refine CD (fun h16 => ?_) (fun h16 => ?_)
  ·refine GG ?_
   refine RK.ret_of Tryz.func238 (res1 rfl rfl) ?_ _
   exact ⟨_, rfl, congrArg _ (by
     have : ls.findIdx? (fun x => decide (x.name = nm)) = some k := by
      rw [List.findIdx?_eq_some_iff_getElem]
      refine ⟨by omega, ?_, fun j hj => ?_⟩
      ·simp [(List.getElem?_eq_some_iff.1 hx).2, h16]
      ·simpa using hno j (ls[j]'(by omega)) hj (List.getElem?_eq_getElem (by omega))
     rw [this]; rfl), hg.trans hg2⟩
  ·refine RK.skip ?_
   refine RK.inBlock ?_
   refine RK.region ?_
   refine RL.p rfl rfl ?_
   refine RL.re (d := 18) rfl rfl (succ_i64 (by omega)) ?_
   refine GG ?_
   exact RK.back (ih (k + 1) _ ⟨hg.trans hg2, by omega, fun i a' hi ha' => by by_cases e : i = k; (subst e; rw [hx] at ha'; cases ha'; exact h16); exact hno i a' (by omega) ha'⟩ (by omega)) ⟨rfl, rfl, rfl, rfl, trivial⟩
 ·refine RK.exit rfl ?_
  refine GG ?_
  refine RK.ret_of Tryz.func238 (res1 rfl rfl) ?_ _
  exact ⟨_, rfl, congrArg _ (by
    have : ls.findIdx? (fun x => decide (x.name = nm)) = none := by
     rw [List.findIdx?_eq_none_iff]
     intro x hx
     obtain ⟨i, hi⟩ := List.getElem?_of_mem hx
     have hil := (List.getElem?_eq_some_iff.1 hi).1
     simpa using hno i x (by omega) hi
    rw [this]; rfl), hg⟩
theorem labelsGet_ok (M : Nat → Prop) (ls : List Lab) (v : Value) (nm : ByteArray) (w : World) (hv : SlL M w v ls) : Fx Tryz.prog 198 [v, .string nm] w (fun u w' => u = .string (getL ls nm) ∧ Grow w w') := by
 obtain ⟨ad, c, rfl⟩ := hv.shape
 have hbig := hv.big
 cases hf : ls.findIdx? (fun x => decide (x.name = nm)) with
 | none =>
  have e : getL ls nm = ByteArray.empty := getL_none fun y hy => by simpa using List.findIdx?_eq_none_iff.1 hf y hy
  refine enter Tryz.func198 rfl rfl rfl _ (Pick.sub (l := [0, 1]) (.cons rfl (.cons rfl .nil))) ?_
  refine GG ?_
  refine OP (Does.box rfl) ?_
  rintro _ w1 ⟨b1, rfl, hn1⟩
  have hcall := getFirst_ok M ls _ nm b1 w1 (hv.mod (Mod.any' hn1.grow)) hn1.blk
  rw [hf] at hcall
  refine GG ?_
  refine OP (Does.call rfl e238 (hcall)) ?_
  rintro _ w2 ⟨rfl, hg2⟩
  refine GG ?_
  refine RK.condT (hcT rfl (rfl)) ?_
  refine GG ?_
  refine RK.ret_of Tryz.func198 (res1 rfl rfl) ?_ _
  exact ⟨_, rfl, by rw [e]; rfl, hn1.grow.trans hg2⟩
 | some k =>
  obtain ⟨hk, hp, hlt⟩ := List.findIdx?_eq_some_iff_getElem.1 hf
  have hx : ls[k]? = some ls[k] := List.getElem?_eq_getElem hk
  have e : getL ls nm = ls[k].value := getL_at hx (by simpa using hp) fun i y hi hy => by
   have := hlt i hi
   rw [(List.getElem?_eq_some_iff.1 hy).2] at this
   simpa using this
  generalize ls[k] = x at *
  refine enter Tryz.func198 rfl rfl rfl _ (Pick.sub (l := [0, 1]) (.cons rfl (.cons rfl .nil))) ?_
  refine GG ?_
  refine OP (Does.box rfl) ?_
  rintro _ w1 ⟨b1, rfl, hn1⟩
  have hcall := getFirst_ok M ls _ nm b1 w1 (hv.mod (Mod.any' hn1.grow)) hn1.blk
  rw [hf] at hcall
  obtain ⟨b2, o2, c2', he2, _, _, hc2⟩ := hv.elem labC_len hx
  cases he2
  refine GG ?_
  refine OP (Does.call rfl e238 (hcall)) ?_
  rintro _ w2 ⟨rfl, hg2⟩
  have hg02 := hn1.grow.trans hg2
  have hk' : optI (some k) = (k : Int) := rfl
  rw [hk']
  refine GG ?_
  refine RK.condF (hcF rfl (decide_eq_false (by omega))) ?_
  refine GG ?_
  refine QQ (Yld.indexAddrN u33 i79 rfl rfl (by omega)) ?_
  refine QQ (Yld.fieldAddr fo79_1 rfl) ?_
  refine QQ (Yld.load p9 rfl (at1 (hg02.cell (hc2 1 _ rfl) (fun h => h)))) ?_
  refine GG ?_
  refine RK.ret_of Tryz.func198 (res1 rfl rfl) ?_ _
  exact ⟨_, rfl, by rw [e], hg02⟩
end Go.Proofs.YthbjfhhiajihfaaGreat
set_option linter.unusedVariables false
set_option linter.unusedSimpArgs false
set_option maxHeartbeats 800000
set_option maxRecDepth 100000
namespace Go.Proofs.YthbjfhhiajihfaaGreat
open Go Go.X
theorem isS_val {ls : List Lab} (h : isS ls = true) (x : Lab) (hx : x ∈ ls) : x.value.size ≤ 24 := by
 obtain ⟨i, hi⟩ := List.getElem?_of_mem hx
 unfold isS at h
 simp only [Bool.and_eq_true, List.all_eq_true, List.mem_range] at h
 have h2 := h.2 i (List.getElem?_eq_some_iff.1 hi).1
 unfold okAt at h2
 rw [hi] at h2
 simp only [Bool.and_eq_true] at h2
 have h3 := h2.1.2
 unfold valS at h3
 simp at h3; omega
structure Mt where
 kind : Int
 name : ByteArray
 value : ByteArray
 deriving DecidableEq, Inhabited
def mtC (m : Mt) : List Value := [.int .i64 m.kind, .string m.name, .string m.value]
theorem mtC_len (m : Mt) : (mtC m).length = 3 := rfl
abbrev SlM (M : Nat → Prop) (w : World) (v : Value) (ms : List Mt) : Prop := Sl M w v 3 ms.length (ms.flatMap mtC)
def likeS (m : Mt) : Bool := decide (m.kind = 3 ∨ m.kind = 4)
theorem like_ok (m : Mt) (w : World) : Fx Tryz.prog 229 [.agg #[.int .i64 m.kind, .string m.name, .string m.value]] w (fun u w' => u = .bool (likeS m) ∧ Grow w w') := by
 refine enter Tryz.func229 rfl rfl rfl _ (Pick.sub (l := [0]) (.cons rfl .nil)) ?_
 refine GG ?_
 refine OP (Does.box rfl) ?_
 rintro _ w1 ⟨b1, rfl, hn1⟩
 refine GG ?_
 refine QQ (Yld.fieldAddr fo135_0 rfl) ?_
 refine QQ (Yld.load p3 rfl (at1 (hn1.blk.cell rfl))) ?_
 refine GG ?_
 refine SP 6 (fun h6 => ?_) (fun h6 => ?_)
 ·iterate 3 refine RL.no (.no rfl rfl rfl rfl) rfl rfl ?_
  refine GG ?_
  refine RK.ret_of Tryz.func229 (res1 rfl rfl) ?_ _
  exact ⟨_, rfl, congrArg _ (by unfold likeS; simp_all), hn1.grow⟩
 ·refine QQ (Yld.fieldAddr fo135_0 rfl) ?_
  refine QQ (Yld.load p3 rfl (at1 (hn1.blk.cell rfl))) ?_
  refine QQ (Yld.pure rfl) ?_
  refine GG ?_
  refine RK.ret_of Tryz.func229 (res1 rfl rfl) ?_ _
  exact ⟨_, rfl, congrArg _ (by unfold likeS; simp_all), hn1.grow⟩
def isV (m : Mt) : Bool := nameS m.name && decide ((m.kind = 1 ∨ m.kind = 2) ∧ m.value.size ≤ 24)
theorem isV_ok (m : Mt) (hk : likeS m = false) (w : World) : Fx Tryz.prog 186 [.agg #[.int .i64 m.kind, .string m.name, .string m.value]] w (fun u w' => u = .bool (isV m) ∧ Grow w w') := by
 refine enter Tryz.func186 rfl rfl rfl _ (Pick.sub (l := [0]) (.cons rfl .nil)) ?_
 refine GG ?_
 refine OP (Does.box rfl) ?_
 rintro _ w1 ⟨b1, rfl, hn1⟩
 refine GG ?_
 refine QQ (Yld.fieldAddr fo135_1 rfl) ?_
 refine QQ (Yld.load p9 rfl (at1 (hn1.blk.cell rfl))) ?_
 refine OP (Does.call rfl e219 (name_ok _ _)) ?_
 rintro _ _ ⟨rfl, rfl⟩
 refine GG ?_
 refine CD (fun h8 => ?_) (fun h8 => ?_)
 ·refine GG ?_
  refine RK.ret_of Tryz.func186 (res1 rfl rfl) ?_ _
  exact ⟨_, rfl, congrArg _ (by unfold isV; simp at h8; rw [h8]; rfl), hn1.grow⟩
 ·refine GG ?_
  refine QQ (Yld.loadN (cs := [.int .i64 m.kind, .string m.name, .string m.value]) a135 rfl (atN (fun j u hj => by rw [Nat.zero_add]; exact hn1.blk.cell' hj))) ?_
  refine OP (Does.call rfl e229 (like_ok m _)) ?_
  rintro _ w2 ⟨rfl, hg2⟩
  refine RL.done ?_
  refine RK.condF (hcF rfl (hk)) ?_
  refine GG ?_
  refine QQ (Yld.fieldAddr fo135_0 rfl) ?_
  refine QQ (Yld.load p3 rfl (at1 ((hn1.blk.mod hg2 (fun h => h)).cell rfl))) ?_
  refine GG ?_
  refine SP 21 (fun h21 => ?_) (fun h21 => ?_)
  ·iterate 3 refine RL.no (.no rfl rfl rfl rfl) rfl rfl ?_
   refine GG ?_
   refine QQ (Yld.fieldAddr fo135_2 rfl) ?_
   refine QQ (Yld.load p9 rfl (at1 ((hn1.blk.mod hg2 (fun h => h)).cell rfl))) ?_
   refine QQ (Yld.lenStr u9 rfl) ?_
   refine QQ (Yld.pure rfl) ?_
   refine GG ?_
   refine RK.ret_of Tryz.func186 (res1 rfl rfl) ?_ _
   exact ⟨_, rfl, congrArg _ (by unfold isV; simp at h8; rw [h8, Bool.eq_iff_iff]; simp_all <;> omega), hn1.grow.trans hg2⟩
  ·refine QQ (Yld.fieldAddr fo135_0 rfl) ?_
   refine QQ (Yld.load p3 rfl (at1 ((hn1.blk.mod hg2 (fun h => h)).cell rfl))) ?_
   refine QQ (Yld.pure rfl) ?_
   refine GG ?_
   refine SP 26 (fun h26 => ?_) (fun h26 => ?_)
   ·refine QQ (Yld.fieldAddr fo135_2 rfl) ?_
    refine QQ (Yld.load p9 rfl (at1 ((hn1.blk.mod hg2 (fun h => h)).cell rfl))) ?_
    refine QQ (Yld.lenStr u9 rfl) ?_
    refine QQ (Yld.pure rfl) ?_
    refine GG ?_
    refine RK.ret_of Tryz.func186 (res1 rfl rfl) ?_ _
    exact ⟨_, rfl, congrArg _ (by unfold isV; simp at h8; rw [h8, Bool.eq_iff_iff]; simp_all <;> omega), hn1.grow.trans hg2⟩
   ·iterate 4 refine RL.no (.no rfl rfl rfl rfl) rfl rfl ?_
    refine GG ?_
    refine RK.ret_of Tryz.func186 (res1 rfl rfl) ?_ _
    exact ⟨_, rfl, congrArg _ (by unfold isV; simp at h8; rw [h8, Bool.eq_iff_iff]; simp_all <;> omega), hn1.grow.trans hg2⟩
def HoldsC (h : Mt → List Lab → Bool) (m : Mt) : Prop := ∀ (M : Nat → Prop) (ls : List Lab) (v : Value) (w : World), (∀ x ∈ ls, x.value.size ≤ 100000) → SlL M w v ls → Fx Tryz.prog 157 [.agg #[.int .i64 m.kind, .string m.name, .string m.value], v] w (fun u w' => u = .bool (h m ls) ∧ Grow w w')
theorem all1_ok (h : Mt → List Lab → Bool) (m : Mt) (hh : HoldsC h m) (M : Nat → Prop) (ls : List Lab) (hz : ∀ x ∈ ls, x.value.size ≤ 100000) (vl : Value) (b4 : Nat) (w : World) (hl : SlL M w vl ls) (hb : Blk w b4 33 [vl]) : Fx Tryz.prog 156 [.agg #[.int .i64 m.kind, .string m.name, .string m.value], pp b4] w (fun u w' => u = .bool (!h m ls) ∧ Grow w w') := by
 obtain ⟨ad, c, rfl⟩ := hl.shape
 refine enter Tryz.func156 rfl rfl rfl _ (Pick.sub (l := [0, 1]) (.cons rfl (.cons rfl .nil))) ?_
 refine GG ?_
 refine OP (Does.box rfl) ?_
 rintro _ w1 ⟨b1, rfl, hn1⟩
 refine GG ?_
 refine QQ (Yld.loadN (cs := [.int .i64 m.kind, .string m.name, .string m.value]) a135 rfl (atN (fun j u hj => by rw [Nat.zero_add]; exact hn1.blk.cell' hj))) ?_
 refine QQ (Yld.load p33 rfl (at1 ((hb.mod hn1.grow (fun h => h)).cell rfl))) ?_
 refine OP (Does.call rfl e157 (hh M ls _ _ hz (hl.mod (Mod.any' hn1.grow)))) ?_
 rintro _ w2 ⟨rfl, hg2⟩
 refine GG ?_
 refine RK.ret_of Tryz.func156 (res1 rfl rfl) ?_ _
 exact ⟨_, rfl, rfl, hn1.grow.trans hg2⟩
theorem indexM_ok (h : Mt → List Lab → Bool) (ms : List Mt) (hh : ∀ m ∈ ms, HoldsC h m) (M M' : Nat → Prop) (ls : List Lab) (hz : ∀ x ∈ ls, x.value.size ≤ 100000) (v vl : Value) (b4 : Nat) (w : World) (hv : SlM M' w v ms) (hl : SlL M w vl ls) (hb : Blk w b4 33 [vl]) :
  Fx Tryz.prog 210 [v, .func (.func 156) #[] #[pp b4]] w (fun u w' => u = .int .i64 (optI (ms.findIdx? fun m => !h m ls)) ∧ Grow w w') := by
 obtain ⟨ad, c, rfl⟩ := hv.shape
 have hbig := hv.big
 refine enter Tryz.func210 rfl rfl rfl _ (Pick.sub (l := [0, 1]) (.cons rfl (.cons rfl .nil))) ?_
 refine GG ?_
 refine QQ (Yld.lenSl u24 rfl) ?_
 refine GG ?_
 refine RK.loop (fun k : Nat => [(0, .slice ad ms.length c), (1, .func (.func 156) #[] #[pp b4]), (7, .int .i64 ms.length), (8, .int .i64 k)]) (fun k w' => Grow w w' ∧ k ≤ ms.length ∧ ∀ (i : Nat) (a : Mt), i < k → ms[i]? = some a → h a ls = true) (fun k => ms.length - k) 0 ⟨rfl, rfl, rfl, rfl, trivial⟩ ⟨Mod.refl _ _, by omega, fun i a h => by omega⟩ (fun k w' hI ih => ?_)
 obtain ⟨hg, hk, hno⟩ := hI
 refine GG ?_
 refine CD (fun h9 => ?_) (fun h9 => ?_)
 ·obtain ⟨x, hx⟩ : ∃ x, ms[k]? = some x := ⟨ms[k]'(by omega), List.getElem?_eq_getElem (by omega)⟩
  obtain ⟨b1, o1, c1', he1, _, _, hc1⟩ := hv.elem mtC_len hx
  cases he1
  refine GG ?_
  refine QQ (Yld.indexAddrN u24 i135 rfl rfl (by omega)) ?_
  refine QQ (Yld.loadN (cs := [.int .i64 x.kind, .string x.name, .string x.value]) a135 rfl (atN (fun j u hj => hg.cell (hc1 j u hj) (fun h => h)))) ?_
  refine OP (Does.callv rfl rfl e156 (all1_ok h x (hh x (List.mem_of_getElem? hx)) M ls hz vl b4 _ (hl.mod (Mod.any' hg)) (hb.mod hg (fun h => h)))) ?_
  rintro _ w2 ⟨rfl, hg2⟩
  refine RL.done ?_
  refine CD (fun h16 => ?_) (fun h16 => ?_)
  ·refine GG ?_
   refine RK.ret_of Tryz.func210 (res1 rfl rfl) ?_ _
   exact ⟨_, rfl, congrArg _ (by
     have : ms.findIdx? (fun m => !h m ls) = some k := by
      rw [List.findIdx?_eq_some_iff_getElem]
      refine ⟨by omega, ?_, fun j hj => ?_⟩
      ·rw [(List.getElem?_eq_some_iff.1 hx).2]; exact h16
      ·simpa using hno j (ms[j]'(by omega)) hj (List.getElem?_eq_getElem (by omega))
     rw [this]; rfl), hg.trans hg2⟩
  ·refine RK.skip ?_
   refine RK.inBlock ?_
   refine RK.region ?_
   refine RL.p rfl rfl ?_
   refine RL.re (d := 18) rfl rfl (succ_i64 (by omega)) ?_
   refine GG ?_
   exact RK.back (ih (k + 1) _ ⟨hg.trans hg2, by omega, fun i a' hi ha' => by by_cases e : i = k; (subst e; rw [hx] at ha'; cases ha'; simpa using h16); exact hno i a' (by omega) ha'⟩ (by omega)) ⟨rfl, rfl, rfl, rfl, trivial⟩
 ·refine RK.exit rfl ?_
  refine GG ?_
  refine RK.ret_of Tryz.func210 (res1 rfl rfl) ?_ _
  exact ⟨_, rfl, congrArg _ (by
    have : ms.findIdx? (fun m => !h m ls) = none := by
     rw [List.findIdx?_eq_none_iff]
     intro x hx
     obtain ⟨i, hi⟩ := List.getElem?_of_mem hx
     have hil := (List.getElem?_eq_some_iff.1 hi).1
     simpa using hno i x (by omega) hi
    rw [this]; rfl), hg⟩
theorem allM_ok (h : Mt → List Lab → Bool) (ms : List Mt) (hh : ∀ m ∈ ms, HoldsC h m) (M M' : Nat → Prop) (ls : List Lab) (hz : ∀ x ∈ ls, x.value.size ≤ 100000) (v vl : Value) (w : World) (hv : SlM M' w v ms) (hl : SlL M w vl ls) :
  Fx Tryz.prog 104 [v, vl] w (fun u w' => u = .bool (ms.all fun m => h m ls) ∧ Grow w w') := by
 obtain ⟨ad, c, rfl⟩ := hl.shape
 have hcont : ∀ (b4 : Nat) (w1 : World), Grow w w1 → Blk w1 b4 33 [.slice ad ls.length c] → Fx Tryz.prog 155 [v, .func (.func 156) #[] #[pp b4]] w1 (fun u w' => u = .bool (!ms.all fun m => h m ls) ∧ Grow w1 w') := fun b4 w1 hg1 hb => by
  have hcall := indexM_ok h ms hh M M' ls hz v _ b4 w1 (hv.mod (Mod.any' hg1)) (hl.mod (Mod.any' hg1)) hb
  obtain ⟨ad2, c2, rfl⟩ := hv.shape
  refine enter Tryz.func155 rfl rfl rfl _ (Pick.sub (l := [0, 1]) (.cons rfl (.cons rfl .nil))) ?_
  refine GG ?_
  refine OP (Does.call rfl e210 (hcall)) ?_
  rintro _ w2 ⟨rfl, hg2⟩
  refine GG ?_
  refine RK.ret_of Tryz.func155 (res1 rfl rfl) ?_ _
  exact ⟨_, rfl, congrArg _ (by
    cases hf : ms.findIdx? (fun m => !h m ls) with
    | none =>
     have : (ms.all fun m => h m ls) = true := List.all_eq_true.2 fun m hm => by simpa using List.findIdx?_eq_none_iff.1 hf m hm
     rw [this]; rfl
    | some k =>
     obtain ⟨hk, hp, _⟩ := List.findIdx?_eq_some_iff_getElem.1 hf
     have : (ms.all fun m => h m ls) = false := List.all_eq_false.2 ⟨_, List.getElem_mem hk, by simpa using hp⟩
     rw [this]
     show decide ((0 : Int) ≤ (k : Int)) = true
     simp), hg2⟩
 refine enter Tryz.func104 rfl rfl rfl _ (Pick.sub (l := [0, 1]) (.cons rfl (.cons rfl .nil))) ?_
 refine GG ?_
 refine OP (Does.box rfl) ?_
 rintro _ w1 ⟨b1, rfl, hn1⟩
 refine GG ?_
 refine OP (Does.call rfl e155 (hcont b1 _ hn1.grow hn1.blk)) ?_
 rintro _ w2 ⟨rfl, hg2⟩
 refine GG ?_
 refine RK.ret_of Tryz.func104 (res1 rfl rfl) ?_ _
 exact ⟨_, rfl, by simp, hn1.grow.trans hg2⟩
end Go.Proofs.YthbjfhhiajihfaaGreat
set_option linter.unusedVariables false
set_option linter.unusedSimpArgs false
set_option maxHeartbeats 800000
set_option maxRecDepth 100000
namespace Go.Proofs.YthbjfhhiajihfaaGreat
open Go Go.X
structure IM (M X : Nat → Prop) (w : World) (ix : Nat) (has : List (Int × List Lab)) (rows : List (LabK × List Int)) : Prop where
 at_ : ∃ mh mr, IdxAt (fun b => M b ∨ X b) w ix mh mr has rows ∧ (∀ b, M b ↔ b = mh ∨ b = mr)
 apart : ∀ b, X b → ¬ M b ∧ b ≠ ix ∧ b < w.heap.size
 inv : IxI has rows
 sets : ∀ t ∈ has, isS t.2 = true
 rng : ∀ t ∈ has, -9223372036854775808 ≤ t.1 ∧ t.1 ≤ 9223372036854775807
 len : has.length ≤ 1000
 bd : ∀ t ∈ rows, t.2.length ≤ 6000
theorem IM.lt {M X : Nat → Prop} {w : World} {ix : Nat} {has : List (Int × List Lab)} {rows : List (LabK × List Int)} (h : IM M X w ix has rows) {b : Nat} (hb : M b) : b < w.heap.size := by
 obtain ⟨mh, mr, h1, h2⟩ := h.at_
 rcases (h2 b).1 hb with rfl | rfl
 ·exact h1.mps.1.lt
 ·exact h1.mps.2.lt
theorem IM.lt2 {M X : Nat → Prop} {w : World} {ix : Nat} {has : List (Int × List Lab)} {rows : List (LabK × List Int)} (h : IM M X w ix has rows) {b : Nat} (hb : M b ∨ X b) : b < w.heap.size := by
 rcases hb with hb | hb
 ·exact h.lt hb
 ·exact (h.apart b hb).2.2
theorem IM.grow {M X : Nat → Prop} {w w' : World} {ix : Nat} {has : List (Int × List Lab)} {rows : List (LabK × List Int)} (h : IM M X w ix has rows) (hg : Grow w w') : IM M X w' ix has rows := by
 obtain ⟨mh, mr, h1, h2⟩ := h.at_
 exact ⟨⟨mh, mr, h1.mod hg (fun _ _ h => h.elim) (fun h => h) (fun h => h) (fun h => h), h2⟩, fun b hb => by have h3 := h.apart b hb; have := hg.size; exact ⟨h3.1, h3.2.1, by omega⟩, h.inv, h.sets, h.rng, h.len, h.bd⟩
theorem add_no (M : Nat → Prop) (w : World) (ix mh mr : Nat) (has : List (Int × List Lab)) (rows : List (LabK × List Int)) (h : IdxAt M w ix mh mr has rows) (id : Int) (ls : List Lab) (v : Value) (hv : SlL M w v ls) (hno : (lookM has id).isSome = true ∨ isS ls = false) :
  Fx Tryz.prog 177 [pp ix, .int .i64 id, v] w (fun u w' => u = .bool false ∧ Grow w w') := by
 obtain ⟨ad, c, rfl⟩ := hv.shape
 obtain ⟨l, hl1, hl2, hl3⟩ := h.hl
 have hsome : (lookM (l.map fun t => (t.1, t.2.2)) id).isSome = (lookM has id).isSome := by
  have e1 := lookM_map (fun a : List Lab × Value => a.1) id l
  have e2 := lookM_map (fun a : List Lab × Value => a.2) id l
  rw [hl1] at e1
  rw [e1, e2]; simp
 cases hs : (lookM has id).isSome with
 | true =>
  rw [hs] at hsome
  obtain ⟨z, hz⟩ : ∃ z, (lookM (l.map fun t => (t.1, t.2.2)) id).getD (.slice none 0 0) = z := ⟨_, rfl⟩
  refine enter Tryz.func177 rfl rfl rfl _ (Pick.sub (l := [0, 1, 2]) (.cons rfl (.cons rfl (.cons rfl .nil)))) ?_
  refine GG ?_
  refine QQ (Yld.fieldAddr fo240_0 rfl) ?_
  refine QQ (Yld.load p237 rfl (at1 (h.blk.cell rfl))) ?_
  refine RL.p rfl rfl ?_
  refine QQ (Yld.lookup Tryz.underlying237 key3 i33 rfl rfl (fun w' e => e ▸ hl2)) ?_
  refine RL.re (d := 17) rfl rfl (show _ = Value.tuple #[z, .bool true] by rw [hz, hsome]; rfl) ?_
  refine GG ?_
  refine RL.knownT (d := 21) rfl rfl (rfl) ?_
  iterate 3 refine RL.no (.no rfl rfl rfl rfl) rfl rfl ?_
  refine GG ?_
  refine RK.condT rfl ?_
  refine GG ?_
  refine RK.ret_of Tryz.func177 (res1 rfl rfl) ?_ _
  exact ⟨_, rfl, rfl, Mod.refl _ _⟩
 | false =>
  have his : isS ls = false := by rcases hno with h1 | h1; (rw [hs] at h1; cases h1); exact h1
  rw [hs] at hsome
  obtain ⟨z, hz⟩ : ∃ z, (lookM (l.map fun t => (t.1, t.2.2)) id).getD (.slice none 0 0) = z := ⟨_, rfl⟩
  refine enter Tryz.func177 rfl rfl rfl _ (Pick.sub (l := [0, 1, 2]) (.cons rfl (.cons rfl (.cons rfl .nil)))) ?_
  refine GG ?_
  refine QQ (Yld.fieldAddr fo240_0 rfl) ?_
  refine QQ (Yld.load p237 rfl (at1 (h.blk.cell rfl))) ?_
  refine RL.p rfl rfl ?_
  refine QQ (Yld.lookup Tryz.underlying237 key3 i33 rfl rfl (fun w' e => e ▸ hl2)) ?_
  refine RL.re (d := 17) rfl rfl (show _ = Value.tuple #[z, .bool false] by rw [hz, hsome]; rfl) ?_
  refine GG ?_
  refine RL.knownF (d := 21) rfl rfl (rfl) ?_
  refine QQ (Yld.pure rfl) ?_
  refine OP (Does.call rfl e171 (is_ok M ls _ _ hv)) ?_
  rintro _ w2 ⟨rfl, hg2⟩
  refine QQ (Yld.pure rfl) ?_
  refine GG ?_
  refine RK.condT (hcT rfl (by rw [his]; rfl)) ?_
  refine GG ?_
  refine RK.ret_of Tryz.func177 (res1 rfl rfl) ?_ _
  exact ⟨_, rfl, rfl, hg2⟩
def addable (has : List (Int × List Lab)) (id : Int) (ls : List Lab) : Bool := (lookM has id).isNone && isS ls
def addH (has : List (Int × List Lab)) (id : Int) (ls : List Lab) : List (Int × List Lab) := if addable has id ls then putM has id ls else has
def addR (has : List (Int × List Lab)) (rows : List (LabK × List Int)) (id : Int) (ls : List Lab) : List (LabK × List Int) := if addable has id ls then addRows rows id ls else rows
theorem IM.add {M X : Nat → Prop} {w : World} {ix : Nat} {has : List (Int × List Lab)} {rows : List (LabK × List Int)} (h : IM M X w ix has rows) (hlen : has.length < 1000) (hbd : ∀ t ∈ rows, t.2.length ≤ 5994) {id : Int} (hid : -9223372036854775808 ≤ id ∧ id ≤ 9223372036854775807) {ls : List Lab} {v : Value} (hv : SlL (fun b => M b ∨ X b) w v ls) :
  Fx Tryz.prog 177 [pp ix, .int .i64 id, v] w (fun u w' => u = .bool (addable has id ls) ∧ IM M X w' ix (addH has id ls) (addR has rows id ls) ∧ Mod M w w') := by
 obtain ⟨mh, mr, h1, h2⟩ := h.at_
 cases ha : addable has id ls with
 | true =>
  have eH : addH has id ls = putM has id ls := by unfold addH; rw [ha]; rfl
  have eR : addR has rows id ls = addRows rows id ls := by unfold addR; rw [ha]; rfl
  rw [eH, eR]
  unfold addable at ha
  simp only [Bool.and_eq_true, Option.isNone_iff_eq_none] at ha
  have h6 := isS_len ha.2
  refine Fx.mono (add_ok _ w ix mh mr has rows h1 (.inl ((h2 mh).2 (.inl rfl))) (.inl ((h2 mr).2 (.inr rfl))) (fun b hb => h.lt2 hb) id ls v hv ha.1 ha.2 (fun t ht => by have := h.bd t ht; omega)) ?_
  rintro u w' ⟨rfl, h3, h4⟩
  refine ⟨rfl, ⟨⟨mh, mr, h3, h2⟩, fun b hb => by have h9 := h.apart b hb; have := h4.size; exact ⟨h9.1, h9.2.1, by omega⟩, h.inv.add ha.1 ls, fun t ht => ?_, fun t ht => ?_, ?_, fun t ht => ?_⟩, h4.mono fun b _ e => (h2 b).2 e⟩
  ·rcases mem_putM ht with h5 | rfl
   ·exact h.sets t h5
   ·exact ha.2
  ·rcases mem_putM ht with h5 | rfl
   ·exact h.rng t h5
   ·exact hid
  ·rw [putM_new ha.1]; simp; omega
  ·have := addRows_bound (B := 5994) hbd id ls t ht; omega
 | false =>
  have eH : addH has id ls = has := by unfold addH; rw [ha]; rfl
  have eR : addR has rows id ls = rows := by unfold addR; rw [ha]; rfl
  rw [eH, eR]
  refine Fx.mono (add_no _ w ix mh mr has rows h1 id ls v hv ?_) ?_
  ·unfold addable at ha
   cases hl : lookM has id with
   | none => rw [hl] at ha; right; simpa using ha
   | some x => left; rfl
  ·rintro u w' ⟨rfl, hg⟩
   exact ⟨rfl, h.grow hg, Mod.any' hg⟩
theorem IM.drop {M X : Nat → Prop} {w : World} {ix : Nat} {has : List (Int × List Lab)} {rows : List (LabK × List Int)} (h : IM M X w ix has rows) (id : Int) :
    Fx Tryz.prog 183 [pp ix, .int .i64 id] w (fun u w' => u = .bool (lookM has id).isSome ∧ IM M X w' ix (cutM has id) (dropRows rows id ((lookM has id).getD [])) ∧ Mod M w w') := by
  obtain ⟨mh, mr, h1, h2⟩ := h.at_
  refine Fx.mono (drop_ok _ w ix mh mr has rows h1 (.inl ((h2 mh).2 (.inl rfl))) (.inl ((h2 mr).2 (.inr rfl))) (fun b hb => h.lt2 hb) id (fun t ht => by have := h.bd t ht; omega)) ?_
  rintro u w' ⟨rfl, h3, h4⟩
  exact ⟨rfl, ⟨⟨mh, mr, h3, h2⟩, fun b hb => by have h9 := h.apart b hb; have := h4.size; exact ⟨h9.1, h9.2.1, by omega⟩, h.inv.drop id, fun t ht => h.sets t (mem_cutM' ht), fun t ht => h.rng t (mem_cutM' ht), Nat.le_trans (cutM_sub id has).length_le h.len, dropRows_bound h.bd id _⟩, h4.mono fun b _ e => (h2 b).2 e⟩
theorem IM.ids {M X : Nat → Prop} {w : World} {ix : Nat} {has : List (Int × List Lab)} {rows : List (LabK × List Int)} (h : IM M X w ix has rows) : Fx Tryz.prog 189 [pp ix] w (fun u w' => Row w' 3 1 u (idsS has).length (ints (idsS has)) ∧ Fresh w.heap.size u ∧ Grow w w') := by
 obtain ⟨mh, mr, h1, h2⟩ := h.at_
 exact ids_ok _ w ix mh mr has rows h1 h.inv.nd h.rng (by have := h.len; omega)
theorem IM.posting {M X : Nat → Prop} {w : World} {ix : Nat} {has : List (Int × List Lab)} {rows : List (LabK × List Int)} (h : IM M X w ix has rows) (nm vl : ByteArray) : Fx Tryz.prog 191 [pp ix, .string nm, .string vl] w (fun u w' => Row w' 3 1 u ((lookM rows (nm, vl)).getD []).length (ints ((lookM rows (nm, vl)).getD [])) ∧ Fresh w.heap.size u ∧ Grow w w') := by
 obtain ⟨mh, mr, h1, h2⟩ := h.at_
 exact posting_ok _ w ix mh mr has rows h1 (fun t ht => by have := h.bd t ht; omega) nm vl
theorem IM.size {M X : Nat → Prop} {w : World} {ix : Nat} {has : List (Int × List Lab)} {rows : List (LabK × List Int)} (h : IM M X w ix has rows) : Fx Tryz.prog 180 [pp ix] w (fun u w' => u = .int .i64 rows.length ∧ w = w') := by
 obtain ⟨mh, mr, h1, h2⟩ := h.at_
 exact idxLen_ok _ w ix mh mr has rows h1
theorem find1M_ok (h : Mt → List Lab → Bool) (ms : List Mt) (hh : ∀ m ∈ ms, HoldsC h m) (M : Nat → Prop) (w : World) (ix mh mr : Nat) (has : List (Int × List Lab)) (rows : List (LabK × List Int)) (hi : IdxAt M w ix mh mr has rows) (hsz : ∀ t ∈ has, ∀ x ∈ t.2, x.value.size ≤ 100000) (b2 b3 : Nat) (vm : Value) (hm : SlM No w vm ms) (hb2 : Blk w b2 187 [pp ix]) (hb3 : Blk w b3 24 [vm]) (id : Int) :
  Fx Tryz.prog 193 [.int .i64 id, pp b3, pp b2] w (fun u w' => u = .bool (!ms.all fun m => h m ((lookM has id).getD [])) ∧ Grow w w') := by
 obtain ⟨l, hl1, hl2, hl3⟩ := hi.hl
 obtain ⟨adm, cm, rfl⟩ := hm.shape
 obtain ⟨ls, hls⟩ : ∃ ls, (lookM has id).getD [] = ls := ⟨_, rfl⟩
 rw [hls]
 have hlz : ∀ x ∈ ls, x.value.size ≤ 100000 := by
  intro x hx
  cases hl9 : lookM has id with
  | none => rw [hl9] at hls; simp at hls; subst hls; cases hx
  | some q => rw [hl9] at hls; simp at hls; subst hls; exact hsz _ (lookM_mem hl9) x hx
 obtain ⟨vl, hvl, hv⟩ : ∃ vl, (lookM (l.map fun t => (t.1, t.2.2)) id).getD (.slice none 0 0) = vl ∧ SlL M w vl ls := by
  have e1 := lookM_map (fun a : List Lab × Value => a.1) id l
  have e2 := lookM_map (fun a : List Lab × Value => a.2) id l
  rw [hl1] at e1
  rw [e1] at hls
  rw [e2]
  cases hh : lookM l id with
  | none => rw [hh] at hls; simp at hls; subst hls; exact ⟨_, rfl, Sl.nil _ _ _ _ _⟩
  | some a => rw [hh] at hls; simp at hls; subst hls; exact ⟨_, rfl, hl3 _ (lookM_mem hh)⟩
 refine enter Tryz.func193 rfl rfl rfl _ (Pick.sub (l := [0, 1, 2]) (.cons rfl (.cons rfl (.cons rfl .nil)))) ?_
 refine GG ?_
 refine RK.drawM No [(0, false), (1, false), (2, false), (3, false), (4, false), (5, false), (6, false), (7, true), (8, false), (9, false)] [] mixed (by kernel_rfl) ?_
 refine DQ (Yld.load p24 rfl (atM (hb3.cell rfl) (fun h => h))) (Mod.drew _ _) ?_
 refine DQ (Yld.load p187 rfl (atM (hb2.cell rfl) (fun h => h))) (Mod.drew _ _) ?_
 refine DL.p rfl rfl rfl ?_
 refine DF (Yld.fieldAddr fo240_0 rfl) ?_
 refine DQ (Yld.load p237 rfl (atM (hi.blk.cell rfl) (fun h => h))) (Mod.drew _ _) ?_
 refine DL.p rfl rfl rfl ?_
 refine DQ (Yld.lookup Tryz.underlying237 key3 i33 (k := id) rfl rfl (fun w' hm => hl2.mod hm (fun h => h))) (Mod.drew _ _) ?_
 refine DL.re (d := 11) rfl rfl (hvl) ?_
 refine OD (Does.call rfl e104 (allM_ok h ms hh M No ls hlz _ vl _ (hm.mod (Mod.drew _ _)) (hv.mod (Mod.drew _ _)))) ?_
 rintro _ w2 ⟨rfl, hg2⟩
 refine ⟨(Mod.drew _ _).trans hg2, ?_⟩
 refine GG ?_
 refine RK.ret_of Tryz.func193 (res1 rfl rfl) ?_ _
 exact ⟨_, rfl, rfl, (Mod.drew _ _).trans hg2⟩
theorem IM.find {M X : Nat → Prop} {w : World} {ix : Nat} {has : List (Int × List Lab)} {rows : List (LabK × List Int)} (hI : IM M X w ix has rows) (h : Mt → List Lab → Bool) (ms : List Mt) (hh : ∀ m ∈ ms, HoldsC h m) (heq : ∀ m ∈ ms, m.kind = 1 → m.value ≠ ByteArray.empty → ∀ ls, h m ls = true → getL ls m.name = m.value) (v : Value) (hv : SlM No w v ms) :
  Fx Tryz.prog 138 [pp ix, v] w (fun u w' => (∃ R : List Int, Row w' 3 1 u R.length (ints R) ∧ Ris R ∧ ∀ id, id ∈ R ↔ ∃ ls, (id, ls) ∈ has ∧ (ms.all fun m => h m ls) = true) ∧ Fresh w.heap.size u ∧ Grow w w') := by
 obtain ⟨mh, mr, hi, h2⟩ := hI.at_
 obtain ⟨adm, cm, rfl⟩ := hv.shape
 have hlook : ∀ id ls, (id, ls) ∈ has → (lookM has id).getD [] = ls := fun id ls hm => by rw [(lookM_iff hI.inv.nd).2 hm]; rfl
 have hids : (idsS has).length = has.length := by unfold idsS; rw [sortI_len]; simp
 have hl1000 := hI.len
 have hbig := hv.big
 have hpost : ∀ m ∈ ms, m.kind = 1 → m.value ≠ ByteArray.empty → ∀ id ls, (id, ls) ∈ has → h m ls = true → id ∈ (lookM rows (m.name, m.value)).getD [] := fun m hm hk hne id ls hmem hho => by
  have hg := heq m hm hk hne ls hho
  refine (hI.inv.mem _ _).2 ⟨ls, hmem, ?_⟩
  unfold getL at hg
  cases hf : ls.find? (fun x => decide (x.name = m.name)) with
  | none => rw [hf] at hg; exact absurd hg.symm hne
  | some x =>
   rw [hf] at hg
   have hx := List.find?_some hf
   refine ⟨x, List.mem_of_find?_eq_some hf, ?_⟩
   simp only [labK]
   rw [show x.name = m.name by simpa using hx, show x.value = m.value by simpa using hg]
 refine enter Tryz.func138 rfl rfl rfl _ (Pick.sub (l := [0, 1]) (.cons rfl (.cons rfl .nil))) ?_
 refine GG ?_
 refine OP (Does.box rfl) ?_
 rintro _ w1 ⟨b2, rfl, hn2⟩
 refine OP (Does.box rfl) ?_
 rintro _ w2 ⟨b3, rfl, hn3⟩
 have hg02 := hn2.grow.trans hn3.grow
 have hB2 := hn2.blk.mod hn3.grow (fun h => h)
 have hB3 := hn3.blk
 refine GG ?_
 refine QQ (Yld.load p187 rfl (at1 (hB2.cell rfl))) ?_
 refine OP (Does.call rfl e189 ((hI.grow hg02).ids)) ?_
 rintro u3 w3 ⟨hr3, hf3, hg3⟩
 refine GG ?_
 refine QQ (Yld.load p24 rfl (at1 ((hB3.mod hg3 (fun h => h)).cell rfl))) ?_
 have hg03 := hg02.trans hg3
 have hs02 := hg02.size
 refine QQ (Yld.lenSl u24 rfl) ?_
 refine GG ?_
 refine RK.loop (fun s : Nat × Value => [(2, pp b2), (3, pp b3), (10, .slice adm ms.length cm), (11, .int .i64 ms.length), (12, .int .i64 (s.1 : Int)), (5, s.2)]) (fun s w' => (∃ R : List Int, Row w' 3 1 s.2 R.length (ints R) ∧ Ris R ∧ (∀ id ∈ R, id ∈ idsS has) ∧ R.length ≤ 1000 ∧ ∀ id ls, (id, ls) ∈ has → (ms.all fun m => h m ls) = true → id ∈ R) ∧ Fresh w2.heap.size s.2 ∧ Grow w2 w' ∧ s.1 ≤ ms.length) (fun s => ms.length - s.1) (0, u3) ⟨rfl, rfl, rfl, rfl, rfl, rfl, trivial⟩ ⟨⟨idsS has, hr3, idsS_ris hI.inv.nd, fun id h => h, by omega, fun id ls hm _ => mem_idsS.2 (List.mem_map_of_mem (f := fun t : Int × List Lab => t.1) hm)⟩, hf3, hg3, by simp⟩ (fun s w' hI' ih => ?_)
 obtain ⟨k, u⟩ := s
 obtain ⟨⟨R, hr, hris, hsub, hRl, hall⟩, hf, hg, hk⟩ := hI'
 simp only at hr hf hk
 have hg0 := hg02.trans hg
 refine GG ?_
 refine CD (fun h13 => ?_) (fun h13 => ?_)
 ·obtain ⟨x, hx⟩ : ∃ x, ms[k]? = some x := ⟨ms[k]'(by omega), List.getElem?_eq_getElem (by omega)⟩
  obtain ⟨b1, o1, c1', he1, _, _, hc1⟩ := hv.elem mtC_len hx
  cases he1
  refine GG ?_
  refine QQ (Yld.indexAddrN u24 i135 rfl rfl (by omega)) ?_
  refine QQ (Yld.loadN (cs := [.int .i64 x.kind, .string x.name, .string x.value]) a135 rfl (atN (fun q z hq => hg0.cell (hc1 q z hq) (fun h => h)))) ?_
  refine OP (Does.alloc i135) ?_
  rintro _ w7 ⟨b7, rfl, hn7⟩
  refine OQ (Does.storeN i135 rfl rfl rfl rfl hn7.blk (Nat.le_refl 3)) ?_
  rintro _ w8 ⟨hb8, hm8, _⟩
  have hB8 : Blk w8 b7 135 [.int .i64 x.kind, .string x.name, .string x.value] := hb8
  have hg8 : Grow w' w8 := hn7.grow.then hm8 (fun y hy e => by have e' : y = b7 := e; have := hn7.at_; omega)
  refine GG ?_
  refine QQ (Yld.fieldAddr fo135_0 rfl) ?_
  refine QQ (Yld.load p3 rfl (at1 (hB8.cell rfl))) ?_
  refine GG ?_
  refine SP 19 (fun h19 => ?_) (fun h19 => ?_)
  ·refine QQ (Yld.fieldAddr fo135_2 rfl) ?_
   refine QQ (Yld.load p9 rfl (at1 (hB8.cell rfl))) ?_
   refine QQ (Yld.pure rfl) ?_
   refine GG ?_
   refine CD (fun h23 => ?_) (fun h23 => ?_)
   ·refine GG ?_
    refine QQ (Yld.load p187 rfl (at1 ((hB2.mod (hg.trans hg8) (fun h => h)).cell rfl))) ?_
    refine QQ (Yld.fieldAddr fo135_1 rfl) ?_
    refine QQ (Yld.load p9 rfl (at1 (hB8.cell rfl))) ?_
    refine QQ (Yld.fieldAddr fo135_2 rfl) ?_
    refine QQ (Yld.load p9 rfl (at1 (hB8.cell rfl))) ?_
    refine OP (Does.call rfl e191 ((hI.grow (hg0.trans hg8)).posting x.name x.value)) ?_
    rintro u9 w9 ⟨hr9, hf9, hg9⟩
    refine OP (Does.call rfl e190 (and_ok No R ((lookM rows (x.name, x.value)).getD []) u u9 _ (Sl.own (hr.mod (hg8.trans hg9) (fun _ _ h => h)) (fun _ _ h => h)) (Sl.own hr9 (fun _ _ h => h)) (by omega))) ?_
    rintro u10 w10 ⟨hr10, hf10, hg10⟩
    rw [mkRow_id hris] at hr10
    have hg210 := ((hg.trans hg8).trans hg9).trans hg10
    refine RL.p rfl rfl ?_
    refine RL.done ?_
    refine RK.inBlock ?_
    refine RK.region ?_
    refine RL.p rfl rfl ?_
    refine RL.re (d := 32) rfl rfl (succ_i64 (by omega)) ?_
    refine GG ?_
    exact RK.back (ih (k + 1, u10) _ ⟨⟨R.filter fun n => ((lookM rows (x.name, x.value)).getD []).contains n, hr10, hris.sublist List.filter_sublist, fun id hid => hsub id (List.mem_filter.1 hid).1, Nat.le_trans (List.length_filter_le _ _) hRl, fun id ls hm hal => List.mem_filter.2 ⟨hall id ls hm hal, by
      have := hpost x (List.mem_of_getElem? hx) (by first | assumption | (simp_all; done)) (by first | assumption | (simp_all; done)) id ls hm (List.all_eq_true.1 hal x (List.mem_of_getElem? hx))
      simpa using this⟩⟩, fun b e => by have := hf10 b e; have := ((hg.trans hg8).trans hg9).size; omega, hg210, by simp only; omega⟩ (by simp only; omega)) ⟨rfl, rfl, rfl, rfl, rfl, rfl, trivial⟩
   ·refine RK.skip ?_
    refine RK.inBlock ?_
    refine RK.region ?_
    refine RL.p rfl rfl ?_
    refine RL.re (d := 32) rfl rfl (succ_i64 (by omega)) ?_
    refine GG ?_
    exact RK.back (ih (k + 1, u) _ ⟨⟨R, hr.mod hg8 (fun _ _ h => h), hris, hsub, hRl, hall⟩, hf, hg.trans hg8, by simp only; omega⟩ (by simp only; omega)) ⟨rfl, rfl, rfl, rfl, rfl, rfl, trivial⟩
  ·iterate 3 refine RL.no (.no rfl rfl rfl rfl) rfl rfl ?_
   refine GG ?_
   refine CD (fun h23 => ?_) (fun h23 => ?_)
   ·refine GG ?_
    refine QQ (Yld.load p187 rfl (at1 ((hB2.mod (hg.trans hg8) (fun h => h)).cell rfl))) ?_
    refine QQ (Yld.fieldAddr fo135_1 rfl) ?_
    refine QQ (Yld.load p9 rfl (at1 (hB8.cell rfl))) ?_
    refine QQ (Yld.fieldAddr fo135_2 rfl) ?_
    refine QQ (Yld.load p9 rfl (at1 (hB8.cell rfl))) ?_
    refine OP (Does.call rfl e191 ((hI.grow (hg0.trans hg8)).posting x.name x.value)) ?_
    rintro u9 w9 ⟨hr9, hf9, hg9⟩
    refine OP (Does.call rfl e190 (and_ok No R ((lookM rows (x.name, x.value)).getD []) u u9 _ (Sl.own (hr.mod (hg8.trans hg9) (fun _ _ h => h)) (fun _ _ h => h)) (Sl.own hr9 (fun _ _ h => h)) (by omega))) ?_
    rintro u10 w10 ⟨hr10, hf10, hg10⟩
    rw [mkRow_id hris] at hr10
    have hg210 := ((hg.trans hg8).trans hg9).trans hg10
    refine RL.p rfl rfl ?_
    refine RL.done ?_
    refine RK.inBlock ?_
    refine RK.region ?_
    refine RL.p rfl rfl ?_
    refine RL.re (d := 32) rfl rfl (succ_i64 (by omega)) ?_
    refine GG ?_
    exact RK.back (ih (k + 1, u10) _ ⟨⟨R.filter fun n => ((lookM rows (x.name, x.value)).getD []).contains n, hr10, hris.sublist List.filter_sublist, fun id hid => hsub id (List.mem_filter.1 hid).1, Nat.le_trans (List.length_filter_le _ _) hRl, fun id ls hm hal => List.mem_filter.2 ⟨hall id ls hm hal, by
      have := hpost x (List.mem_of_getElem? hx) (by first | assumption | (simp_all; done)) (by first | assumption | (simp_all; done)) id ls hm (List.all_eq_true.1 hal x (List.mem_of_getElem? hx))
      simpa using this⟩⟩, fun b e => by have := hf10 b e; have := ((hg.trans hg8).trans hg9).size; omega, hg210, by simp only; omega⟩ (by simp only; omega)) ⟨rfl, rfl, rfl, rfl, rfl, rfl, trivial⟩
   ·refine RK.skip ?_
    refine RK.inBlock ?_
    refine RK.region ?_
    refine RL.p rfl rfl ?_
    refine RL.re (d := 32) rfl rfl (succ_i64 (by omega)) ?_
    refine GG ?_
    exact RK.back (ih (k + 1, u) _ ⟨⟨R, hr.mod hg8 (fun _ _ h => h), hris, hsub, hRl, hall⟩, hf, hg.trans hg8, by simp only; omega⟩ (by simp only; omega)) ⟨rfl, rfl, rfl, rfl, rfl, rfl, trivial⟩
 ·refine RK.exit rfl ?_
  refine GG ?_
  refine OP (Does.call rfl e192 (deleteFuncI_ok w2 R u _ (fun id => !ms.all fun m => h m ((lookM has id).getD [])) _ hr hf hg ⟨_, _, rfl, e193, fun n w9 hg9 => find1M_ok h ms hh _ w9 ix mh mr has rows (hi.mod (hg02.trans hg9) (fun _ _ h => h.elim) (fun h => h) (fun h => h) (fun h => h)) (fun t ht x hx => by have := isS_val (hI.sets t ht) x hx; omega) b2 b3 _ (hv.mod (hg02.trans hg9)) (hB2.mod hg9 (fun h => h)) (hB3.mod hg9 (fun h => h)) n⟩)) ?_
  rintro u9 w9 ⟨hr9, hu9, hm9⟩
  refine GG ?_
  refine RK.ret_of Tryz.func138 (res1 rfl rfl) ?_ _
  exact ⟨_, rfl, ⟨_, hr9, hris.sublist List.filter_sublist, fun id => by
    unfold keepI
    rw [List.mem_filter]
    dsimp only
    constructor
    ·rintro ⟨a, b⟩
     obtain ⟨t, ht, e⟩ := List.mem_map.1 (mem_idsS.1 (hsub id a))
     have e2 := hlook t.1 t.2 ht
     subst e
     rw [e2] at b
     exact ⟨t.2, ht, by simpa using b⟩
    ·rintro ⟨ls, hm, hal⟩
     refine ⟨hall id ls hm hal, ?_⟩
     rw [hlook id ls hm, hal]; rfl⟩, fun b e => by rw [hu9] at e; have := hf b e; omega, (hg02.trans hg).then hm9 (fun b hb e => by have := hf b e; omega)⟩
end Go.Proofs.YthbjfhhiajihfaaGreat
set_option linter.unusedVariables false
set_option linter.unusedSimpArgs false
set_option maxHeartbeats 800000
set_option maxRecDepth 100000
namespace Go.Proofs.YthbjfhhiajihfaaGreat
open Go Go.X
end Go.Proofs.YthbjfhhiajihfaaGreat
set_option linter.unusedVariables false
set_option linter.unusedSimpArgs false
set_option maxHeartbeats 1000000
set_option maxRecDepth 100000
namespace Go.Proofs.YthbjfhhiajihfaaGreat
open Go Go.X Go.Rex
@[irreducible] def fitS (s : ByteArray) : Bool := match parseS s with
 | some x => decide (sz x + 1 ≤ 40)
 | none => false
@[irreducible] def patS (s : ByteArray) : Bool := (parseS s).isSome
@[irreducible] def isM (m : Mt) : Bool := nameS m.name && (if likeS m then patS m.value else decide ((m.kind = 1 ∨ m.kind = 2) ∧ m.value.size ≤ 24))
@[irreducible] def largeM (m : Mt) : Bool := isM m && likeS m && !fitS m.value
@[irreducible] noncomputable def takesS (s v : ByteArray) : Bool := match parseS s with
 | some x => takes x v
 | none => false
@[irreducible] noncomputable def holdsM (m : Mt) (ls : List Lab) : Bool := isM m && !largeM m && (if m.kind = 1 then decide (getL ls m.name = m.value) else if m.kind = 2 then !decide (getL ls m.name = m.value) else takesS m.value (getL ls m.name) == decide (m.kind = 3))
theorem getL_size {ls : List Lab} (hz : ∀ x ∈ ls, x.value.size ≤ 100000) (nm : ByteArray) : (getL ls nm).size ≤ 100000 := by
 unfold getL
 cases hf : ls.find? fun x => decide (x.name = nm) with
 | none => show (0 : Nat) ≤ 100000; omega
 | some x => exact hz x (List.mem_of_find?_eq_some hf)
theorem holdsM_eq {m : Mt} {ls : List Lab} (hk : m.kind = 1) (h : holdsM m ls = true) : getL ls m.name = m.value := by
 unfold holdsM at h
 simp only [Bool.and_eq_true, if_pos hk, decide_eq_true_eq] at h
 exact h.2
theorem like_kind {m : Mt} (h : likeS m = true) : m.kind = 3 ∨ m.kind = 4 := by unfold likeS at h; simpa using h
theorem isM_kind {m : Mt} (h : isM m = true) : m.kind = 1 ∨ m.kind = 2 ∨ m.kind = 3 ∨ m.kind = 4 := by
 unfold isM at h
 simp only [Bool.and_eq_true] at h
 cases hl : likeS m with
 | true => have := like_kind hl; omega
 | false => rw [hl] at h; simp at h; omega
theorem isM_pat {m : Mt} (h : isM m = true) (hl : likeS m = true) : patS m.value = true := by
 unfold isM at h
 rw [hl] at h
 simp only [Bool.and_eq_true, if_true] at h
 exact h.2
theorem pat_parse {s : ByteArray} (h : patS s = true) : ∃ x, parseS s = some x := by unfold patS at h; exact Option.isSome_iff_exists.1 h
theorem parse_sz' {s : ByteArray} {x : Rx} (h : parseS s = some x) : sz x ≤ 80 := parse_sz (fun x j h => (par_adv s 8 0 x j (Nat.zero_le _) h).2) h
theorem matchIs_ok (m : Mt) (w : World) : Fx Tryz.prog 186 [.agg #[.int .i64 m.kind, .string m.name, .string m.value]] w (fun u w' => u = .bool (isM m) ∧ Grow w w') := by
 cases hlk : likeS m with
 | false =>
  refine Fx.mono (isV_ok m hlk w) ?_
  rintro u w' ⟨rfl, hg⟩
  refine ⟨congrArg _ ?_, hg⟩
  unfold isM isV
  rw [hlk]; rfl
 | true =>
  refine enter Tryz.func186 rfl rfl rfl _ (Pick.sub (l := [0]) (.cons rfl .nil)) ?_
  refine GG ?_
  refine OP (Does.box rfl) ?_
  rintro _ w1 ⟨b1, rfl, hn1⟩
  refine GG ?_
  refine QQ (Yld.fieldAddr fo135_1 rfl) ?_
  refine QQ (Yld.load p9 rfl (at1 (hn1.blk.cell rfl))) ?_
  refine OP (Does.call rfl e219 (name_ok _ _)) ?_
  rintro _ _ ⟨rfl, rfl⟩
  refine GG ?_
  refine CD (fun h8 => ?_) (fun h8 => ?_)
  ·refine GG ?_
   refine RK.ret_of Tryz.func186 (res1 rfl rfl) ?_ _
   exact ⟨_, rfl, congrArg _ (by unfold isM; simp at h8; rw [h8]; rfl), hn1.grow⟩
  ·refine GG ?_
   refine QQ (Yld.loadN (cs := [.int .i64 m.kind, .string m.name, .string m.value]) a135 rfl (atN (blk0' hn1.blk))) ?_
   refine OP (Does.call rfl e229 (like_ok m _)) ?_
   rintro _ w2 ⟨rfl, hg2⟩
   refine RL.done ?_
   refine RK.condT (hcT rfl (hlk)) ?_
   refine GG ?_
   refine QQ (Yld.fieldAddr fo135_2 rfl) ?_
   refine QQ (Yld.load p9 rfl (at1 ((hn1.blk.mod hg2 (fun h => h)).cell rfl))) ?_
   refine OP (Does.call rfl e230 (parse_ok m.value _)) ?_
   rintro _ w3 ⟨c, rfl, hg3, hx⟩
   refine GG ?_
   refine OP (Does.alloc i224) ?_
   rintro _ w4 ⟨b3, rfl, hn3⟩
   refine OQ (Does.storeN i224 rfl rfl rfl rfl hn3.blk (Nat.le_refl 6)) ?_
   rintro _ w5 ⟨hb5, hm5, _⟩
   refine GG ?_
   refine RK.ret_of Tryz.func186 (res1 rfl rfl) ?_ _
   exact ⟨_, rfl, congrArg _ (by unfold isM patS; simp at h8; rw [h8, hlk]; rfl), (((hn1.grow.trans hg2).trans hg3).trans hn3.grow).then hm5 (fun y hy e => by have e' : y = b3 := e; have := hn3.at_; have := ((hn1.grow.trans hg2).trans hg3).size; omega)⟩
theorem program_ok (m : Mt) (hp : patS m.value = true) (w : World) : Fx Tryz.prog 211 [.agg #[.int .i64 m.kind, .string m.name, .string m.value]] w (fun u w' => (∃ v, u = .tuple #[v, .bool (fitS m.value)] ∧ (fitS m.value = true → ∃ x, parseS m.value = some x ∧ sz x + 1 ≤ 40 ∧ RowS w' v (whole x))) ∧ Grow w w') := by
 obtain ⟨x, hx⟩ := pat_parse hp
 have ht := parse_tr hx
 have hsz := parse_sz' hx
 have hfit : fitS m.value = decide (sz x + 1 ≤ 40) := by unfold fitS; rw [hx]
 refine enter Tryz.func211 rfl rfl rfl _ (Pick.sub (l := [0]) (.cons rfl .nil)) ?_
 refine GG ?_
 refine OP (Does.box rfl) ?_
 rintro _ w1 ⟨b1, rfl, hn1⟩
 refine GG ?_
 refine QQ (Yld.fieldAddr fo135_2 rfl) ?_
 refine QQ (Yld.load p9 rfl (at1 (hn1.blk.cell rfl))) ?_
 refine OP (Does.call rfl e230 (parse_ok m.value _)) ?_
 rintro _ w3 ⟨c, rfl, hg3, hxx⟩
 have hv3 := hxx x hx
 have hsm : (parseS m.value).isSome = true := by rw [hx]; rfl
 rw [hsm]
 refine GG ?_
 refine OP (Does.alloc i224) ?_
 rintro _ w4 ⟨b3, rfl, hn3⟩
 refine OQ (Does.storeN i224 rfl rfl rfl rfl hn3.blk (Nat.le_refl 6)) ?_
 rintro _ w5 ⟨hb5, hm5, _⟩
 have hB5 : Blk w5 b3 224 (celC c) := hb5
 have hg5 : Grow w3 w5 := hn3.grow.then hm5 (fun y hy e => by have e' : y = b3 := e; have := hn3.at_; omega)
 refine GG ?_
 refine RK.condF (hcF rfl (rfl)) ?_
 refine GG ?_
 refine QQ (Yld.loadN (cs := celC c) a224 rfl (atN (blk0' hB5))) ?_
 refine OP (Does.call rfl e257 (progMake_ok x ht (by omega) _ c _ (RxV.grow hg5 x hv3))) ?_
 rintro _ w6 ⟨⟨v, rfl, hrow⟩, hg6⟩
 refine GG ?_
 refine RK.ret_of Tryz.func211 (res2 rfl rfl rfl) ?_ _
 exact ⟨_, rfl, ⟨v, by rw [hfit], fun hf => ⟨x, hx, by rw [hfit] at hf; simpa using hf, hrow (by rw [hfit] at hf; simpa using hf)⟩⟩, ((hn1.grow.trans hg3).trans hg5).trans hg6⟩
theorem large_no {m : Mt} (h : isM m = false) : largeM m = false := by unfold largeM; rw [h]; rfl
theorem large_no2 {m : Mt} (h : likeS m = false) : largeM m = false := by unfold largeM; rw [h]; simp
theorem large_yes {m : Mt} (h1 : isM m = true) (h2 : likeS m = true) : largeM m = !fitS m.value := by unfold largeM; rw [h1, h2]; rfl
theorem matchLarge_ok (m : Mt) (w : World) : Fx Tryz.prog 188 [.agg #[.int .i64 m.kind, .string m.name, .string m.value]] w (fun u w' => u = .bool (largeM m) ∧ Grow w w') := by
 refine enter Tryz.func188 rfl rfl rfl _ (Pick.sub (l := [0]) (.cons rfl .nil)) ?_
 refine GG ?_
 refine OP (Does.box rfl) ?_
 rintro _ w1 ⟨b1, rfl, hn1⟩
 have hB1 : Blk w1 b1 135 [.int .i64 m.kind, .string m.name, .string m.value] := hn1.blk
 refine GG ?_
 refine QQ (Yld.loadN (cs := [.int .i64 m.kind, .string m.name, .string m.value]) a135 rfl (atN (blk0' hB1))) ?_
 refine OP (Does.call rfl e229 (like_ok m _)) ?_
 rintro _ w2 ⟨rfl, hg2⟩
 have hB2 := hB1.mod hg2 (fun h => h)
 refine GG ?_
 refine SP 8 (fun h8 => ?_) (fun h8 => ?_)
 ·have hl : likeS m = false := by unfold likeS; simpa using h8
  iterate 3 refine RL.no (.no rfl rfl rfl rfl) rfl rfl ?_
  refine GG ?_
  refine RK.condT (hcT rfl (rfl)) ?_
  refine GG ?_
  refine RK.ret_of Tryz.func188 (res1 rfl rfl) ?_ _
  exact ⟨_, rfl, by rw [large_no2 hl], hn1.grow.trans hg2⟩
 ·have hl : likeS m = true := by unfold likeS; simpa using h8
  refine QQ (Yld.loadN (cs := [.int .i64 m.kind, .string m.name, .string m.value]) a135 rfl (atN (blk0' hB2))) ?_
  refine OP (Does.call rfl e186 (matchIs_ok m _)) ?_
  rintro _ w3 ⟨rfl, hg3⟩
  have hB3 := hB2.mod hg3 (fun h => h)
  refine QQ (Yld.pure rfl) ?_
  refine GG ?_
  refine CD (fun h12 => ?_) (fun h12 => ?_)
  ·have his : isM m = false := by simpa using h12
   refine GG ?_
   refine RK.ret_of Tryz.func188 (res1 rfl rfl) ?_ _
   exact ⟨_, rfl, by rw [large_no his], (hn1.grow.trans hg2).trans hg3⟩
  ·have his : isM m = true := by simpa using h12
   refine GG ?_
   refine QQ (Yld.loadN (cs := [.int .i64 m.kind, .string m.name, .string m.value]) a135 rfl (atN (blk0' hB3))) ?_
   refine OP (Does.call rfl e211 (program_ok m (isM_pat his hl) _)) ?_
   rintro _ w4 ⟨⟨v, rfl, _⟩, hg4⟩
   refine GG ?_
   refine RK.ret_of Tryz.func188 (res1 rfl rfl) ?_ _
   exact ⟨_, rfl, by rw [large_yes his hl], ((hn1.grow.trans hg2).trans hg3).trans hg4⟩
theorem matchHolds_ok (m : Mt) : HoldsC holdsM m := by
 intro M ls v w hz hv
 obtain ⟨ad, c, rfl⟩ := hv.shape
 have hgz := getL_size hz m.name
 refine enter Tryz.func157 rfl rfl rfl _ (Pick.sub (l := [0, 1]) (.cons rfl (.cons rfl .nil))) ?_
 refine GG ?_
 refine OP (Does.box rfl) ?_
 rintro _ w1 ⟨b1, rfl, hn1⟩
 have hB1 : Blk w1 b1 135 [.int .i64 m.kind, .string m.name, .string m.value] := hn1.blk
 refine GG ?_
 refine QQ (Yld.loadN (cs := [.int .i64 m.kind, .string m.name, .string m.value]) a135 rfl (atN (blk0' hB1))) ?_
 refine OP (Does.call rfl e186 (matchIs_ok m _)) ?_
 rintro _ w2 ⟨rfl, hg2⟩
 have hg02 := hn1.grow.trans hg2
 refine GG ?_
 refine CD (fun h10 => ?_) (fun h10 => ?_)
 ·refine GG ?_
  refine RK.ret_of Tryz.func157 (res1 rfl rfl) ?_ _
  exact ⟨_, rfl, congrArg _ (by simp at h10; unfold holdsM; rw [h10]; rfl), hg02⟩
 ·have his : isM m = true := by simpa using h10
  have hk := isM_kind his
  refine GG ?_
  refine QQ (Yld.fieldAddr fo135_1 rfl) ?_
  refine QQ (Yld.load p9 rfl (at1 ((hB1.mod hg2 (fun h => h)).cell rfl))) ?_
  refine OP (Does.call rfl e198 (labelsGet_ok M ls _ m.name _ (hv.mod (Mod.any' hg02)))) ?_
  rintro _ w3 ⟨rfl, hg3⟩
  have hB3 := (hB1.mod hg2 (fun h => h)).mod hg3 (fun h => h)
  have hg03 := hg02.trans hg3
  refine GG ?_
  refine QQ (Yld.fieldAddr fo135_0 rfl) ?_
  refine QQ (Yld.load p3 rfl (at1 (hB3.cell rfl))) ?_
  refine GG ?_
  refine CD (fun h17 => ?_) (fun h17 => ?_)
  ·have hnl : largeM m = false := large_no2 (by unfold likeS; simp; omega)
   refine GG ?_
   refine QQ (Yld.fieldAddr fo135_2 rfl) ?_
   refine QQ (Yld.load p9 rfl (at1 (hB3.cell rfl))) ?_
   refine GG ?_
   refine RK.ret_of Tryz.func157 (res1 rfl rfl) ?_ _
   exact ⟨_, rfl, congrArg _ (by unfold holdsM; rw [his, hnl, if_pos h17]; rfl), hg03⟩
  ·refine GG ?_
   refine CD (fun h23 => ?_) (fun h23 => ?_)
   ·have hnl : largeM m = false := large_no2 (by unfold likeS; simp; omega)
    refine GG ?_
    refine QQ (Yld.fieldAddr fo135_2 rfl) ?_
    refine QQ (Yld.load p9 rfl (at1 (hB3.cell rfl))) ?_
    refine GG ?_
    refine RK.ret_of Tryz.func157 (res1 rfl rfl) ?_ _
    exact ⟨_, rfl, congrArg _ (by unfold holdsM; rw [his, hnl, if_neg h17, if_pos h23]; rfl), hg03⟩
   ·have hl : likeS m = true := by unfold likeS; simp; omega
    have hlg := large_yes his hl
    refine GG ?_
    refine QQ (Yld.loadN (cs := [.int .i64 m.kind, .string m.name, .string m.value]) a135 rfl (atN (blk0' hB3))) ?_
    refine OP (Does.call rfl e211 (program_ok m (isM_pat his hl) _)) ?_
    rintro _ w4 ⟨⟨v4, rfl, hrow⟩, hg4⟩
    have hB4 := hB3.mod hg4 (fun h => h)
    have hg04 := hg03.trans hg4
    refine GG ?_
    refine RK.drawM No [(0, false), (1, false), (2, false), (3, false), (5, false), (6, false), (7, false), (4, true), (8, false), (9, false), (10, false)] [] mixed (by kernel_rfl) ?_
    refine GG ?_
    refine SD 35 (fun h34 => ?_) (fun h34 => ?_)
    ·obtain ⟨x, hx, hsz, hr⟩ := hrow h34
     obtain ⟨ad4, c4, rfl, hc4⟩ := hr.cap
     have hnl : largeM m = false := by rw [hlg, h34]; rfl
     have htk : takesS m.value (getL ls m.name) = takes x (getL ls m.name) := by unfold takesS; rw [hx]
     iterate 2 refine DF (Yld.pure rfl) ?_
     refine DF (Yld.fieldAddr fo135_0 rfl) ?_
     refine DQ (Yld.load p3 rfl (atM (hB4.cell rfl) (fun h => h))) (Mod.drew _ _) ?_
     refine DF (Yld.pure rfl) ?_
     refine OD (Does.call rfl e212 (scanMatch_ok x (parse_tr hx) hsz _ (getL ls m.name) (by omega) _ ((Sl.own hr (fun _ _ h => h)).mod (Mod.drew _ _)) ⟨ad4, c4, rfl, hc4⟩)) ?_
     rintro _ w5 ⟨rfl, hg5⟩
     have hgd : Grow w4 w5 := (Mod.drew _ _).trans hg5
     refine ⟨hgd, ?_⟩
     refine DF (Yld.eqBool u4 rfl rfl) ?_
     refine GG ?_
     refine RK.ret_of Tryz.func157 (res1 rfl rfl) ?_ _
     exact ⟨_, rfl, congrArg _ (by
       unfold holdsM
       rw [his, hnl, if_neg h17, if_neg h23, htk]
       cases takes x (getL ls m.name) <;> simp), hg04.trans hgd⟩
    ·have hnl : largeM m = true := by rw [hlg, h34]; rfl
     iterate 5 refine DL.no rfl (.no rfl rfl rfl rfl) rfl rfl ?_
     refine DL.lno rfl (.no rfl rfl rfl rfl) rfl rfl ?_
     refine DL.no rfl (.no rfl rfl rfl rfl) rfl rfl ?_
     refine GG ?_
     refine RK.ret_of Tryz.func157 (res1 rfl rfl) ?_ _
     exact ⟨_, rfl, congrArg _ (by unfold holdsM; rw [his, hnl]; rfl), hg04.trans (Mod.drew _ _)⟩
end Go.Proofs.YthbjfhhiajihfaaGreat
