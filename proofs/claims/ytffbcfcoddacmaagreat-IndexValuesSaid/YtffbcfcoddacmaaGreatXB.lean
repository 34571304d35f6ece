/- My own library, second part. Nothing is assumed. -/
import Derived.Test.YtffbcfcoddacmaaGreatXA
import Ieee.Arith
/- What arguments hold, more: strings, pairs of strings, numbers in slices. Nothing is assumed. -/
set_option linter.unusedVariables false
namespace Go.X
open Go Go.RowKit Go.WideShapes Go.ChangeShapes
section
variable {H : Type} {enc : TypeId × Value → H} {P : Program} {W : World} {base : Nat} {sp : Nat → Bool} {held : Bool}
theorem trod_str {s m : Nat} {cs : List Value} {y : DataW H × List MemPlace} (hs : P.underlying s = some .string) (h : DataW.trod enc P W base sp held m s cs = some y) : ∃ a : ByteArray, cs = [.string a] ∧ a.size ≤ 9223372036854775807 := by
  cases m with
  | zero => simp [DataW.trod] at h
  | succ n =>
    unfold DataW.trod at h
    rw [hs] at h
    split at h <;> simp_all
    simp only [maxLen] at h
    omega
theorem trod_pair {t s m : Nat} {f0 f1 : Field} {cs : List Value} {y : DataW H × List MemPlace} (ht : P.underlying t = some (.struct #[f0, f1])) (hs : P.underlying s = some .string) (h0 : f0.type = s) (h1 : f1.type = s) (o0 : f0.offset = 0) (o1 : f1.offset = 1) (c1 : P.cellsOf s = 1) (c2 : P.cellsOf t = 2)
    (h : DataW.trod enc P W base sp held m t cs = some y) : ∃ a b : ByteArray, cs = [.string a, .string b] ∧ a.size ≤ 9223372036854775807 ∧ b.size ≤ 9223372036854775807 := by
  obtain ⟨xs, n, _, _, hl, hxl, hx⟩ := DataW.trod_struct ht h
  rw [c2] at hl
  match cs, hl with
  | [u, v], _ =>
    have e0 := hx 0 f0 (by simp)
    have e1 := hx 1 f1 (by simp)
    rw [h0, o0, c1] at e0
    rw [h1, o1, c1] at e1
    simp only [List.drop_zero, List.take_succ_cons, List.take_zero, List.drop_succ_cons] at e0 e1
    have hs2 : xs.length = 2 := by simpa using hxl
    rw [List.getElem?_eq_getElem (by omega)] at e0 e1
    obtain ⟨a, ha, la⟩ := trod_str hs e0
    obtain ⟨b, hb, lb⟩ := trod_str hs e1
    cases ha
    cases hb
    exact ⟨a, b, rfl, la, lb⟩
theorem trod_f64 {s m : Nat} {cs : List Value} {y : DataW H × List MemPlace} (hs : P.underlying s = some (.float .f64)) (h : DataW.trod enc P W base sp held m s cs = some y) : ∃ b : Nat, cs = [.float .f64 b] ∧ b < 18446744073709551616 := by
  cases m with
  | zero => simp [DataW.trod] at h
  | succ n =>
    unfold DataW.trod at h
    rw [hs] at h
    split at h <;> simp_all
    obtain ⟨⟨rfl, hw⟩, _⟩ := h
    subst_vars
    simpa [Lit.wf] using hw
theorem trod_i64 {s m : Nat} {cs : List Value} {y : DataW H × List MemPlace} (hs : P.underlying s = some (.int .i64)) (h : DataW.trod enc P W base sp held m s cs = some y) : ∃ b : Int, cs = [.int .i64 b] ∧ -9223372036854775808 ≤ b ∧ b ≤ 9223372036854775807 := by
  cases m with
  | zero => simp [DataW.trod] at h
  | succ n =>
    unfold DataW.trod at h
    rw [hs] at h
    split at h <;> simp_all
    obtain ⟨⟨rfl, hw⟩, _⟩ := h
    subst_vars
    simpa [Lit.wf, IntKind.min, IntKind.max, IntKind.signed, IntKind.bits] using hw
end
end Go.X
/- Words of double precision in order: what is less has a lesser key. Nothing is assumed. -/
namespace Go.X
open Ieee

/-- A magnitude's worth, in units of the least place. -/
def worth (r : Nat) : Nat := if r < 4503599627370496 then r else (4503599627370496 + r % 4503599627370496) * 2 ^ (r / 4503599627370496 - 1)
theorem worth_mono {r s : Nat} (h : r ≤ s) : worth r ≤ worth s := by
  unfold worth
  by_cases hs : s < 4503599627370496
  · rw [if_pos hs, if_pos (by omega)]; exact h
  · rw [if_neg hs]
    have hq2 : 1 ≤ s / 4503599627370496 := by omega
    have hge : 4503599627370496 ≤ (4503599627370496 + s % 4503599627370496) * 2 ^ (s / 4503599627370496 - 1) :=
      Nat.le_trans (Nat.le_add_right _ _) (Nat.le_mul_of_pos_right _ (Nat.two_pow_pos _))
    by_cases hr : r < 4503599627370496
    · rw [if_pos hr]; omega
    · rw [if_neg hr]
      have hq1 : 1 ≤ r / 4503599627370496 := by omega
      have hqq : r / 4503599627370496 ≤ s / 4503599627370496 := Nat.div_le_div_right h
      by_cases he : r / 4503599627370496 = s / 4503599627370496
      · rw [he]
        exact Nat.mul_le_mul_right _ (by omega)
      · have h1 : (4503599627370496 + r % 4503599627370496) * 2 ^ (r / 4503599627370496 - 1) ≤ (2 * 4503599627370496) * 2 ^ (r / 4503599627370496 - 1) := Nat.mul_le_mul_right _ (by omega)
        have h2 : (2 * 4503599627370496) * 2 ^ (r / 4503599627370496 - 1) = 4503599627370496 * 2 ^ (r / 4503599627370496) := by
          obtain ⟨q, hq⟩ : ∃ q, r / 4503599627370496 = q + 1 := ⟨r / 4503599627370496 - 1, by omega⟩
          rw [hq, Nat.add_sub_cancel, Nat.pow_succ, Nat.mul_comm 2, Nat.mul_assoc, Nat.mul_comm 2]
        have h3 : 4503599627370496 * 2 ^ (r / 4503599627370496) ≤ 4503599627370496 * 2 ^ (s / 4503599627370496 - 1) := Nat.mul_le_mul_left _ (Nat.pow_le_pow_right (by omega) (by omega))
        have h4 : 4503599627370496 * 2 ^ (s / 4503599627370496 - 1) ≤ (4503599627370496 + s % 4503599627370496) * 2 ^ (s / 4503599627370496 - 1) := Nat.mul_le_mul_right _ (by omega)
        omega
theorem worth_lt {r s : Nat} (h : worth r < worth s) : r < s := Classical.byContradiction fun h' => by
  have := worth_mono (r := s) (s := r) (by omega)
  omega
/-- How a word reads: its sign, and what its magnitude is. -/
theorem read_cases (x : Nat) : (∃ f, double.read x = .nan (x / 9223372036854775808 % 2 == 1) f) ∨
    (double.read x = .infinity (x / 9223372036854775808 % 2 == 1) ∧ x % 9223372036854775808 = 9218868437227405312) ∨
    (∃ m k : Nat, double.read x = .number (x / 9223372036854775808 % 2 == 1) m (-1074 + k) ∧ m * 2 ^ k = worth (x % 9223372036854775808) ∧ x % 9223372036854775808 < 9218868437227405312) := by
  have hs : double.signWeight = 9223372036854775808 := by decide
  have hb : double.binade = 4503599627370496 := by decide
  have hi : double.infRung = 9218868437227405312 := by decide
  have hp : double.leastPlace = -1074 := by decide
  unfold Format.read
  simp only [hs, hb, hi, hp]
  by_cases h1 : x % 9223372036854775808 < 4503599627370496
  · refine .inr (.inr ⟨x % 9223372036854775808, 0, ?_, ?_, by omega⟩)
    · rw [if_pos h1]; simp
    · simp [worth, h1]
  · by_cases h2 : x % 9223372036854775808 < 9218868437227405312
    · refine .inr (.inr ⟨4503599627370496 + x % 9223372036854775808 % 4503599627370496, x % 9223372036854775808 / 4503599627370496 - 1, ?_, ?_, h2⟩)
      · rw [if_neg h1, if_pos h2]
      · unfold worth; rw [if_neg h1]
    · by_cases h3 : x % 9223372036854775808 = 9218868437227405312
      · refine .inr (.inl ⟨?_, h3⟩)
        rw [if_neg h1, if_neg h2, if_pos h3]
      · refine .inl ⟨x % 9223372036854775808 - 9218868437227405312, ?_⟩
        rw [if_neg h1, if_neg h2, if_neg h3]
def keyN (x : Nat) : Int := if x < 9223372036854775808 then x + 9223372036854775808 else 18446744073709551615 - x
theorem sgn_true {x : Nat} (hx : x < 18446744073709551616) (h : (x / 9223372036854775808 % 2 == 1) = true) : 9223372036854775808 ≤ x ∧ x % 9223372036854775808 = x - 9223372036854775808 := by
  have : x / 9223372036854775808 % 2 = 1 := by simpa using h
  omega
theorem sgn_false {x : Nat} (hx : x < 18446744073709551616) (h : (x / 9223372036854775808 % 2 == 1) = false) : x < 9223372036854775808 ∧ x % 9223372036854775808 = x := by
  have : ¬ x / 9223372036854775808 % 2 = 1 := by simpa using h
  omega
theorem signed_scale (neg : Bool) (m up k : Nat) : signed neg m up * ((2 ^ k : Nat) : Int) = if neg then -((m * 2 ^ (up + k) : Nat) : Int) else ((m * 2 ^ (up + k) : Nat) : Int) := by
  unfold signed
  rw [Nat.shiftLeft_eq, Nat.pow_add, ← Nat.mul_assoc]
  cases neg <;> simp [Int.neg_mul]
theorem order_lt_key {x y : Nat} (hx : x < 18446744073709551616) (hy : y < 18446744073709551616) (h : double.order x y = some .lt) : keyN x < keyN y := by
  unfold Format.order at h
  unfold keyN
  rcases read_cases x with ⟨f, e1⟩ | ⟨e1, r1⟩ | ⟨m1, k1, e1, w1, r1⟩
  · rw [e1] at h; simp [Datum.order] at h
  · rcases read_cases y with ⟨f, e2⟩ | ⟨e2, r2⟩ | ⟨m2, k2, e2, w2, r2⟩
    · rw [e1, e2] at h; simp [Datum.order] at h
    · rw [e1, e2] at h
      cases s1 : (x / 9223372036854775808 % 2 == 1) <;> cases s2 : (y / 9223372036854775808 % 2 == 1) <;> rw [s1, s2] at h <;> simp [Datum.order, compare, compareOfLessAndEq] at h
      have := sgn_true hx s1; have := sgn_false hy s2
      split <;> split <;> omega
    · rw [e1, e2] at h
      cases s1 : (x / 9223372036854775808 % 2 == 1) <;> rw [s1] at h <;> simp [Datum.order] at h
      have := sgn_true hx s1
      cases s2 : (y / 9223372036854775808 % 2 == 1)
      · have := sgn_false hy s2; split <;> split <;> omega
      · have := sgn_true hy s2; split <;> split <;> omega
  · rcases read_cases y with ⟨f, e2⟩ | ⟨e2, r2⟩ | ⟨m2, k2, e2, w2, r2⟩
    · rw [e1, e2] at h; simp [Datum.order] at h
    · rw [e1, e2] at h
      cases s2 : (y / 9223372036854775808 % 2 == 1) <;> rw [s2] at h <;> simp [Datum.order] at h
      have := sgn_false hy s2
      cases s1 : (x / 9223372036854775808 % 2 == 1)
      · have := sgn_false hx s1; split <;> split <;> omega
      · have := sgn_true hx s1; split <;> split <;> omega
    · rw [e1, e2] at h
      simp only [Datum.order, Option.some.injEq] at h
      have hlt : signed (x / 9223372036854775808 % 2 == 1) m1 (-1074 + (k1 : Int) - min (-1074 + (k1 : Int)) (-1074 + (k2 : Int))).toNat < signed (y / 9223372036854775808 % 2 == 1) m2 (-1074 + (k2 : Int) - min (-1074 + (k1 : Int)) (-1074 + (k2 : Int))).toNat := by
        simp only [compare, compareOfLessAndEq] at h
        split at h
        · assumption
        · split at h <;> cases h
      have hpos : (0 : Int) < ((2 ^ min k1 k2 : Nat) : Int) := by exact_mod_cast Nat.two_pow_pos _
      have h2 := Int.mul_lt_mul_of_pos_right hlt hpos
      rw [signed_scale, signed_scale] at h2
      have u1 : (-1074 + (k1 : Int) - min (-1074 + (k1 : Int)) (-1074 + (k2 : Int))).toNat + min k1 k2 = k1 := by omega
      have u2 : (-1074 + (k2 : Int) - min (-1074 + (k1 : Int)) (-1074 + (k2 : Int))).toNat + min k1 k2 = k2 := by omega
      rw [u1, u2, w1, w2] at h2
      cases s1 : (x / 9223372036854775808 % 2 == 1) <;> cases s2 : (y / 9223372036854775808 % 2 == 1) <;> simp only [s1, s2, if_true, Bool.false_eq_true, if_false] at h2
      · have a1 := sgn_false hx s1; have a2 := sgn_false hy s2
        have := worth_lt (r := x % 9223372036854775808) (s := y % 9223372036854775808) (by omega)
        split <;> split <;> omega
      · omega
      · have a1 := sgn_true hx s1; have a2 := sgn_false hy s2
        split <;> split <;> omega
      · have a1 := sgn_true hx s1; have a2 := sgn_true hy s2
        have := worth_lt (r := y % 9223372036854775808) (s := x % 9223372036854775808) (by omega)
        split <;> split <;> omega
end Go.X
/- Slices cut. Nothing is assumed. -/
set_option linter.unusedVariables false
set_option linter.unusedSimpArgs false
namespace Go.X
open Go Go.RowKit
section
variable {P : Program} {n : Nat} {e : Env} {w : World} {C : World → Prop}
/-- Where x[m:] begins. -/
def fromAt (ad : Option Addr) (cap m sz : Nat) : Option Addr := ad.map fun a => if cap = m then a else a.add (m * sz)
theorem Yld.sliceFrom {d : Option Tmp} {t el : Nat} {x h : Operand} {ty : TypeId} {pos : String} {af : Array Edge} {g : Option (Nat × Bool)} (hT : SlT P t el) {z : Value} {sz by' : Nat} (hE : TI P el z sz by') {ad : Option Addr} {len cap m : Nat} {k : IntKind} (hx : ev e x = some (.slice ad len cap)) (hh : ev e h = some (.int k (m : Int))) (hm : m ≤ len) :
    Yld P n C e ⟨d, .slice t x (some h) none none, ty, pos, af, g⟩ (.slice (fromAt ad cap m sz) (len - m) (cap - m)) := by
  intro a ha w _
  have h1 : (m : Int) ≤ len := by omega
  cases ad with
  | none => simp [execOp, ha.ev hx, ha.ev hh, Instr.sliceAt, Instr.slice, run_underlying hT, Instr.sliceBounds, Instr.sliceBound, asIntOf, hE.sizeOf w, h1, hm, fromAt]
  | some ad => by_cases hcm : cap = m <;> simp [execOp, ha.ev hx, ha.ev hh, Instr.sliceAt, Instr.slice, run_underlying hT, Instr.sliceBounds, Instr.sliceBound, asIntOf, hE.sizeOf w, h1, hm, hcm, fromAt]
end
theorem Sl.take {M : Nat → Prop} {w : World} {ad : Option Addr} {n c : Nat} {cs : List Value} (h : Sl M w (.slice ad n c) 1 n cs) {j : Nat} (hj : j ≤ n) : Sl M w (.slice ad j c) 1 j (cs.take j) := by
  have hl := h.len
  have hb := h.big
  obtain ⟨ad', c', he, hf⟩ := h.form
  cases he
  refine ⟨by simp; omega, by omega, _, _, rfl, fun h0 => ?_⟩
  obtain ⟨b, o, ha, hM, hc⟩ := hf (by omega)
  refine ⟨b, o, ha, hM, fun i u hi => hc i u ?_⟩
  rw [List.getElem?_take] at hi
  split at hi
  · exact hi
  · cases hi
theorem Sl.from {M : Nat → Prop} {w : World} {ad : Option Addr} {n c : Nat} {cs : List Value} (h : Sl M w (.slice ad n c) 1 n cs) {j : Nat} (hj : j ≤ n) (hnc : n ≤ c) : Sl M w (.slice (fromAt ad c j 1) (n - j) (c - j)) 1 (n - j) (cs.drop j) := by
  have hl := h.len
  have hb := h.big
  obtain ⟨ad', c', he, hf⟩ := h.form
  cases he
  refine ⟨by simp; omega, by omega, _, _, rfl, fun h0 => ?_⟩
  obtain ⟨b, o, rfl, hM, hc⟩ := hf (by omega)
  refine ⟨b, o + j, ?_, hM, fun i u hi => ?_⟩
  · have : ¬ c = j := by omega
    simp [fromAt, this, add_none]
  · rw [List.getElem?_drop] at hi
    rw [Nat.add_assoc]
    exact hc _ u hi
theorem Row.cap {w : World} {t : TypeId} {sz : Nat} {v : Value} {k : Nat} {xs : List Value} (h : Row w t sz v k xs) : ∃ ad c, v = .slice ad k c ∧ k ≤ c := by
  rcases h.2 with ⟨rfl, rfl⟩ | ⟨g, cap, cur, rfl, _, _, hnc, _⟩
  · exact ⟨_, _, rfl, Nat.le_refl _⟩
  · exact ⟨_, _, rfl, hnc⟩
end Go.X
/- Draw regions with one open choice between two operations. Nothing is assumed. -/
set_option linter.unusedVariables false
namespace Go.X
open Go Go.RowKit
def okPre (ops : Array Oper) (fin : Array Bool → Bool) : Array Bool → List (Nat × Bool) → Bool
  | L, [] => fin L
  | L, (i, loud) :: r => (if loud then Region.ready .any ops L == [i] else (Region.ready .any ops L).contains i && Region.free .any ops L i) && okPre ops fin (L.setIfInBounds i true) r
theorem wpOp_exits {P : Program} {ops : Array Oper} {Q E : Exit → Act → World → Prop} (h1 : ∀ c a w, ¬ E (.panic c) a w) (h2 : ¬ LetsOut E) {i : Nat} {K : Act → World → Prop} {a : Act} {w : World} (h : wpOp P ops E i K a w) : wpOp P ops Q i K a w := by
  unfold wpOp at *
  split
  · rename_i ho; simpa [ho] using h
  · rename_i o ho
    simp only [ho] at h
    split
    · rename_i hw
      rw [if_pos hw] at h
      refine .inl ?_
      rcases h with h | ⟨_, h⟩
      · unfold Oper.wp at *
        generalize (execOp a.eval o).run P w = r at *
        unfold Oper.upon at *
        split at h <;> first
          | exact h
          | exact absurd h (h1 _ _ _)
          | exact h.elim
          | (refine Calls.mono h fun e w' he => ?_
             cases e with
             | returned v => exact he
             | panicked c => exact absurd he (h1 _ _ _)
             | outgrown => exact absurd he h2)
      · exact absurd h h2
    · rename_i hw
      rw [if_neg hw] at h
      exact h
theorem wpT_of_pre {P : Program} {ops : Array Oper} {S : World → Prop} {tl : List Nat} {Q E : Exit → Act → World → Prop} (hs : Region.noSelect ops = true) (hQ : ∀ c a w, ¬ Q (.panic c) a w) (hE : ∀ c a w, ¬ E (.panic c) a w) (hE2 : ¬ LetsOut E) {fin : Array Bool → Bool} {f0 : Nat} (hfin : ∀ L a w, fin L = true → E .normal a w → wpT P ops Q S tl.contains f0 L a w) :
    ∀ (l : List (Nat × Bool)) (L : Array Bool) (a : Act) (w : World), okPre ops fin L l = true → wpOrd P ops S tl E l a w → wpT P ops Q S tl.contains (l.length + f0) L a w
  | [], L, a, w, h, hw => by rw [List.length_nil, Nat.zero_add]; exact hfin L a w h hw
  | (i, false) :: r, L, a, w, h, hw => by
    simp only [okPre, Bool.and_eq_true, Bool.false_eq_true, if_false] at h
    obtain ⟨o, v, ho, hy, hr⟩ := hw
    have hrec := wpT_of_pre hs hQ hE hE2 hfin r _ _ _ h.2 hr
    have hfree := Region.free_spec ho h.1.2
    have e : ((i, false) :: r).length + f0 = (r.length + f0) + 1 := by simp; omega
    rw [e]
    rcases hy with hy | ⟨ht, hy, hSw⟩
    · exact wpT_take hs hQ ho (C := fun _ => True) (fun _ _ => trivial) (.inl fun _ => trivial) _ _ _ _ hfree (by simpa using h.1.1) hy trivial (.inl fun _ => trivial) hrec
    · refine wpT_take hs hQ ho (C := S) (fun _ h => h) (.inr fun j oj hj htj => ?_) _ _ _ _ hfree (by simpa using h.1.1) hy hSw (.inr hSw) hrec
      have h1 := List.all_eq_true.1 ht j (by simpa using htj)
      have h2 : nth ops.toList j = some oj := by rw [nth_eq]; simpa using hj
      simp only [h2] at h1
      exact h1
  | (i, true) :: r, L, a, w, h, hw => by
    simp only [okPre, Bool.and_eq_true, if_true, beq_iff_eq] at h
    have e : ((i, true) :: r).length + f0 = (r.length + f0) + 1 := by simp; omega
    rw [e]
    refine ⟨fun h0 => (by rw [h.1] at h0; cases h0), fun j hj => ?_⟩
    rw [h.1] at hj
    simp only [List.mem_singleton] at hj
    subst hj
    exact wpOp_exits hE hE2 (wpOp_mono (fun a' w' h' => ⟨h'.1, wpT_of_pre hs hQ hE hE2 hfin r _ _ _ h.2 h'.2⟩) hw)
/-- What is to be shown at the open choice. -/
def Fork (P : Program) (ops : Array Oper) (S : World → Prop) (tl : List Nat) (Q : Exit → Act → World → Prop) (p q : List (Nat × Bool)) : Exit → Act → World → Prop := fun x a w => x = .normal ∧ wpOrd P ops S tl Q p a w ∧ wpOrd P ops S tl Q q a w
section
variable {P : Program} {f : FuncId} {n : Nat} {R : Ending → World → Prop} {k : List Item} {e : Env} {w : World}
theorem RK.drawF {id : Nat} {l : List Oper} (M : Nat → Prop) (ord : List (Nat × Bool)) (a b : Nat) (p q : List (Nat × Bool)) (tl : List Nat) (hm : P.follows .mixedOrders = true)
    (hb : (Region.noSelect l.toArray && okPre l.toArray (fun L => Region.ready .any l.toArray L == [a, b] && okOrd l.toArray tl (L.setIfInBounds a true) p && okOrd l.toArray tl (L.setIfInBounds b true) q) (Array.replicate l.length false) ord && Nat.beq l.length (ord.length + (p.length + 1)) && Nat.beq p.length q.length) = true)
    (h : DL P n l (Mod M w) tl ord e w.drew (Fork P l.toArray (Mod M w) tl (post P f R k) ((a, true) :: p) ((b, true) :: q))) : RK P f n R (.code (.region id l.toArray true) :: k) e w := by
  intro ac ha
  simp only [Bool.and_eq_true] at hb
  obtain ⟨⟨⟨hs, hpre⟩, hl⟩, hpq⟩ := hb
  have hl : l.length = ord.length + (p.length + 1) := Nat.eq_of_beq_eq_true hl
  have hpq : p.length = q.length := Nat.eq_of_beq_eq_true hpq
  refine Runs.of_wp (wp_region_any hm (wpT_any (S := Mod M w) (T := tl.contains) _ _ _ _ ?_))
  have := wpT_of_pre (P := P) (S := Mod M w) (tl := tl) (Q := post P f R k) (E := Fork P l.toArray (Mod M w) tl (post P f R k) ((a, true) :: p) ((b, true) :: q)) hs (fun c a w h => h) (fun c a w h => by cases h.1) (fun ⟨a, w, h⟩ => by cases h.1) (f0 := p.length + 1) (fun L a' w' hfin hE => ?_) ord _ ac _ hpre (h ac ha)
  · simpa [hl] using this
  · simp only [Bool.and_eq_true, beq_iff_eq] at hfin
    obtain ⟨⟨hr, hp⟩, hq⟩ := hfin
    obtain ⟨_, h1, h2⟩ := hE
    refine ⟨fun h0 => (by rw [hr] at h0; cases h0), fun j hj => ?_⟩
    rw [hr] at hj
    simp only [List.mem_cons, List.not_mem_nil, or_false] at hj
    rcases hj with rfl | rfl
    · exact wpOp_mono (fun a2 w2 h3 => ⟨h3.1, wpT_of_ord hs (fun c a w h => h) p _ _ _ hp h3.2⟩) h1
    · rw [hpq]
      exact wpOp_mono (fun a2 w2 h3 => ⟨h3.1, wpT_of_ord hs (fun c a w h => h) q _ _ _ hq h3.2⟩) h2
theorem DL.fork {ops : List Oper} {S : World → Prop} {tl : List Nat} {Q : Exit → Act → World → Prop} {p q : List (Nat × Bool)} (h1 : DL P n ops S tl p e w Q) (h2 : DL P n ops S tl q e w Q) : DL P n ops S tl [] e w (Fork P ops.toArray S tl Q p q) := fun a ha => ⟨rfl, h1 a ha, h2 a ha⟩
end
end Go.X
/- Maps: what a store and a deletion leave; delete. Nothing is assumed. -/
set_option linter.unusedVariables false
set_option linter.unusedSimpArgs false
namespace Go.X
open Go Go.RowKit

section
variable {κ α : Type} [DecidableEq κ]
theorem cutM_nil (k : κ) : cutM ([] : List (κ × α)) k = [] := rfl
theorem cutM_cons (k j : κ) (v : α) (l : List (κ × α)) : cutM ((j, v) :: l) k = if k = j then l else (j, v) :: cutM l k := by
  unfold cutM
  simp only [placeM]
  by_cases h : k = j
  · simp [h]
  · simp only [if_neg h]
    cases placeM k l with
    | none => rfl
    | some p => rfl
theorem lookM_cons (k j : κ) (v : α) (l : List (κ × α)) : lookM ((j, v) :: l) k = if k = j then some v else lookM l k := by
  unfold lookM
  simp only [placeM]
  by_cases h : k = j
  · simp [h]
  · simp only [if_neg h, Option.map_map]
    cases placeM k l <;> rfl
theorem putM_cons (k j : κ) (u v : α) (l : List (κ × α)) : putM ((j, v) :: l) k u = if k = j then (j, u) :: l else (j, v) :: putM l k u := by
  unfold putM
  simp only [placeM]
  by_cases h : k = j
  · simp [h]
  · simp only [if_neg h]
    cases placeM k l with
    | none => rfl
    | some p => simp
theorem lookM_putM (k k' : κ) (v : α) : ∀ l : List (κ × α), lookM (putM l k v) k' = if k' = k then some v else lookM l k'
  | [] => by
    have : putM ([] : List (κ × α)) k v = [(k, v)] := rfl
    rw [this, lookM_cons]
  | (j, u) :: l => by
    rw [putM_cons]
    by_cases h : k = j
    · subst h
      rw [if_pos rfl, lookM_cons, lookM_cons]
      by_cases h' : k' = k <;> simp [h']
    · rw [if_neg h, lookM_cons, lookM_cons, lookM_putM k k' v l]
      by_cases h' : k' = j
      · rw [if_pos h', if_pos h', if_neg (fun e => h (e.symm.trans h'))]
      · rw [if_neg h', if_neg h']
theorem lookM_none {k : κ} {l : List (κ × α)} : lookM l k = none ↔ k ∉ l.map (·.1) := by
  unfold lookM
  rw [Option.map_eq_none_iff, placeM_none]
theorem putM_new {k : κ} {l : List (κ × α)} (h : lookM l k = none) (v : α) : putM l k v = l ++ [(k, v)] := by
  have : placeM k l = none := by unfold lookM at h; exact Option.map_eq_none_iff.1 h
  unfold putM; rw [this]
theorem mem_cutM {k : κ} {t : κ × α} : ∀ {l : List (κ × α)}, (l.map (·.1)).Nodup → (t ∈ cutM l k ↔ t ∈ l ∧ t.1 ≠ k)
  | [], _ => by simp [cutM_nil]
  | (j, v) :: l, h => by
    rw [List.map_cons, List.nodup_cons] at h
    rw [cutM_cons]
    by_cases hk : k = j
    · subst hk
      rw [if_pos rfl, List.mem_cons]
      constructor
      · intro ht
        exact ⟨.inr ht, fun e => h.1 (List.mem_map.2 ⟨t, ht, e⟩)⟩
      · rintro ⟨rfl | ht, hn⟩
        · exact absurd rfl hn
        · exact ht
    · rw [if_neg hk, List.mem_cons, mem_cutM h.2, List.mem_cons]
      constructor
      · rintro (rfl | ⟨ht, hn⟩)
        · exact ⟨.inl rfl, fun e => hk e.symm⟩
        · exact ⟨.inr ht, hn⟩
      · rintro ⟨rfl | ht, hn⟩
        · exact .inl rfl
        · exact .inr ⟨ht, hn⟩
theorem cutM_sub (k : κ) : ∀ l : List (κ × α), (cutM l k).Sublist l
  | [] => List.Sublist.refl _
  | (j, v) :: l => by
    rw [cutM_cons]
    by_cases hk : k = j
    · rw [if_pos hk]; exact List.sublist_cons_self _ _
    · rw [if_neg hk]; exact (cutM_sub k l).cons_cons _
theorem cutM_nodup {k : κ} {l : List (κ × α)} (h : (l.map (·.1)).Nodup) : ((cutM l k).map (·.1)).Nodup := h.sublist ((cutM_sub k l).map _)
theorem putM_nodup {k : κ} {v : α} {l : List (κ × α)} (h : (l.map (·.1)).Nodup) : ((putM l k v).map (·.1)).Nodup := by
  rw [putM_keys]
  split
  · exact h
  · rename_i hk
    rw [List.nodup_append]
    exact ⟨h, by simp, fun a ha b hb e => hk (by simp at hb; subst hb; exact e ▸ ha)⟩
theorem lookM_iff {k : κ} {v : α} : ∀ {l : List (κ × α)}, (l.map (·.1)).Nodup → (lookM l k = some v ↔ (k, v) ∈ l)
  | [], _ => by simp [lookM, placeM]
  | (j, u) :: l, h => by
    rw [List.map_cons, List.nodup_cons] at h
    rw [lookM_cons, List.mem_cons]
    by_cases hk : k = j
    · subst hk
      rw [if_pos rfl]
      constructor
      · intro e; cases e; exact .inl rfl
      · rintro (e | e)
        · cases e; rfl
        · exact absurd (List.mem_map_of_mem (f := (·.1)) e) h.1
    · rw [if_neg hk, lookM_iff h.2]
      constructor
      · exact .inr
      · rintro (e | e)
        · cases e; exact absurd rfl hk
        · exact e
theorem lookM_cutM {k k' : κ} {l : List (κ × α)} (h : (l.map (·.1)).Nodup) : lookM (cutM l k) k' = if k' = k then none else lookM l k' := by
  by_cases hk : k' = k
  · rw [if_pos hk, lookM_none]
    intro hm
    obtain ⟨t, ht, e⟩ := List.mem_map.1 hm
    exact ((mem_cutM h).1 ht).2 (by simpa [hk] using e)
  · rw [if_neg hk]
    apply Option.ext
    intro v
    rw [lookM_iff (cutM_nodup h), lookM_iff h, mem_cutM h]
    exact ⟨fun h => h.1, fun h => ⟨h, hk⟩⟩
end

theorem map_eraseIdx' {α β : Type} (f : α → β) : ∀ (l : List α) (i : Nat), (l.eraseIdx i).map f = (l.map f).eraseIdx i
  | [], i => by simp
  | x :: l, 0 => by simp
  | x :: l, i + 1 => by simp [map_eraseIdx' f l i]
section
variable {P : Program} {n : Nat} {e : Env} {w : World} {κ : Type} [DecidableEq κ] {enc : κ → Value}
theorem Does.delete {d : Option Tmp} {t tk kt el : Nat} {x i : Operand} {ty : TypeId} {pos : String} {af : Array Edge} {g : Option (Nat × Bool)} (hT : P.underlying t = some (.map kt el)) (hK : KeyLaw P kt enc) {m : Nat} {k : κ} {l : List (κ × Value)}
    (hx : ev e x = some (.map (some m))) (hi : ev e i = some (enc k)) (hm : MapAt enc w m l) :
    Does P n e w ⟨d, .call { callee := .builtin .delete, args := #[x, i], argTypes := #[t, tk] }, ty, pos, af, g⟩ (fun _ w' => MapAt enc w' m (cutM l k) ∧ Mod (· = m) w w' ∧ w'.heap.size = w.heap.size) := by
  obtain ⟨es, c, h1, h2, h3, h4⟩ := hm.out
  have hlt : m < w.heap.size := (Array.getElem?_eq_some_iff.1 h1).1
  have hf := hK.find k es.toList l w h2
  have hg : (getObj m).run P w = .ok (.map es c) w := by simp [getObj, Sem.run, h1]
  have hset : ∀ o, (setObj m o).run P w = .ok () { w with heap := w.heap.setIfInBounds m o } := fun o => by simp [setObj, Sem.run, h1]
  have hmod : ∀ o, Mod (· = m) w { w with heap := w.heap.setIfInBounds m o } := fun o => ⟨rfl, rfl, rfl, by simp, fun k hk hn => by simp [Array.getElem?_setIfInBounds_ne (Ne.symm hn)]⟩
  have hat : ∀ o, ({ w with heap := w.heap.setIfInBounds m o } : World).heap[m]? = some o := fun o => by simp [hlt]
  cases hp : placeM k l with
  | some q =>
    obtain ⟨i0, v0⟩ := q
    refine Does.of_run (v := .tuple #[]) (w' := { w with heap := w.heap.setIfInBounds m (.map (es.eraseIdxIfInBounds i0) c) }) (fun a ha => ?_) ⟨⟨_, c, hat _, ?_, ?_, ?_⟩, hmod _, by simp⟩
    · simp [execOp, resolve, invoke, builtin, ha.ev hx, ha.ev hi, Builtin.delete_, run_underlying hT, hg, hK.check, hf, hp, hset]
    · simp only [cutM, hp, Array.toList_eraseIdxIfInBounds]
      rw [map_eraseIdx', h2, map_eraseIdx']
    · simp only [Array.toList_eraseIdxIfInBounds]
      exact h3.sublist ((List.eraseIdx_sublist _ _).map _)
    · intro x hx'
      simp only [Array.toList_eraseIdxIfInBounds] at hx'
      exact h4 x (List.mem_of_mem_eraseIdx hx')
  | none =>
    refine Does.of_run (v := .tuple #[]) (w' := { w with heap := w.heap.setIfInBounds m (.map es c) }) (fun a ha => ?_) ⟨⟨_, c, hat _, ?_, h3, h4⟩, hmod _, by simp⟩
    · simp [execOp, resolve, invoke, builtin, ha.ev hx, ha.ev hi, Builtin.delete_, run_underlying hT, hg, hK.check, hf, hp, hset]
    · simp only [cutM, hp]; exact h2
end
end Go.X
/- Rows cut, appended to in their own room, cleared. Nothing is assumed. -/
set_option linter.unusedVariables false
set_option linter.unusedSimpArgs false
namespace Go.X
open Go Go.RowKit

/-- A row's block, whole: its cells, its room. -/
theorem Row.whole {w : World} {t : TypeId} {sz : Nat} {v : Value} {k : Nat} {xs : List Value} (h : Row w t sz v k xs) (hk : 0 < k) : ∃ g cap cs, v = .slice (some ⟨g, 0, none⟩) k cap ∧ Blk w g t cs ∧ cs.length = cap * sz ∧ k ≤ cap ∧ cap ≤ maxLen ∧ cs.take (k * sz) = xs := by
  rcases h.2 with ⟨rfl, rfl⟩ | ⟨g, cap, cur, rfl, _, hg, h1, h2, h3, h4⟩
  · omega
  · exact ⟨g, cap, cur.toList, rfl, by unfold Blk; simpa using hg, by simpa using h3, h1, h2, h4⟩
theorem Row.shut {w : World} {t g sz cap k : Nat} {cs : List Value} (h : Blk w g t cs) (hl : cs.length = cap * sz) (hk : k ≤ cap) (hc : cap ≤ maxLen) : Row w t sz (.slice (some ⟨g, 0, none⟩) k cap) k (cs.take (k * sz)) :=
  ⟨by rw [List.length_take, hl]; exact Nat.min_eq_left (Nat.mul_le_mul_right _ hk), .inr ⟨g, cap, cs.toArray, rfl, Nat.zero_le _, h, hk, hc, by simpa using hl, by simp⟩⟩
section
variable {P : Program} {n : Nat} {e : Env} {w : World} {C : World → Prop}
theorem Blk.setRow {g t : Nat} {cs cs' : List Value} (h : Blk w g t cs) : Blk (w.setRow g cs'.toArray) g t cs' ∧ Mod (· = g) w (w.setRow g cs'.toArray) ∧ (w.setRow g cs'.toArray).heap.size = w.heap.size := by
  have hlt := h.lt
  unfold Blk at h
  have e : w.setRow g cs'.toArray = { w with heap := w.heap.setIfInBounds g (.cells cs'.toArray t (0, 0)) } := by
    have h' : w.heap[g] = Obj.cells cs.toArray t := (Array.getElem?_eq_some_iff.1 h).2
    simp [World.setRow, Array.modify, Array.modifyM, hlt, h', Array.setIfInBounds]
  rw [e]
  exact ⟨by simp [Blk, hlt], ⟨rfl, rfl, rfl, by simp, fun k hk hn => by simp [Array.getElem?_setIfInBounds_ne (Ne.symm hn)]⟩, by simp⟩
/-- An append that has room where the row lies. -/
theorem Does.appendIn {d : Option Tmp} {t el : Nat} {s x : Operand} {ty : TypeId} {pos : String} {af : Array Edge} {g' : Option (Nat × Bool)} (ht : SlT P t el) {z : Value} {sz by' : Nat} (hT : TI P el z sz by')
    {g i cap m : Nat} {u : Value} {cs news : List Value} (hs : ev e s = some (.slice (some ⟨g, 0, none⟩) i cap)) (hx : ev e x = some u) (hb : Blk w g el cs) (hl : cs.length = cap * sz) (hu : Sl No w u sz m news) (h1 : news.all (·.oneCell') = true) (hroom : i + m ≤ cap) :
    Does P n e w ⟨d, .call { callee := .builtin .append, args := #[s, x], argTypes := #[t, t] }, ty, pos, af, g'⟩
      (fun v' w' => v' = .slice (some ⟨g, 0, none⟩) (i + m) cap ∧ (∃ cs', Blk w' g el cs' ∧ cs'.length = cs.length ∧ cs'.take ((i + m) * sz) = cs.take (i * sz) ++ news) ∧ Mod (· = g) w w' ∧ w'.heap.size = w.heap.size) := by
  obtain ⟨q, hi, hz, hs', hby⟩ := hT.out
  obtain ⟨ad, c, rfl, hf⟩ := hu.form
  have hln := hu.len
  by_cases hm : m = 0
  · subst hm
    have hn : news = [] := List.eq_nil_of_length_eq_zero (by simpa using hln)
    subst hn
    refine Does.of_run (v := .slice (some ⟨g, 0, none⟩) (i + 0) cap) (w' := w) (fun a ha => ?_) ⟨rfl, ⟨cs, hb, rfl, by simp⟩, Mod.refl _ _, rfl⟩
    have hroom' : i ≤ cap := by omega
    cases ad <;> simp [execOp, resolve, invoke, builtin, ha.ev hs, ha.ev hx, Builtin.append_, run_underlying ht, sizeOf, typeInfo, hi, Builtin.lenOf, Builtin.firstCells, hroom', storeCells, loadCells, loadCellsFrom]
  · obtain ⟨b, o, rfl, _, hc⟩ := hf (by omega)
    have hfit : i * sz + news.length ≤ cs.length := by rw [hln, hl, ← Nat.add_mul]; exact Nat.mul_le_mul_right _ hroom
    have hr := run_append_room (P := P) (w := w) t ty el q ht hi g i cap cs.toArray hb ⟨b, o, none⟩ m c news (by rw [hln, hs']) (fun j u hj => by rw [add_none]; exact hc j u hj) (List.all_eq_true.1 h1) hroom (by rw [hs']; simpa using hfit)
    obtain ⟨g1, g2, g3⟩ := hb.setRow (cs' := (cs.toArray.toList.take (i * q.size) ++ news ++ cs.toArray.toList.drop (i * q.size + news.length)))
    refine Does.of_run (v := _) (w' := _) (fun a ha => ?_) ⟨rfl, ⟨_, g1, ?_, ?_⟩, g2, g3⟩
    · simp only [execOp, resolve, invoke, builtin, Array.map, ha.ev hs, ha.ev hx]
      simp [ha.ev hs, ha.ev hx, hr]
    · rw [hs']
      simp only [List.length_append, List.length_take, List.length_drop]
      omega
    · rw [hs']
      have e1 : (cs.take (i * sz) ++ news).length = (i + m) * sz := by
        rw [List.length_append, List.length_take, hln, Nat.min_eq_left (by omega), Nat.add_mul]
      simp only []
      rw [← e1, List.take_left]
/-- Part of a slice. -/
theorem Yld.sliceLH {d : Option Tmp} {t el : Nat} {x l h : Operand} {ty : TypeId} {pos : String} {af : Array Edge} {g : Option (Nat × Bool)} (hT : SlT P t el) {z : Value} {sz by' : Nat} (hE : TI P el z sz by') {ad : Option Addr} {len cap lo hi : Nat} {k k' : IntKind} (hx : ev e x = some (.slice ad len cap)) (hl : ev e l = some (.int k (lo : Int))) (hh : ev e h = some (.int k' (hi : Int))) (h1 : lo ≤ hi) (h2 : hi ≤ cap) :
    Yld P n C e ⟨d, .slice t x (some l) (some h) none, ty, pos, af, g⟩ (.slice (fromAt ad cap lo sz) (hi - lo) (cap - lo)) := by
  intro a ha w _
  have e1 : (hi : Int) ≤ cap := by omega
  have e2 : (lo : Int) ≤ hi := by omega
  cases ad with
  | none => simp [execOp, ha.ev hx, ha.ev hl, ha.ev hh, Instr.sliceAt, Instr.slice, run_underlying hT, Instr.sliceBounds, Instr.sliceBound, asIntOf, hE.sizeOf w, e1, e2, h1, h2, fromAt]
  | some ad =>
    by_cases hcm : cap = lo
    · subst hcm
      obtain rfl : hi = cap := by omega
      simp [execOp, ha.ev hx, ha.ev hl, ha.ev hh, Instr.sliceAt, Instr.slice, run_underlying hT, Instr.sliceBounds, Instr.sliceBound, asIntOf, hE.sizeOf w, fromAt]
    · simp [execOp, ha.ev hx, ha.ev hl, ha.ev hh, Instr.sliceAt, Instr.slice, run_underlying hT, Instr.sliceBounds, Instr.sliceBound, asIntOf, hE.sizeOf w, e1, e2, h1, h2, hcm, fromAt]
theorem Yld.slice3 {d : Option Tmp} {t el : Nat} {x l h m : Operand} {ty : TypeId} {pos : String} {af : Array Edge} {g : Option (Nat × Bool)} (hT : SlT P t el) {z : Value} {sz by' : Nat} (hE : TI P el z sz by') {ad : Option Addr} {len cap lo hi mx : Nat} {k k' k2 : IntKind} (hx : ev e x = some (.slice ad len cap)) (hl : ev e l = some (.int k (lo : Int))) (hh : ev e h = some (.int k' (hi : Int))) (hm : ev e m = some (.int k2 (mx : Int))) (h1 : lo ≤ hi) (h2 : hi ≤ mx) (h3 : mx ≤ cap) :
    Yld P n C e ⟨d, .slice t x (some l) (some h) (some m), ty, pos, af, g⟩ (.slice (fromAt ad mx lo sz) (hi - lo) (mx - lo)) := by
  intro a ha w _
  have e1 : (hi : Int) ≤ mx := by omega
  have e2 : (lo : Int) ≤ hi := by omega
  have e3 : (mx : Int) ≤ cap := by omega
  cases ad with
  | none => simp [execOp, ha.ev hx, ha.ev hl, ha.ev hh, ha.ev hm, Instr.sliceAt, Instr.slice, run_underlying hT, Instr.sliceBounds, Instr.sliceBound, asIntOf, hE.sizeOf w, e1, e2, e3, h1, h2, h3, fromAt]
  | some ad =>
    by_cases hcm : mx = lo
    · subst hcm
      obtain rfl : hi = mx := by omega
      simp [execOp, ha.ev hx, ha.ev hl, ha.ev hh, ha.ev hm, Instr.sliceAt, Instr.slice, run_underlying hT, Instr.sliceBounds, Instr.sliceBound, asIntOf, hE.sizeOf w, e3, h3, fromAt]
    · simp [execOp, ha.ev hx, ha.ev hl, ha.ev hh, ha.ev hm, Instr.sliceAt, Instr.slice, run_underlying hT, Instr.sliceBounds, Instr.sliceBound, asIntOf, hE.sizeOf w, e1, e2, e3, h1, h2, h3, hcm, fromAt]
/-- The end of a row is cleared: what is ahead of it stays. -/
theorem Does.clear {d : Option Tmp} {t el : Nat} {x : Operand} {ty : TypeId} {pos : String} {af : Array Edge} {g' : Option (Nat × Bool)} (ht : SlT P t el) {z : Value} {sz by' : Nat} (hT : TI P el z sz by') (hzs : z.cells.size = sz) (hz1 : z.cells.all (·.oneCell') = true)
    {g lo m cap c : Nat} {cs : List Value} (hx : ev e x = some (.slice (fromAt (some ⟨g, 0, none⟩) cap lo sz) m c)) (hb : Blk w g el cs) (hl : cs.length = cap * sz) (hroom : lo + m ≤ cap) :
    Does P n e w ⟨d, .call { callee := .builtin .clear, args := #[x], argTypes := #[t] }, ty, pos, af, g'⟩
      (fun _ w' => (∃ cs', Blk w' g el cs' ∧ cs'.length = cs.length ∧ cs'.take (lo * sz) = cs.take (lo * sz)) ∧ Mod (· = g) w w' ∧ w'.heap.size = w.heap.size) := by
  by_cases hm : m = 0
  · subst hm
    refine Does.of_run (v := .tuple #[]) (w' := w) (fun a ha => ?_) ⟨⟨cs, hb, rfl, rfl⟩, Mod.refl _ _, rfl⟩
    simp only [fromAt, Option.map_some] at hx
    simp [execOp, resolve, invoke, builtin, ha.ev hx, Builtin.clear_, run_underlying ht]
  · have hne : ¬ cap = lo := by omega
    simp only [fromAt, Option.map_some, if_neg hne, add_none, Nat.zero_add] at hx
    have hsz : (Builtin.zeroCells z.cells m).toList.length = m * sz := by simp [Builtin.zeroCells, hzs]
    have hone : ∀ v ∈ (Builtin.zeroCells z.cells m).toList, v.oneCell' = true := fun v hv => by
      simp only [Builtin.zeroCells, Array.toList_map, List.mem_map] at hv
      obtain ⟨i, hi, rfl⟩ := hv
      have hi' : i < m * sz := by simpa [hzs] using hi
      have h0 : 0 < sz := by rcases Nat.eq_zero_or_pos sz with h | h; (rw [h] at hi'; omega); exact h
      have hlt : i % z.cells.size < z.cells.size := Nat.mod_lt _ (by omega)
      rw [getElem!_pos z.cells _ hlt]
      exact Array.all_eq_true.1 hz1 _ hlt
    have hfit : lo * sz + 0 + (Builtin.zeroCells z.cells m).toList.length ≤ cs.toArray.size := by
      rw [hsz, Nat.add_zero, ← Nat.add_mul]
      simp only [List.size_toArray, hl]
      exact Nat.mul_le_mul_right _ hroom
    have hr := run_storeCells_at (P := P) g (lo * sz) el (Builtin.zeroCells z.cells m).toList 0 cs.toArray w hb hfit hone
    obtain ⟨g1, g2, g3⟩ := hb.setRow (cs' := (cs.toArray.toList.take (lo * sz + 0) ++ (Builtin.zeroCells z.cells m).toList ++ cs.toArray.toList.drop (lo * sz + 0 + (Builtin.zeroCells z.cells m).toList.length)))
    rw [hsz] at hfit
    simp only [List.size_toArray] at hfit
    refine Does.of_run (v := .tuple #[]) (w' := _) (fun a ha => ?_) ⟨⟨_, g1, ?_, ?_⟩, g2, g3⟩
    · obtain ⟨q, rfl⟩ : ∃ q, m = q + 1 := ⟨m - 1, by omega⟩
      simp [execOp, resolve, invoke, builtin, ha.ev hx, Builtin.clear_, run_underlying ht, hT.zero w, hr]
    · simp only [List.length_append, List.length_take, List.length_drop, hsz]
      omega
    · simp only [Nat.add_zero]
      have e1 : (cs.take (lo * sz)).length = lo * sz := by rw [List.length_take]; omega
      rw [List.append_assoc, List.take_append_of_le_length (by omega), List.take_take]
      simp
end
end Go.X
namespace Go.X
open Go Go.RowKit
theorem Sl.ofBlk {M : Nat → Prop} {w : World} {g t sz cap lo m c : Nat} {cs : List Value} (h : Blk w g t cs) (hl : cs.length = cap * sz) (hr : lo + m ≤ cap) (hM : ¬ M g) (hb : m ≤ 9223372036854775807) : Sl M w (.slice (fromAt (some ⟨g, 0, none⟩) cap lo sz) m c) sz m ((cs.drop (lo * sz)).take (m * sz)) := by
  have h1 : (lo + m) * sz ≤ cap * sz := Nat.mul_le_mul_right _ hr
  rw [Nat.add_mul] at h1
  refine ⟨by rw [List.length_take, List.length_drop, hl]; omega, hb, _, _, rfl, fun h0 => ?_⟩
  have hne : ¬ cap = lo := by omega
  refine ⟨g, lo * sz, ?_, hM, fun i u hi => ?_⟩
  · simp [fromAt, hne, add_none]
  · rw [List.getElem?_take] at hi
    split at hi
    · rw [List.getElem?_drop] at hi
      exact h.cell' hi
    · cases hi
theorem flat_take {α : Type} (f : α → List Value) (sz : Nat) (hf : ∀ x, (f x).length = sz) : ∀ (xs : List α) (i : Nat), (xs.flatMap f).take (i * sz) = (xs.take i).flatMap f
  | [], i => by simp
  | x :: xs, 0 => by simp
  | x :: xs, i + 1 => by
    have e : (i + 1) * sz = (f x).length + i * sz := by rw [hf, Nat.add_mul]; omega
    rw [List.flatMap_cons, e, List.take_length_add_append, flat_take f sz hf xs i, List.take_succ_cons, List.flatMap_cons]
theorem flat_drop {α : Type} (f : α → List Value) (sz : Nat) (hf : ∀ x, (f x).length = sz) : ∀ (xs : List α) (i : Nat), (xs.flatMap f).drop (i * sz) = (xs.drop i).flatMap f
  | [], i => by simp
  | x :: xs, 0 => by simp
  | x :: xs, i + 1 => by
    have e : (i + 1) * sz = (f x).length + i * sz := by rw [hf, Nat.add_mul]; omega
    rw [List.flatMap_cons, e, List.drop_length_add_append, flat_drop f sz hf xs i, List.drop_succ_cons]
end Go.X
/- Shifts, quotients, words of bits. Nothing is assumed. -/
set_option linter.unusedVariables false
set_option linter.unusedSimpArgs false
namespace Go.X
open Go Go.RowKit
section
variable {P : Program} {n : Nat} {e : Env} {w : World} {C : World → Prop}
theorem wrap_u64 {x : Nat} (h : x < 18446744073709551616) : IntKind.u64.wrap (x : Int) = x := by rw [IntKind.wrap_u64]; omega
theorem wrap_u8 {x : Nat} (h : x < 256) : IntKind.u8.wrap (x : Int) = x := by
  have : IntKind.u8.wrap (x : Int) = (x : Int) % 256 := by rfl
  rw [this]; omega
theorem u64_and {a b : Nat} (ha : a < 18446744073709551616) (hb : b < 18446744073709551616) : IntKind.u64.wrap ((BitVec.ofInt 64 (a : Int) &&& BitVec.ofInt 64 (b : Int)).toNat : Int) = ((a &&& b : Nat) : Int) := by
  have e1 : (BitVec.ofInt 64 (a : Int)).toNat = a := by rw [BitVec.toNat_ofInt]; omega
  have e2 : (BitVec.ofInt 64 (b : Int)).toNat = b := by rw [BitVec.toNat_ofInt]; omega
  rw [BitVec.toNat_and, e1, e2]
  have : a &&& b ≤ a := Nat.and_le_left
  exact wrap_u64 (by omega)
theorem u64_or {a b : Nat} (ha : a < 18446744073709551616) (hb : b < 18446744073709551616) : IntKind.u64.wrap ((BitVec.ofInt 64 (a : Int) ||| BitVec.ofInt 64 (b : Int)).toNat : Int) = ((a ||| b : Nat) : Int) := by
  have e1 : (BitVec.ofInt 64 (a : Int)).toNat = a := by rw [BitVec.toNat_ofInt]; omega
  have e2 : (BitVec.ofInt 64 (b : Int)).toNat = b := by rw [BitVec.toNat_ofInt]; omega
  rw [BitVec.toNat_or, e1, e2]
  have : a ||| b < 2 ^ 64 := Nat.or_lt_two_pow (by omega) (by omega)
  exact wrap_u64 (by omega)
theorem Yld.shr {d : Option Tmp} {t : Nat} {x y : Operand} {t' ty : TypeId} {pos : String} {af : Array Edge} {g : Option (Nat × Bool)} {k k' : IntKind} {a s : Nat} (hx : ev e x = some (.int k (a : Int))) (hy : ev e y = some (.int k' (s : Int))) (hs : s ≤ k.bits) :
    Yld P n C e ⟨d, .binOp .shr t x y t', ty, pos, af, g⟩ (.int k ((a >>> s : Nat) : Int)) := by
  intro ac ha w _
  have h0 : ¬ ((s : Int) < 0) := by omega
  have h1 : min s k.bits = s := Nat.min_eq_left hs
  have h2 : (a : Int).fdiv (2 ^ s) = ((a >>> s : Nat) : Int) := by
    rw [Nat.shiftRight_eq_div_pow, Int.fdiv_eq_ediv_of_nonneg _ (by exact Int.le_of_lt (Int.pow_pos (by decide)))]
    simp
  simp [execOp, ha.ev hx, ha.ev hy, eqGuard, binOp, Op.shift, h0, h1]
  simpa using h2
theorem Yld.shl {d : Option Tmp} {t : Nat} {x y : Operand} {t' ty : TypeId} {pos : String} {af : Array Edge} {g : Option (Nat × Bool)} {k k' : IntKind} {a s : Nat} (hx : ev e x = some (.int k (a : Int))) (hy : ev e y = some (.int k' (s : Int))) (hs : s ≤ k.bits) :
    Yld P n C e ⟨d, .binOp .shl t x y t', ty, pos, af, g⟩ (.int k (k.wrap ((a <<< s : Nat) : Int))) := by
  intro ac ha w _
  have h0 : ¬ ((s : Int) < 0) := by omega
  have h1 : min s k.bits = s := Nat.min_eq_left hs
  have h2 : (a : Int) * 2 ^ s = ((a <<< s : Nat) : Int) := by
    rw [Nat.shiftLeft_eq]; simp
  simp [execOp, ha.ev hx, ha.ev hy, eqGuard, binOp, Op.shift, h0, h1]
  have := congrArg k.wrap h2
  simpa using this
theorem Yld.quo {d : Option Tmp} {t : Nat} {x y : Operand} {t' ty : TypeId} {pos : String} {af : Array Edge} {g : Option (Nat × Bool)} {k : IntKind} {a b : Int} (hx : ev e x = some (.int k a)) (hy : ev e y = some (.int k b)) (hb : b ≠ 0) :
    Yld P n C e ⟨d, .binOp .quo t x y t', ty, pos, af, g⟩ (.int k (k.wrap (a.tdiv b))) := by
  intro ac ha w _
  simp [execOp, ha.ev hx, ha.ev hy, eqGuard, binOp, Op.intDiv, hb]
theorem Yld.rem {d : Option Tmp} {t : Nat} {x y : Operand} {t' ty : TypeId} {pos : String} {af : Array Edge} {g : Option (Nat × Bool)} {k : IntKind} {a b : Int} (hx : ev e x = some (.int k a)) (hy : ev e y = some (.int k b)) (hb : b ≠ 0) :
    Yld P n C e ⟨d, .binOp .rem t x y t', ty, pos, af, g⟩ (.int k (a.tmod b)) := by
  intro ac ha w _
  simp [execOp, ha.ev hx, ha.ev hy, eqGuard, binOp, Op.intDiv, hb]
end
end Go.X
/- Results that lie in cells. Nothing is assumed. -/
set_option linter.unusedVariables false
set_option linter.unusedSimpArgs false
namespace Go.X
open Go Go.RowKit
section
variable {P : Program} {n : Nat} {e : Env} {w : World}
theorem loadVarN {t b o : Nat} {cs : List Value} (hT : Agg P t cs.length) (hc : ∀ j v, cs[j]? = some v → w.cell? ⟨b, o + j, none⟩ = some v) : (loadVar t ⟨b, o, none⟩).run P w = .ok (.agg cs.toArray) w := by
  have := run_loadCells_list (P := P) w ⟨b, o, none⟩ cs (fun j v hj => by rw [add_none]; exact hc j v hj)
  simp [loadVar, hT.agg w, hT.size w, this]
theorem resC {fn : Func} {a t : Nat} (h : fn.results = #[.cell a t]) {b : Nat} (ha : get e a = some (.pointer (some ⟨b, 0, none⟩))) {cs : List Value} (hT : Agg P t cs.length) {T : Nat} (hc : Blk w b T cs) : ∀ ac, Fits e n ac → (results fn ac.tmps).run P w = .ok (.agg cs.toArray) w := fun ac hac => by
  have h1 := hac.look a _ ha
  rw [Array.getD_eq_getD_getElem?] at h1
  have h2 := loadVarN (P := P) (w := w) (b := b) (o := 0) hT (fun j v hj => by rw [Nat.zero_add]; exact hc.cell' hj)
  simp [results, h, h1, asAddr, h2]
theorem resCT {fn : Func} {a t u : Nat} (h : fn.results = #[.cell a t, .tmp u]) {b : Nat} (ha : get e a = some (.pointer (some ⟨b, 0, none⟩))) {cs : List Value} (hT : Agg P t cs.length) {T : Nat} (hc : Blk w b T cs) {v : Value} (hv : get e u = some v) : ∀ ac, Fits e n ac → (results fn ac.tmps).run P w = .ok (.tuple #[.agg cs.toArray, v]) w := fun ac hac => by
  have h1 := hac.look a _ ha
  have h3 := hac.look u _ hv
  rw [Array.getD_eq_getD_getElem?] at h1 h3
  have h2 := loadVarN (P := P) (w := w) (b := b) (o := 0) hT (fun j v hj => by rw [Nat.zero_add]; exact hc.cell' hj)
  simp [results, h, h1, h3, asAddr, h2]
end
end Go.X
/- Arrays' elements; slices cut, of whatever cells. Nothing is assumed. -/
set_option linter.unusedVariables false
set_option linter.unusedSimpArgs false
namespace Go.X
open Go Go.RowKit
section
variable {P : Program} {n : Nat} {e : Env} {w : World} {C : World → Prop}
theorem Yld.idxArr {d : Option Tmp} {t el len : Nat} {x i : Operand} {ty : TypeId} {pos : String} {af : Array Edge} {g : Option (Nat × Bool)} (hT : P.underlying t = some (.array len el)) {z : Value} {by' : Nat} (hE : TI P el z 1 by') (hP : Plain P el) {cs : Array Value} {k : IntKind} {q : Nat} (hx : ev e x = some (.agg cs)) (hi : ev e i = some (.int k (q : Int))) (hq : q < len) {v : Value} (hv : cs[q]? = some v) :
    Yld P n C e ⟨d, .index t x i, ty, pos, af, g⟩ v := by
  intro a ha w _
  have h1 : (q : Int) < len := by omega
  simp [execOp, ha.ev hx, ha.ev hi, Instr.index, asIntOf, run_underlying hT, hq, hE.sizeOf w, part, hP w, hv]
end
theorem Sl.takeN {M : Nat → Prop} {w : World} {sz : Nat} {ad : Option Addr} {n c : Nat} {cs : List Value} (h : Sl M w (.slice ad n c) sz n cs) {j : Nat} (hj : j ≤ n) : Sl M w (.slice ad j c) sz j (cs.take (j * sz)) := by
  have hl := h.len
  have hb := h.big
  have hm : j * sz ≤ n * sz := Nat.mul_le_mul_right _ hj
  obtain ⟨ad', c', he, hf⟩ := h.form
  cases he
  refine ⟨by rw [List.length_take]; omega, by omega, _, _, rfl, fun h0 => ?_⟩
  obtain ⟨b, o, ha, hM, hc⟩ := hf (by omega)
  refine ⟨b, o, ha, hM, fun i u hi => hc i u ?_⟩
  rw [List.getElem?_take] at hi
  split at hi
  · exact hi
  · cases hi
theorem Sl.fromN {M : Nat → Prop} {w : World} {sz : Nat} {ad : Option Addr} {n c : Nat} {cs : List Value} (h : Sl M w (.slice ad n c) sz n cs) {j : Nat} (hj : j ≤ n) (hnc : n ≤ c) : Sl M w (.slice (fromAt ad c j sz) (n - j) (c - j)) sz (n - j) (cs.drop (j * sz)) := by
  have hl := h.len
  have hb := h.big
  obtain ⟨ad', c', he, hf⟩ := h.form
  cases he
  refine ⟨by rw [List.length_drop, hl, Nat.sub_mul], by omega, _, _, rfl, fun h0 => ?_⟩
  obtain ⟨b, o, rfl, hM, hc⟩ := hf (by omega)
  refine ⟨b, o + j * sz, ?_, hM, fun i u hi => ?_⟩
  · have : ¬ c = j := by omega
    simp [fromAt, this, add_none]
  · rw [List.getElem?_drop] at hi
    rw [Nat.add_assoc]
    exact hc _ u hi
/-- Lists of things of so many cells, cut. -/
theorem Sl.takeF {α : Type} {f : α → List Value} {M : Nat → Prop} {w : World} {sz : Nat} (hf : ∀ x, (f x).length = sz) {ad : Option Addr} {c : Nat} {xs : List α} (h : Sl M w (.slice ad xs.length c) sz xs.length (xs.flatMap f)) {j : Nat} (hj : j ≤ xs.length) : Sl M w (.slice ad j c) sz j ((xs.take j).flatMap f) := by
  have := h.takeN hj
  rwa [flat_take f sz hf] at this
theorem Sl.fromF {α : Type} {f : α → List Value} {M : Nat → Prop} {w : World} {sz : Nat} (hf : ∀ x, (f x).length = sz) {ad : Option Addr} {c : Nat} {xs : List α} (h : Sl M w (.slice ad xs.length c) sz xs.length (xs.flatMap f)) {j : Nat} (hj : j ≤ xs.length) (hnc : xs.length ≤ c) : Sl M w (.slice (fromAt ad c j sz) (xs.length - j) (c - j)) sz (xs.length - j) ((xs.drop j).flatMap f) := by
  have := h.fromN hj hnc
  rwa [flat_drop f sz hf] at this
/-- What is read by the way, whatever the store does. -/
theorem Sl.pass {M M' : Nat → Prop} {w w' : World} {v : Value} {sz n : Nat} {cs : List Value} (h : Sl M w v sz n cs) (hsz : 0 < sz) (hm : Mod M w w') (hM : ∀ b, M' b → M b ∨ w.heap.size ≤ b) : Sl M' w' v sz n cs := by
  have h1 : Sl (fun b => M b ∨ M' b) w v sz n cs := h.off hsz (fun b hb e => by
    rcases e with e | e
    · exact e
    · rcases hM b e with h2 | h2
      · exact h2
      · omega)
  exact (h1.mod (hm.mono fun b _ e => .inl e)).off hsz (fun b _ e => .inr e)
end Go.X
/- Regions whose order is drawn, told by a tree of choices. Nothing is assumed. -/
set_option linter.unusedVariables false
set_option linter.unusedSimpArgs false
namespace Go.X
open Go Go.RowKit

inductive OT where
  | nil
  | op (i : Nat) (loud : Bool) (t : OT)
  | fork (i : Nat) (p : OT) (j : Nat) (q : OT)
def OT.len : OT → Nat
  | .nil => 0
  | .op _ _ t => t.len + 1
  | .fork _ p _ _ => p.len + 1
def okT (ops : Array Oper) (tl : List Nat) : Array Bool → OT → Bool
  | L, .nil => (Region.ready .any ops L).isEmpty
  | L, .op i loud t => (if loud then Region.ready .any ops L == [i] else (Region.ready .any ops L).contains i && Region.free .any ops L i) && okT ops tl (L.setIfInBounds i true) t
  | L, .fork i p j q => Region.ready .any ops L == [i, j] && Nat.beq p.len q.len && okT ops tl (L.setIfInBounds i true) p && okT ops tl (L.setIfInBounds j true) q
def wpOT (P : Program) (ops : Array Oper) (S : World → Prop) (tl : List Nat) (Q : Exit → Act → World → Prop) : OT → Act → World → Prop
  | .nil, a, w => Q .normal a w
  | .op i false t, a, w => ∃ o v, ops[i]? = some o ∧ (YieldsIf P ops (fun _ => True) o v a ∨ tailOk ops tl i = true ∧ YieldsIf P ops S o v a ∧ S w) ∧ wpOT P ops S tl Q t (a.put o.dst v) w
  | .op i true t, a, w => wpOp P ops Q i (fun a' w' => (tl.contains i = false → S w → S w') ∧ wpOT P ops S tl Q t a' w') a w
  | .fork i p j q, a, w => wpOp P ops Q i (fun a' w' => (tl.contains i = false → S w → S w') ∧ wpOT P ops S tl Q p a' w') a w ∧ wpOp P ops Q j (fun a' w' => (tl.contains j = false → S w → S w') ∧ wpOT P ops S tl Q q a' w') a w
theorem wpT_of_ot {P : Program} {ops : Array Oper} {S : World → Prop} {tl : List Nat} {Q : Exit → Act → World → Prop} (hs : Region.noSelect ops = true) (hQ : ∀ c a w, ¬ Q (.panic c) a w) :
    ∀ (t : OT) (L : Array Bool) (a : Act) (w : World), okT ops tl L t = true → wpOT P ops S tl Q t a w → wpT P ops Q S tl.contains t.len L a w
  | .nil, L, a, w, h, hw => ⟨by simpa [okT, List.isEmpty_iff] using h, hw⟩
  | .op i false r, L, a, w, h, hw => by
    simp only [okT, Bool.and_eq_true, Bool.false_eq_true, if_false] at h
    obtain ⟨o, v, ho, hy, hr⟩ := hw
    have hrec := wpT_of_ot hs hQ r _ _ _ h.2 hr
    have hfree := Region.free_spec ho h.1.2
    rcases hy with hy | ⟨ht, hy, hSw⟩
    · exact wpT_take hs hQ ho (C := fun _ => True) (fun _ _ => trivial) (.inl fun _ => trivial) _ _ _ _ hfree (by simpa using h.1.1) hy trivial (.inl fun _ => trivial) hrec
    · refine wpT_take hs hQ ho (C := S) (fun _ h => h) (.inr fun j oj hj htj => ?_) _ _ _ _ hfree (by simpa using h.1.1) hy hSw (.inr hSw) hrec
      have h1 := List.all_eq_true.1 ht j (by simpa using htj)
      have h2 : nth ops.toList j = some oj := by rw [nth_eq]; simpa using hj
      simp only [h2] at h1
      exact h1
  | .op i true r, L, a, w, h, hw => by
    simp only [okT, Bool.and_eq_true, if_true, beq_iff_eq] at h
    refine ⟨fun h0 => (by rw [h.1] at h0; cases h0), fun j hj => ?_⟩
    rw [h.1] at hj
    simp only [List.mem_singleton] at hj
    subst hj
    exact wpOp_mono (fun a' w' h' => ⟨h'.1, wpT_of_ot hs hQ r _ _ _ h.2 h'.2⟩) hw
  | .fork i p j q, L, a, w, h, hw => by
    simp only [okT, Bool.and_eq_true, beq_iff_eq] at h
    obtain ⟨⟨⟨h1, h2⟩, h3⟩, h4⟩ := h
    have hl : p.len = q.len := Nat.eq_of_beq_eq_true h2
    refine ⟨fun h0 => (by rw [h1] at h0; cases h0), fun m hm => ?_⟩
    rw [h1] at hm
    simp only [List.mem_cons, List.not_mem_nil, or_false] at hm
    rcases hm with rfl | rfl
    · exact wpOp_mono (fun a' w' h' => ⟨h'.1, wpT_of_ot hs hQ p _ _ _ h3 h'.2⟩) hw.1
    · exact wpOp_mono (fun a' w' h' => ⟨h'.1, hl ▸ wpT_of_ot hs hQ q _ _ _ h4 h'.2⟩) hw.2
def DT (P : Program) (n : Nat) (ops : List Oper) (S : World → Prop) (tl : List Nat) (rest : OT) (e : Env) (w : World) (K : Exit → Act → World → Prop) : Prop := ∀ a, Fits e n a → wpOT P ops.toArray S tl K rest a w
section
variable {P : Program} {f : FuncId} {n : Nat} {R : Ending → World → Prop} {k : List Item} {e : Env} {w : World} {ops : List Oper} {rest : OT} {K : Exit → Act → World → Prop} {S : World → Prop} {tl : List Nat}
theorem RK.drawT0 {id : Nat} {l : List Oper} (M : Nat → Prop) (t : OT) (tl : List Nat) (hm : P.follows .mixedOrders = true) (hb : (Region.noSelect l.toArray && okT l.toArray tl (Array.replicate l.length false) t && Nat.beq l.length t.len) = true)
    (h : DT P n l (Mod M w) tl t e { w with drawn := w.drawn + 1 } (post P f R k)) : RK P f n R (.code (.region id l.toArray true) :: k) e w := by
  intro a ha
  simp only [Bool.and_eq_true] at hb
  have hl : l.length = t.len := Nat.eq_of_beq_eq_true hb.2
  refine Runs.of_wp (wp_region_any hm (wpT_any (S := Mod M w) (T := tl.contains) _ _ _ _ ?_))
  have := wpT_of_ot (P := P) (S := Mod M w) (Q := post P f R k) hb.1.1 (fun c a w h => h) t _ a _ hb.1.2 (h a ha)
  simpa [hl] using this
theorem RK.drawT {id : Nat} {l : List Oper} (M : Nat → Prop) (t : OT) (tl : List Nat) (hm : P.follows .mixedOrders = true) (hb : (Region.noSelect l.toArray && okT l.toArray tl (Array.replicate l.length false) t && Nat.beq l.length t.len) = true)
    (h : DT P n l (Mod M w) tl t e w.drew (post P f R k)) : RK P f n R (.code (.region id l.toArray true) :: k) e w := RK.drawT0 M t tl hm hb h
theorem DT.fork {i j : Nat} {p q : OT} (h1 : DT P n ops S tl (.op i true p) e w K) (h2 : DT P n ops S tl (.op j true q) e w K) : DT P n ops S tl (.fork i p j q) e w K := fun a ha => ⟨h1 a ha, h2 a ha⟩
theorem DT.done (h : RK P f n R k e w) : DT P n ops S tl .nil e w (post P f R k) := fun a ha => h a ha
theorem DT.q {i : Nat} {o : Oper} {d : Nat} {v : Value} (hi : nth ops i = some o) (hw : Want ops.toArray e o true) (hd : o.dst = some d) (hb : Nat.blt d n = true) (ht : tailOk ops.toArray tl i = true) (hy : Yld P n S e o v) (hS : S w) (h : DT P n ops S tl rest ((d, v) :: e) w K) :
    DT P n ops S tl (.op i false rest) e w K := by
  intro a ha
  refine ⟨o, v, by rw [← nth_eq, hi], .inr ⟨ht, .inl ⟨hw.at_ ha, fun w' hS => hy a ha w' hS⟩, hS⟩, ?_⟩
  rw [hd]
  exact h _ (ha.put hb v)
/-- One that asks nothing of the world. -/
theorem DT.qf {i : Nat} {o : Oper} {d : Nat} {v : Value} (hi : nth ops i = some o) (hw : Want ops.toArray e o true) (hd : o.dst = some d) (hb : Nat.blt d n = true) (hy : Yld P n (fun _ => True) e o v) (h : DT P n ops S tl rest ((d, v) :: e) w K) :
    DT P n ops S tl (.op i false rest) e w K := by
  intro a ha
  refine ⟨o, v, by rw [← nth_eq, hi], .inl (.inl ⟨hw.at_ ha, fun w' hS => hy a ha w' hS⟩), ?_⟩
  rw [hd]
  exact h _ (ha.put hb v)
theorem DT.no {i : Nat} {o : Oper} {d : Nat} (hi : nth ops i = some o) (hw : Want ops.toArray e o false) (hd : o.dst = some d) (hb : Nat.blt d n = true) (h : DT P n ops S tl rest ((d, undef) :: e) w K) :
    DT P n ops S tl (.op i false rest) e w K := by
  intro a ha
  refine ⟨o, undef, by rw [← nth_eq, hi], .inl (.inr ⟨hw.at_ ha, rfl⟩), ?_⟩
  rw [hd]
  exact h _ (ha.put hb undef)
theorem DT.lq {i : Nat} {o : Oper} {d : Nat} {v : Value} (hi : nth ops i = some o) (hw : Want ops.toArray e o true) (hd : o.dst = some d) (hb : Nat.blt d n = true) (hy : Yld P n (· = w) e o v) (h : DT P n ops S tl rest ((d, v) :: e) w K) :
    DT P n ops S tl (.op i true rest) e w K := by
  intro a ha
  have hi' : ops.toArray[i]? = some o := by rw [← nth_eq, hi]
  unfold wpOT wpOp
  simp only [hi']
  rw [if_pos (hw.at_ ha)]
  refine .inl ?_
  unfold Oper.wp
  rw [hy a ha w rfl]
  simp only [Oper.upon, hd]
  exact ⟨fun _ h => h, h _ (ha.put hb v)⟩
theorem DT.lno {i : Nat} {o : Oper} {d : Nat} (hi : nth ops i = some o) (hw : Want ops.toArray e o false) (hd : o.dst = some d) (hb : Nat.blt d n = true) (h : DT P n ops S tl rest ((d, undef) :: e) w K) :
    DT P n ops S tl (.op i true rest) e w K := by
  intro a ha
  have hi' : ops.toArray[i]? = some o := by rw [← nth_eq, hi]
  unfold wpOT wpOp
  simp only [hi']
  rw [if_neg (by rw [hw.at_ ha]; decide), hd]
  exact ⟨fun _ h => h, h _ (ha.put hb undef)⟩
theorem DT.op {i : Nat} {o : Oper} {d : Nat} {Q : Value → World → Prop} (hi : nth ops i = some o) (hw : Want ops.toArray e o true) (hd : o.dst = some d) (hb : Nat.blt d n = true) (hy : Does P n e w o Q) (h : ∀ v w', Q v w' → S w' ∧ DT P n ops S tl rest ((d, v) :: e) w' K) :
    DT P n ops S tl (.op i true rest) e w K := by
  intro a ha
  have hi' : ops.toArray[i]? = some o := by rw [← nth_eq, hi]
  unfold wpOT wpOp
  simp only [hi']
  rw [if_pos (hw.at_ ha)]
  refine .inl (hy a ha _ _ fun v w' hv => ⟨fun _ _ => (h v w' hv).1, ?_⟩)
  rw [hd]
  exact (h v w' hv).2 _ (ha.put hb v)
theorem DT.op' {i : Nat} {o : Oper} {Q : Value → World → Prop} (hi : nth ops i = some o) (hw : Want ops.toArray e o true) (hd : o.dst = none) (hy : Does P n e w o Q) (h : ∀ v w', Q v w' → S w' ∧ DT P n ops S tl rest e w' K) :
    DT P n ops S tl (.op i true rest) e w K := by
  intro a ha
  have hi' : ops.toArray[i]? = some o := by rw [← nth_eq, hi]
  unfold wpOT wpOp
  simp only [hi']
  rw [if_pos (hw.at_ ha)]
  refine .inl (hy a ha _ _ fun v w' hv => ⟨fun _ _ => (h v w' hv).1, ?_⟩)
  rw [hd]
  exact (h v w' hv).2 _ ha
/-- The last ones: nothing is asked of the world behind them. -/
theorem DT.opT {i : Nat} {o : Oper} {Q : Value → World → Prop} (hi : nth ops i = some o) (hw : Want ops.toArray e o true) (hd : o.dst = none) (hT : tl.contains i = true) (hy : Does P n e w o Q) (h : ∀ v w', Q v w' → DT P n ops S tl rest e w' K) :
    DT P n ops S tl (.op i true rest) e w K := by
  intro a ha
  have hi' : ops.toArray[i]? = some o := by rw [← nth_eq, hi]
  unfold wpOT wpOp
  simp only [hi']
  rw [if_pos (hw.at_ ha)]
  refine .inl (hy a ha _ _ fun v w' hv => ⟨fun h0 => (by rw [hT] at h0; cases h0), ?_⟩)
  rw [hd]
  exact (h v w' hv) _ ha
theorem DT.p {ops : List Oper} {rest : OT} {S : World → Prop} {tl : List Nat} {i d : Nat} {op : Op} {t : TypeId} {pos : String} {af : Array Edge} {v : Value} (hi : nth ops i = some ⟨some d, op, t, pos, af, none⟩) (hp : pureOp e op = some v) (hb : Nat.blt d n = true) (h : DT P n ops S tl rest ((d, v) :: e) w K) :
    DT P n ops S tl (.op i false rest) e w K := DT.qf hi (.free rfl) rfl hb (Yld.pure hp) h
theorem DT.re {ops : List Oper} {rest : OT} {S : World → Prop} {tl : List Nat} {d : Nat} {v v' : Value} (hg : get e d = some v) (hb : Nat.blt d n = true) (hv : v = v') (h : DT P n ops S tl rest ((d, v') :: e) w K) : DT P n ops S tl rest e w K := fun a ha => h a (ha.again hg hv)
theorem DT.split {ops : List Oper} {rest : OT} {S : World → Prop} {tl : List Nat} {d : Nat} {t : Bool} (hg : get e d = some (.bool t)) (hb : Nat.blt d n = true) (h1 : t = true → DT P n ops S tl rest ((d, .bool true) :: e) w K) (h2 : t = false → DT P n ops S tl rest ((d, .bool false) :: e) w K) : DT P n ops S tl rest e w K := by
  cases t with
  | true => exact DT.re hg hb rfl (h1 rfl)
  | false => exact DT.re hg hb rfl (h2 rfl)
theorem DT.knownT {ops : List Oper} {rest : OT} {S : World → Prop} {tl : List Nat} {d : Nat} {t : Bool} (hg : get e d = some (.bool t)) (hb : Nat.blt d n = true) (ht : t = true) (h1 : DT P n ops S tl rest ((d, .bool true) :: e) w K) : DT P n ops S tl rest e w K := DT.re hg hb (by rw [ht]) h1
theorem DT.knownF {ops : List Oper} {rest : OT} {S : World → Prop} {tl : List Nat} {d : Nat} {t : Bool} (hg : get e d = some (.bool t)) (hb : Nat.blt d n = true) (ht : t = false) (h1 : DT P n ops S tl rest ((d, .bool false) :: e) w K) : DT P n ops S tl rest e w K := DT.re hg hb (by rw [ht]) h1
theorem DT.splitD {ops : List Oper} {rest : OT} {S : World → Prop} {tl : List Nat} {d : Nat} {p : Prop} [hp : Decidable p] (hg : get e d = some (.bool (decide p))) (hb : Nat.blt d n = true) (h1 : p → DT P n ops S tl rest ((d, .bool true) :: e) w K) (h2 : ¬ p → DT P n ops S tl rest ((d, .bool false) :: e) w K) : DT P n ops S tl rest e w K :=
  DT.split hg hb (fun h => h1 (of_decide_eq_true h)) (fun h => h2 (of_decide_eq_false h))
theorem DT.splitN {ops : List Oper} {rest : OT} {S : World → Prop} {tl : List Nat} {d : Nat} {p : Prop} [hp : Decidable p] (hg : get e d = some (.bool (!decide p))) (hb : Nat.blt d n = true) (h1 : ¬ p → DT P n ops S tl rest ((d, .bool true) :: e) w K) (h2 : p → DT P n ops S tl rest ((d, .bool false) :: e) w K) : DT P n ops S tl rest e w K :=
  DT.split hg hb (fun h => h1 (by simpa using h)) (fun h => h2 (by simpa using h))
end
end Go.X
