/- Slices of things of one size; strings in order. Nothing is assumed. -/
import Derived.Test.YtffbcfcoddacmaaGreatX3
set_option linter.unusedVariables false
set_option linter.unusedSimpArgs false
namespace Go.X
open Go Go.RowKit

theorem flat_get {α : Type} (f : α → List Value) (sz : Nat) (hf : ∀ x, (f x).length = sz) : ∀ (xs : List α) (k j : Nat) (x : α), xs[k]? = some x → j < sz → (xs.flatMap f)[k * sz + j]? = (f x)[j]?
  | [], k, j, x, h, _ => by simp at h
  | y :: xs, 0, j, x, h, hj => by
    simp at h; subst h
    simp only [List.flatMap_cons, Nat.zero_mul, Nat.zero_add]
    rw [List.getElem?_append_left (by rw [hf]; exact hj)]
  | y :: xs, k + 1, j, x, h, hj => by
    simp only [List.flatMap_cons]
    have e : (k + 1) * sz + j = (f y).length + (k * sz + j) := by rw [hf, Nat.add_mul]; omega
    rw [e, List.getElem?_append_right (by omega), Nat.add_sub_cancel_left]
    exact flat_get f sz hf xs k j x (by simpa using h) hj
theorem flat_len {α : Type} (f : α → List Value) (sz : Nat) (hf : ∀ x, (f x).length = sz) (xs : List α) : (xs.flatMap f).length = xs.length * sz := by
  induction xs with
  | nil => simp
  | cons x xs ih => simp [ih, hf, Nat.add_mul]; omega
/-- The cells of one element of a slice that is read. -/
theorem Sl.elem {α : Type} {M : Nat → Prop} {w : World} {v : Value} {sz : Nat} {f : α → List Value} (hf : ∀ x, (f x).length = sz) {xs : List α} (h : Sl M w v sz xs.length (xs.flatMap f)) {k : Nat} {x : α} (hx : xs[k]? = some x) :
    ∃ b o c, v = .slice (some ⟨b, o, none⟩) xs.length c ∧ ¬ M b ∧ k < xs.length ∧ ∀ j u, (f x)[j]? = some u → w.cell? ⟨b, o + k * sz + j, none⟩ = some u := by
  have hk : k < xs.length := (List.getElem?_eq_some_iff.1 hx).1
  obtain ⟨ad, c, hv, hform⟩ := h.form
  obtain ⟨b, o, rfl, hb, hc⟩ := hform (by omega)
  refine ⟨b, o, c, hv, hb, hk, fun j u hj => ?_⟩
  have hjl : j < sz := by have := (List.getElem?_eq_some_iff.1 hj).1; rwa [hf] at this
  rw [Nat.add_assoc]
  exact hc (k * sz + j) u (by rw [flat_get f sz hf xs k j x hx hjl]; exact hj)
/-- One-celled elements. -/
theorem flat_one {α : Type} (g : α → Value) (xs : List α) : xs.flatMap (fun x => [g x]) = xs.map g := by
  induction xs with
  | nil => rfl
  | cons x xs ih => simp [ih]
theorem Sl.elem1 {M : Nat → Prop} {w : World} {v : Value} {n : Nat} {cs : List Value} (h : Sl M w v 1 n cs) {k : Nat} {u : Value} (hu : cs[k]? = some u) :
    ∃ b o c, v = .slice (some ⟨b, o, none⟩) n c ∧ ¬ M b ∧ k < n ∧ ∀ j v, cs[j]? = some v → w.cell? ⟨b, o + j * 1, none⟩ = some v := by
  have hk : k < n := by have := (List.getElem?_eq_some_iff.1 hu).1; rw [h.len] at this; omega
  obtain ⟨ad, c, hv, hform⟩ := h.form
  obtain ⟨b, o, rfl, hb, hc⟩ := hform (by omega)
  exact ⟨b, o, c, hv, hb, hk, fun j v hj => by rw [Nat.mul_one]; exact hc j v hj⟩
theorem Sl.shape {M : Nat → Prop} {w : World} {v : Value} {sz n : Nat} {cs : List Value} (h : Sl M w v sz n cs) : ∃ ad c, v = .slice ad n c := by
  obtain ⟨ad, c, hv, _⟩ := h.form; exact ⟨ad, c, hv⟩
/-- The value is a slice at an address that is known where there is an element. -/
theorem Sl.open {M : Nat → Prop} {w : World} {v : Value} {sz n : Nat} {cs : List Value} (h : Sl M w v sz n cs) : ∃ ad c b o, v = .slice ad n c ∧ (0 < n → ad = some ⟨b, o, none⟩ ∧ ¬ M b ∧ ∀ j u, cs[j]? = some u → w.cell? ⟨b, o + j, none⟩ = some u) := by
  obtain ⟨ad, c, hv, hform⟩ := h.form
  by_cases hn : 0 < n
  · obtain ⟨b, o, ha, hb, hc⟩ := hform hn
    exact ⟨ad, c, b, o, hv, fun _ => ⟨ha, hb, hc⟩⟩
  · exact ⟨ad, c, 0, 0, hv, fun h' => absurd h' hn⟩

/-- The value's own block, if it has one, is new. -/
def Fresh (B : Nat) (v : Value) : Prop := ∀ b, v.ownBlock = some b → B ≤ b
theorem Sl.noM {M : Nat → Prop} {w : World} {v : Value} {sz n : Nat} {cs : List Value} (h : Sl M w v sz n cs) : Sl No w v sz n cs := ⟨h.len, h.big, by
  obtain ⟨ad, c, hv, hf⟩ := h.form
  exact ⟨ad, c, hv, fun hn => by obtain ⟨b, o, ha, _, hc⟩ := hf hn; exact ⟨b, o, ha, fun h => h, hc⟩⟩⟩

/-! ### strings in order -/
theorem bl_irrefl : ∀ l : List UInt8, Op.bytesLess l l = false
  | [] => rfl
  | a :: l => by simp [Op.bytesLess, bl_irrefl l]
theorem bl_trans : ∀ a b c : List UInt8, Op.bytesLess a b = true → Op.bytesLess b c = true → Op.bytesLess a c = true
  | _, [], _, h, _ => by cases ‹List UInt8› <;> simp [Op.bytesLess] at h
  | [], b :: bs, [], _, h => by simp [Op.bytesLess] at h
  | [], b :: bs, c :: cs, _, _ => rfl
  | a :: xs, b :: bs, [], _, h => by simp [Op.bytesLess] at h
  | a :: xs, b :: bs, c :: cs, h1, h2 => by
    simp only [Op.bytesLess, Bool.or_eq_true, decide_eq_true_eq, Bool.and_eq_true, beq_iff_eq] at h1 h2 ⊢
    rcases h1 with h1 | ⟨rfl, h1⟩
    · rcases h2 with h2 | ⟨rfl, h2⟩
      · exact .inl (UInt8.lt_trans h1 h2)
      · exact .inl h1
    · rcases h2 with h2 | ⟨rfl, h2⟩
      · exact .inl h2
      · exact .inr ⟨rfl, bl_trans xs bs cs h1 h2⟩
theorem bl_total : ∀ a b : List UInt8, Op.bytesLess a b = false → a ≠ b → Op.bytesLess b a = true
  | [], [], _, h => absurd rfl h
  | [], b :: bs, h, _ => by simp [Op.bytesLess] at h
  | a :: xs, [], _, _ => rfl
  | a :: xs, b :: bs, h, hne => by
    simp only [Op.bytesLess, Bool.or_eq_false_iff, decide_eq_false_iff_not, Bool.and_eq_false_iff, beq_eq_false_iff_ne, UInt8.not_lt] at h
    simp only [Op.bytesLess, Bool.or_eq_true, decide_eq_true_eq, Bool.and_eq_true, beq_iff_eq]
    by_cases e : a = b
    · subst e
      exact .inr ⟨rfl, bl_total xs bs (h.2.resolve_left (by simp)) fun h' => hne (by rw [h'])⟩
    · exact .inl (UInt8.lt_of_le_of_ne h.1 (Ne.symm e))
theorem slt_irrefl (a : ByteArray) : slt a a = false := bl_irrefl _
theorem slt_trans {a b c : ByteArray} (h : slt a b = true) (k : slt b c = true) : slt a c = true := bl_trans _ _ _ h k
theorem data_inj {a b : ByteArray} (h : a.data.toList = b.data.toList) : a = b := by
  cases a; cases b
  simp only [ByteArray.mk.injEq]
  exact Array.ext' h
theorem slt_total {a b : ByteArray} (h : slt a b = false) (hne : a ≠ b) : slt b a = true := bl_total _ _ h fun e => hne (data_inj e)
theorem slt_asymm {a b : ByteArray} (h : slt a b = true) : slt b a = false := by
  cases hb : slt b a with
  | false => rfl
  | true => have := slt_trans h hb; rw [slt_irrefl] at this; cases this
theorem sle_not (a b : ByteArray) : sle a b = !slt b a := by
  unfold sle
  by_cases e : a = b
  · subst e; simp [slt_irrefl]
  · cases h : slt a b with
    | true => simp [slt_asymm h]
    | false => simp [slt_total h e, e]
end Go.X
