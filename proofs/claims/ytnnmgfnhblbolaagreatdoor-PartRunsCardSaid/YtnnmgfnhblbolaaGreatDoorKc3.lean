/- What the claim stands on, part 3. Of own lemmas only those that it reaches. -/
import Derived.Test.YtnnmgfnhblbolaaGreatDoorKc2
set_option linter.unusedVariables false
set_option linter.unusedSimpArgs false
set_option maxHeartbeats 400000
namespace Go.Rex
inductive Rx where
  | set (s : List Nat)
  | node (op : Nat) (l : Rx)
  | nil
  | cons (x l : Rx)
  deriving DecidableEq, Inhabited
inductive Rt (R : Nat → Nat → Prop) : Nat → Nat → Prop where
  | refl (i : Nat) : Rt R i i
  | step {i k j : Nat} : R i k → Rt R k j → Rt R i j
theorem Rt.trans {R : Nat → Nat → Prop} {i k j : Nat} (h1 : Rt R i k) (h2 : Rt R k j) : Rt R i j := by
  induction h1 with
  | refl => exact h2
  | step h _ ih => exact .step h (ih h2)
theorem Rt.snoc {R : Nat → Nat → Prop} {i k j : Nat} (h1 : Rt R i k) (h2 : R k j) : Rt R i j := h1.trans (.step h2 (.refl _))
def Lg (H : List Nat → Nat → Prop) : Rx → Bool → Nat → Nat → Prop
  | .set s, _, i, j => H s i ∧ j = i + 1
  | .node op l, _, i, j => if op = 2 then Lg H l true i j else if op = 3 then Lg H l false i j else if op = 4 then Rt (Lg H l true) i j else if op = 5 then ∃ k, Lg H l true i k ∧ Rt (Lg H l true) k j else i = j ∨ Lg H l true i j
  | .nil, b, i, j => b = true ∧ i = j
  | .cons x l, b, i, j => if b = true then ∃ k, Lg H x true i k ∧ Lg H l true k j else Lg H x true i j ∨ Lg H l false i j
def cnt : Rx → Nat
  | .cons _ l => cnt l + 1
  | _ => 0
def sz : Rx → Nat
  | .set _ => 1
  | .node op l => if op = 2 then sz l else if op = 3 then sz l + 2 * (cnt l - 1) else if op = 4 then sz l + 2 else sz l + 1
  | .nil => 0
  | .cons x l => sz x + sz l
structure Stp where
  op : Nat
  set : List Nat
  a : Nat
  b : Nat
  deriving DecidableEq, Inhabited
def byteS (s : List Nat) : Stp := ⟨1, s, 0, 0⟩
def zero4 : List Nat := [0, 0, 0, 0]
def splitS (a b : Nat) : Stp := ⟨2, zero4, a, b⟩
def jumpS (a : Nat) : Stp := ⟨3, zero4, a, 0⟩
def matchS : Stp := ⟨4, zero4, 0, 0⟩
def code : Rx → Option Nat → Nat → List Stp
  | .set s, _, _ => [byteS s]
  | .node op l, _, p => if op = 2 then code l none p else if op = 3 then code l (some (p + (sz l + 2 * (cnt l - 1)))) p else if op = 4 then splitS (p + 1) (p + 2 + sz l) :: (code l none (p + 1) ++ [jumpS p]) else if op = 5 then code l none p ++ [splitS p (p + sz l + 1)] else splitS (p + 1) (p + 1 + sz l) :: code l none (p + 1)
  | .nil, _, _ => []
  | .cons x l, none, p => code x none p ++ code l none (p + sz x)
  | .cons x l, some e, p => if l = .nil then code x none p else splitS (p + 1) (p + 2 + sz x) :: (code x none (p + 1) ++ jumpS e :: code l (some e) (p + 2 + sz x))
def Wf : Rx → Prop
  | .set _ => True
  | .node op l => Wf l ∧ (op = 3 → cnt l ≠ 0)
  | .nil => True
  | .cons x l => Wf x ∧ Wf l
def Ls : Rx → Prop
  | .set _ => False
  | .node _ _ => False
  | .nil => True
  | .cons _ l => Ls l
def Wl : Rx → Prop
  | .set _ => True
  | .node _ l => Ls l ∧ Wl l
  | .nil => True
  | .cons x l => Wl x ∧ Wl l ∧ Ls l
theorem ls_nil {l : Rx} (h : Ls l) (hc : cnt l = 0) : l = .nil := by
  cases l with
  | set => exact h.elim
  | node => exact h.elim
  | nil => rfl
  | cons => simp [cnt] at hc
theorem code_len (x : Rx) : Wf x → Wl x → ∀ p, (code x none p).length = sz x ∧ ∀ e, Ls x → cnt x ≠ 0 → (code x (some e) p).length = sz x + 2 * (cnt x - 1) := by
  induction x with
  | set s => intro _ _ p; exact ⟨rfl, fun e h => h.elim⟩
  | nil => intro _ _ p; exact ⟨rfl, fun e _ h => absurd rfl h⟩
  | node op l ih =>
    intro hw hl p
    refine ⟨?_, fun e h => h.elim⟩
    have h1 := ih hw.1 hl.2
    simp only [code, sz]
    split
    · exact (h1 p).1
    · split
      · rename_i h2 h3; exact (h1 p).2 _ hl.1 (hw.2 h3)
      · split
        · simp [(h1 (p + 1)).1]
        · split
          · simp [(h1 p).1]
          · simp [(h1 (p + 1)).1]
  | cons x l ihx ihl =>
    intro hw hl p
    have hx := ihx hw.1 hl.1
    have h2 := ihl hw.2 hl.2.1
    refine ⟨by simp [code, sz, (hx p).1, (h2 _).1], fun e _ _ => ?_⟩
    simp only [code]
    split
    · rename_i h; subst h; simp [sz, cnt, (hx p).1]
    · rename_i h
      have hc : cnt l ≠ 0 := fun hc => h (ls_nil hl.2.2 hc)
      simp only [List.length_cons, List.length_append, (hx _).1, (h2 _).2 e hl.2.2 hc, sz, cnt]
      omega
def Seg (P : List Stp) (p : Nat) (l : List Stp) : Prop := ∀ k st, l[k]? = some st → P[p + k]? = some st
theorem Seg.append {P : List Stp} {p : Nat} {l1 l2 : List Stp} (h : Seg P p (l1 ++ l2)) : Seg P p l1 ∧ Seg P (p + l1.length) l2 := by
  refine ⟨fun k st hk => h k st ?_, fun k st hk => ?_⟩
  · rw [List.getElem?_append_left (List.getElem?_eq_some_iff.1 hk).1]; exact hk
  · have := h (l1.length + k) st (by rw [List.getElem?_append_right (by omega), Nat.add_sub_cancel_left]; exact hk)
    rwa [← Nat.add_assoc] at this
theorem Seg.cons {P : List Stp} {p : Nat} {s : Stp} {l : List Stp} (h : Seg P p (s :: l)) : P[p]? = some s ∧ Seg P (p + 1) l :=
  ⟨h 0 s rfl, fun k st hk => by have := h (k + 1) st (by simpa using hk); rwa [show p + (k + 1) = p + 1 + k by omega] at this⟩
inductive Go1 (P : List Stp) (H : List Nat → Nat → Prop) : Nat → Nat → Nat → Nat → Prop where
  | byte {c i : Nat} {st : Stp} : P[c]? = some st → st.op = 1 → H st.set i → Go1 P H c i (c + 1) (i + 1)
  | left {c i : Nat} {st : Stp} : P[c]? = some st → st.op = 2 → Go1 P H c i st.a i
  | right {c i : Nat} {st : Stp} : P[c]? = some st → st.op = 2 → Go1 P H c i st.b i
  | jump {c i : Nat} {st : Stp} : P[c]? = some st → st.op = 3 → Go1 P H c i st.a i
inductive Rn (P : List Stp) (H : List Nat → Nat → Prop) : Nat → Nat → Nat → Nat → Nat → Prop where
  | zero (c i : Nat) : Rn P H 0 c i c i
  | step {n c i c' i' d j : Nat} : Go1 P H c i c' i' → Rn P H n c' i' d j → Rn P H (n + 1) c i d j
def Re (P : List Stp) (H : List Nat → Nat → Prop) (c i d j : Nat) : Prop := ∃ n, Rn P H n c i d j
section
variable {P : List Stp} {H : List Nat → Nat → Prop}
theorem Re.refl (c i : Nat) : Re P H c i c i := ⟨0, .zero c i⟩
theorem Re.step {c i c' i' d j : Nat} (h : Go1 P H c i c' i') (h2 : Re P H c' i' d j) : Re P H c i d j := let ⟨n, hn⟩ := h2; ⟨n + 1, .step h hn⟩
theorem Re.trans {c i c' i' d j : Nat} (h : Re P H c i c' i') (h2 : Re P H c' i' d j) : Re P H c i d j := by
  obtain ⟨n, hn⟩ := h
  induction hn with
  | zero => exact h2
  | step h _ ih => exact .step h (ih h2)
theorem Rn.inv {n c i d j : Nat} (h : Rn P H n c i d j) (hne : c ≠ d) : ∃ m c' i', n = m + 1 ∧ Go1 P H c i c' i' ∧ Rn P H m c' i' d j := by
  cases h with
  | zero => exact absurd rfl hne
  | step h1 h2 => exact ⟨_, _, _, rfl, h1, h2⟩
theorem Go1.of {c i c' i' : Nat} {st : Stp} (h : Go1 P H c i c' i') (hs : P[c]? = some st) : (st.op = 1 ∧ H st.set i ∧ c' = c + 1 ∧ i' = i + 1) ∨ (st.op = 2 ∧ i' = i ∧ (c' = st.a ∨ c' = st.b)) ∨ (st.op = 3 ∧ i' = i ∧ c' = st.a) := by
  cases h with
  | byte a b d => rw [hs] at a; cases a; exact .inl ⟨b, d, rfl, rfl⟩
  | left a b => rw [hs] at a; cases a; exact .inr (.inl ⟨b, rfl, .inl rfl⟩)
  | right a b => rw [hs] at a; cases a; exact .inr (.inl ⟨b, rfl, .inr rfl⟩)
  | jump a b => rw [hs] at a; cases a; exact .inr (.inr ⟨b, rfl, rfl⟩)
theorem Go1.split {c i c' i' a b : Nat} (h : Go1 P H c i c' i') (hs : P[c]? = some (splitS a b)) : i' = i ∧ (c' = a ∨ c' = b) := by
  rcases h.of hs with ⟨h1, _⟩ | ⟨_, h2, h3⟩ | ⟨h1, _⟩
  · exact absurd h1 (fun h => by cases h)
  · exact ⟨h2, h3⟩
  · exact absurd h1 (fun h => by cases h)
end
def whole (x : Rx) : List Stp := code x none 0 ++ [matchS]
end Go.Rex
set_option linter.unusedVariables false
set_option linter.unusedSimpArgs false
set_option maxHeartbeats 400000
namespace Go.Rex
def E1 (P : List Stp) (c d : Nat) : Prop := ∃ st, P[c]? = some st ∧ (st.op = 2 ∧ (d = st.a ∨ d = st.b) ∨ st.op = 3 ∧ d = st.a)
def Leaf (P : List Stp) (c : Nat) : Prop := ∃ st, P[c]? = some st ∧ st.op ≠ 2 ∧ st.op ≠ 3
structure Come (P : List Stp) (at_ been r been' : Nat) : Prop where
  sub : ∀ v, been.testBit v = true → been'.testBit v = true
  here : been'.testBit at_ = true
  sound : ∀ v, been'.testBit v = true → been.testBit v = true ∨ Rt (E1 P) at_ v
  closed : ∀ v, been'.testBit v = true → been.testBit v = false → ∀ u, E1 P v u → been'.testBit u = true
  ret : ∀ v, r.testBit v = true ↔ been'.testBit v = true ∧ been.testBit v = false ∧ Leaf P v
section
variable {P : List Stp}
theorem bit_or {b c v : Nat} : (b ||| 1 <<< c).testBit v = true ↔ b.testBit v = true ∨ v = c := by
  rw [Nat.testBit_or, Nat.one_shiftLeft, Nat.testBit_two_pow, Bool.or_eq_true, decide_eq_true_eq]
  constructor <;> rintro (h | h) <;> simp [h]
theorem bit_or' {b c v : Nat} : (b ||| 1 <<< c).testBit v = false ↔ b.testBit v = false ∧ v ≠ c := by
  rw [← Bool.not_eq_true, bit_or, not_or, Bool.not_eq_true]
theorem Come.split {c been r1 b1 r2 b2 : Nat} {st : Stp} (h : been.testBit c = false) (hs : P[c]? = some st) (ho : st.op = 2) (h1 : Come P st.a (been ||| 1 <<< c) r1 b1) (h2 : Come P st.b b1 r2 b2) : Come P c been (r1 ||| r2) b2 := by
  have hea : E1 P c st.a := ⟨st, hs, .inl ⟨ho, .inl rfl⟩⟩
  have heb : E1 P c st.b := ⟨st, hs, .inl ⟨ho, .inr rfl⟩⟩
  refine ⟨fun v hv => h2.sub v (h1.sub v (bit_or.2 (.inl hv))), h2.sub _ (h1.sub _ (bit_or.2 (.inr rfl))), fun v hv => ?_, fun v hv hn u hu => ?_, fun v => ?_⟩
  · rcases h2.sound v hv with h' | h'
    · rcases h1.sound v h' with h' | h'
      · rcases bit_or.1 h' with h' | rfl
        · exact .inl h'
        · exact .inr (.refl _)
      · exact .inr (.step hea h')
    · exact .inr (.step heb h')
  · by_cases e : v = c
    · subst e
      obtain ⟨s2, g1, g2⟩ := hu
      rw [hs] at g1; cases g1
      rcases g2 with ⟨_, rfl | rfl⟩ | ⟨g, _⟩
      · exact h2.sub _ h1.here
      · exact h2.here
      · rw [ho] at g; cases g
    · cases hb : b1.testBit v with
      | true => exact h2.sub _ (h1.closed v hb (bit_or'.2 ⟨hn, e⟩) u hu)
      | false => exact h2.closed v hv hb u hu
  · rw [Nat.testBit_or, Bool.or_eq_true, h1.ret, h2.ret]
    constructor
    · rintro (⟨a, b, d⟩ | ⟨a, b, d⟩)
      · exact ⟨h2.sub _ a, (bit_or'.1 b).1, d⟩
      · refine ⟨a, ?_, d⟩
        cases hv : been.testBit v with
        | false => rfl
        | true => rw [h1.sub v (bit_or.2 (.inl hv))] at b; cases b
    · rintro ⟨a, b, d⟩
      cases hb : b1.testBit v with
      | true =>
        refine .inl ⟨rfl, bit_or'.2 ⟨b, ?_⟩, d⟩
        rintro rfl
        obtain ⟨s2, g1, g2, g3⟩ := d
        rw [hs] at g1; cases g1
        exact g2 ho
      | false => exact .inr ⟨a, rfl, d⟩
variable {H : List Nat → Nat → Prop}
structure NextI (P : List Stp) (H : List Nat → Nat → Prop) (m k i been r : Nat) : Prop where
  sound : ∀ v, been.testBit v = true → ∃ c st, m.testBit c = true ∧ P[c]? = some st ∧ st.op = 1 ∧ H st.set k ∧ Rt (E1 P) (c + 1) v
  has : ∀ c st, c < i → m.testBit c = true → P[c]? = some st → st.op = 1 → H st.set k → been.testBit (c + 1) = true
  closed : ∀ v, been.testBit v = true → ∀ u, E1 P v u → been.testBit u = true
  ret : ∀ v, r.testBit v = true ↔ been.testBit v = true ∧ Leaf P v
theorem NextI.zero {m k : Nat} : NextI P H m k 0 0 0 := ⟨by simp, fun c st h => by omega, by simp, by simp⟩
theorem NextI.no {m k i been r : Nat} (h : NextI P H m k i been r) (hn : ∀ st, m.testBit i = true → P[i]? = some st → st.op = 1 → ¬ H st.set k) : NextI P H m k (i + 1) been r :=
  ⟨h.sound, fun c st hc h1 h2 h3 h4 => by
    by_cases e : c = i
    · subst e; exact absurd h4 (hn st h1 h2 h3)
    · exact h.has c st (by omega) h1 h2 h3 h4, h.closed, h.ret⟩
theorem NextI.yes {m k i been r r' b' : Nat} {st : Stp} (h : NextI P H m k i been r) (h1 : m.testBit i = true) (h2 : P[i]? = some st) (h3 : st.op = 1) (h4 : H st.set k) (hc : Come P (i + 1) been r' b') : NextI P H m k (i + 1) b' (r ||| r') := by
  refine ⟨fun v hv => ?_, fun c s2 hc2 g1 g2 g3 g4 => ?_, fun v hv u hu => ?_, fun v => ?_⟩
  · rcases hc.sound v hv with h' | h'
    · exact h.sound v h'
    · exact ⟨i, st, h1, h2, h3, h4, h'⟩
  · by_cases e : c = i
    · subst e; exact hc.here
    · exact hc.sub _ (h.has c s2 (by omega) g1 g2 g3 g4)
  · cases hb : been.testBit v with
    | true => exact hc.sub _ (h.closed v hb u hu)
    | false => exact hc.closed v hv hb u hu
  · rw [Nat.testBit_or, Bool.or_eq_true, h.ret, hc.ret]
    constructor
    · rintro (⟨a, b⟩ | ⟨a, _, b⟩)
      · exact ⟨hc.sub _ a, b⟩
      · exact ⟨a, b⟩
    · rintro ⟨a, b⟩
      cases hb : been.testBit v with
      | true => exact .inl ⟨rfl, b⟩
      | false => exact .inr ⟨a, rfl, b⟩
end
def okS (n : Nat) (s : Stp) : Prop := s.op = 1 ∧ s.a = 0 ∧ s.b = 0 ∨ s.op = 2 ∧ s.a < n ∧ s.b < n ∧ s.set = zero4 ∨ s.op = 3 ∧ s.a < n ∧ s.b = 0 ∧ s.set = zero4
theorem okS.mono {n m : Nat} {s : Stp} (h : okS n s) (hm : n ≤ m) : okS m s := by
  rcases h with h | ⟨h1, h2, h3, h4⟩ | ⟨h1, h2, h3, h4⟩
  · exact .inl h
  · exact .inr (.inl ⟨h1, by omega, by omega, h4⟩)
  · exact .inr (.inr ⟨h1, by omega, h3, h4⟩)
inductive RtN (R : Nat → Nat → Prop) : Nat → Nat → Nat → Prop where
  | zero (i : Nat) : RtN R 0 i i
  | snoc {n i k j : Nat} : RtN R n i k → R k j → RtN R (n + 1) i j
theorem RtN.cons {R : Nat → Nat → Prop} {n i k j : Nat} (h : R i k) (h2 : RtN R n k j) : RtN R (n + 1) i j := by
  induction h2 with
  | zero => exact .snoc (.zero _) h
  | snoc _ h3 ih => exact .snoc (ih h) h3
end Go.Rex
set_option linter.unusedVariables false
set_option linter.unusedSimpArgs false
set_option maxHeartbeats 400000
namespace Go.Rex
open Go.X
def b8 (s : ByteArray) (i : Nat) : Nat := (bt s i).toNat
theorem b8_lt (s : ByteArray) (i : Nat) : b8 s i < 256 := UInt8.toNat_lt _
def setBit (l : List Nat) (c : Nat) : List Nat := l.modify (c / 64) (· ||| 1 <<< (c % 64))
def addG (l : List Nat) (a b : Nat) : List Nat := (List.range' a (b + 1 - a)).foldl setBit l
def invS (l : List Nat) : List Nat := l.map (18446744073709551615 - ·)
theorem setBit_len (l : List Nat) (c : Nat) : (setBit l c).length = l.length := by simp [setBit]
theorem setBit_lt {l : List Nat} (h : ∀ x ∈ l, x < 18446744073709551616) (c : Nat) : ∀ x ∈ setBit l c, x < 18446744073709551616 := by
  intro x hx
  unfold setBit at hx
  obtain ⟨i, hi⟩ := List.getElem?_of_mem hx
  simp only [List.getElem?_modify] at hi
  cases hl : l[i]? with
  | none => simp [hl] at hi
  | some y =>
    have hy := h y (List.mem_of_getElem? hl)
    simp only [hl, Option.map_some] at hi
    split at hi
    · simp at hi
      subst hi
      have h1 : (1 <<< (c % 64)) < 2 ^ 64 := by rw [Nat.shiftLeft_eq, Nat.one_mul]; exact Nat.pow_lt_pow_right (by omega) (Nat.mod_lt _ (by omega))
      exact Nat.or_lt_two_pow (n := 64) hy h1
    · simp at hi; subst hi; exact hy
theorem invS_lt (l : List Nat) : ∀ x ∈ invS l, x < 18446744073709551616 := by
  intro x hx
  obtain ⟨y, _, rfl⟩ := List.mem_map.1 hx
  omega
theorem addG_len (a b : Nat) : ∀ l : List Nat, (addG l a b).length = l.length := by
  unfold addG
  generalize List.range' a (b + 1 - a) = r
  induction r with
  | nil => intro l; rfl
  | cons x r ih => intro l; simp only [List.foldl_cons, ih, setBit_len]
theorem addG_lt (a b : Nat) : ∀ {l : List Nat}, (∀ x ∈ l, x < 18446744073709551616) → ∀ x ∈ addG l a b, x < 18446744073709551616 := by
  unfold addG
  generalize List.range' a (b + 1 - a) = r
  induction r with
  | nil => intro l h; exact h
  | cons x r ih => intro l h; exact ih (setBit_lt h x)
def W4 (l : List Nat) : Prop := l.length = 4 ∧ ∀ x ∈ l, x < 18446744073709551616
theorem W4.zero : W4 zero4 := ⟨rfl, by simp [zero4]⟩
theorem W4.bit {l : List Nat} (h : W4 l) (c : Nat) : W4 (setBit l c) := ⟨(setBit_len l c).trans h.1, setBit_lt h.2 c⟩
theorem W4.add {l : List Nat} (h : W4 l) (a b : Nat) : W4 (addG l a b) := ⟨(addG_len a b l).trans h.1, addG_lt a b h.2⟩
theorem W4.inv {l : List Nat} (h : W4 l) : W4 (invS l) := ⟨by simpa [invS] using h.1, invS_lt l⟩
def quotedS (c : Nat) : Bool := decide (c = 124 ∨ c = 42 ∨ c = 43 ∨ c = 63 ∨ c = 40 ∨ c = 41 ∨ c = 91 ∨ c = 93 ∨ c = 46 ∨ c = 92 ∨ c = 94 ∨ c = 45)
def signS (s : ByteArray) (i : Nat) : Option (Nat × Nat) := if i < s.size ∧ quotedS (b8 s i) = true then some (b8 s i, i + 1) else none
def memS (s : ByteArray) (i : Nat) : Option (Nat × Nat) :=
  if i < s.size then if b8 s i = 92 then signS s (i + 1) else if b8 s i = 93 ∨ b8 s i = 91 ∨ b8 s i = 94 ∨ b8 s i = 45 then none else some (b8 s i, i + 1) else none
def toS (s : ByteArray) (a i : Nat) : Option (Nat × Nat) := if i < s.size ∧ b8 s i = 45 then memS s (i + 1) else some (a, i)
def clsL (s : ByteArray) : Nat → Nat → List Nat → Option (List Nat × Nat)
  | 0, _, _ => none
  | n + 1, i, set => if i < s.size then if b8 s i = 93 then some (set, i + 1) else
      match memS s i with
      | none => none
      | some (a, i1) => match toS s a i1 with
        | none => none
        | some (b, i2) => if b < a then none else clsL s n i2 (addG set a b)
    else none
def notS (s : ByteArray) (i : Nat) : Bool := decide (i < s.size ∧ b8 s i = 94)
def clsB (s : ByteArray) (no : Bool) (i : Nat) : Option (List Nat × Nat) :=
  if i < s.size ∧ b8 s i = 93 then none else match clsL s (s.size + 1) i zero4 with
    | none => none
    | some (set, j) => some (if no then invS set else set, j)
def clsS (s : ByteArray) (i : Nat) : Option (List Nat × Nat) := clsB s (notS s i) (if notS s i then i + 1 else i)
theorem signS_adv {s : ByteArray} {i b j : Nat} (h : signS s i = some (b, j)) : i < j ∧ j ≤ s.size ∧ b < 256 := by
  unfold signS at h
  split at h
  · simp at h; have := b8_lt s i; omega
  · cases h
theorem memS_adv {s : ByteArray} {i b j : Nat} (h : memS s i = some (b, j)) : i < j ∧ j ≤ s.size ∧ b < 256 := by
  unfold memS at h
  split at h
  · split at h
    · have := signS_adv h; omega
    · split at h
      · cases h
      · simp at h; have := b8_lt s i; omega
  · cases h
theorem toS_adv {s : ByteArray} {a i b j : Nat} (h : toS s a i = some (b, j)) (hi : i ≤ s.size) (ha : a < 256) : i ≤ j ∧ j ≤ s.size ∧ b < 256 := by
  unfold toS at h
  split at h
  · have := memS_adv h; omega
  · simp at h; omega
theorem clsL_adv {s : ByteArray} : ∀ {n i : Nat} {set t : List Nat} {j : Nat}, clsL s n i set = some (t, j) → W4 set → i < j ∧ j ≤ s.size ∧ W4 t
  | 0, _, _, _, _, h, _ => by simp [clsL] at h
  | n + 1, i, set, t, j, h, hw => by
    unfold clsL at h
    split at h
    · split at h
      · simp at h; obtain ⟨rfl, rfl⟩ := h; exact ⟨by omega, by omega, hw⟩
      · cases hm : memS s i with
        | none => rw [hm] at h; cases h
        | some p =>
          obtain ⟨a, i1⟩ := p
          rw [hm] at h
          simp only at h
          have h1 := memS_adv hm
          cases ht : toS s a i1 with
          | none => rw [ht] at h; cases h
          | some q =>
            obtain ⟨b, i2⟩ := q
            rw [ht] at h
            simp only at h
            have h2 := toS_adv ht h1.2.1 h1.2.2
            split at h
            · cases h
            · have h3 := clsL_adv h (hw.add a b)
              exact ⟨by omega, h3.2⟩
    · cases h
theorem clsB_adv {s : ByteArray} {no : Bool} {i : Nat} {t : List Nat} {j : Nat} (h : clsB s no i = some (t, j)) : i < j ∧ j ≤ s.size ∧ W4 t := by
  unfold clsB at h
  split at h
  · cases h
  · cases hc : clsL s (s.size + 1) i zero4 with
    | none => rw [hc] at h; cases h
    | some p =>
      obtain ⟨u, k⟩ := p
      rw [hc] at h
      simp only [Option.some.injEq, Prod.mk.injEq] at h
      obtain ⟨rfl, rfl⟩ := h
      have h1 := clsL_adv hc W4.zero
      refine ⟨h1.1, h1.2.1, ?_⟩
      split
      · exact h1.2.2.inv
      · exact h1.2.2
theorem clsS_adv {s : ByteArray} {i : Nat} {t : List Nat} {j : Nat} (h : clsS s i = some (t, j)) : i < j ∧ j ≤ s.size ∧ W4 t := by
  have h1 := clsB_adv h
  refine ⟨?_, h1.2⟩
  have := h1.1
  split at this <;> omega
def lstS : List Rx → Rx
  | [] => .nil
  | x :: l => .cons x (lstS l)
def mkN (op : Nat) : List Rx → Rx
  | [x] => x
  | l => .node op (lstS l)
def onlyS (op : Nat) (x : Rx) : Rx := .node op (.cons x .nil)
def grpS (s : ByteArray) : Option (Rx × Nat) → Option (Rx × Nat)
  | some (x, j) => if j < s.size ∧ b8 s j = 41 then some (x, j + 1) else none
  | none => none
def atomS (s : ByteArray) (g : Nat → Option (Rx × Nat)) (i : Nat) : Option (Rx × Nat) :=
  if b8 s i = 40 then grpS s (g (i + 1)) else if b8 s i = 91 then (clsS s (i + 1)).map (fun p => (.set p.1, p.2))
  else if b8 s i = 46 then some (.set (invS zero4), i + 1) else if b8 s i = 92 then (signS s (i + 1)).map (fun p => (.set (setBit zero4 p.1), p.2))
  else if b8 s i = 42 ∨ b8 s i = 43 ∨ b8 s i = 63 ∨ b8 s i = 93 then none else some (.set (setBit zero4 (b8 s i)), i + 1)
def oftS (s : ByteArray) (x : Rx) (j : Nat) : Rx × Nat :=
  if j < s.size then if b8 s j = 42 then (onlyS 4 x, j + 1) else if b8 s j = 43 then (onlyS 5 x, j + 1) else if b8 s j = 63 then (onlyS 6 x, j + 1) else (x, j) else (x, j)
def factorS (s : ByteArray) (g : Nat → Option (Rx × Nat)) (i : Nat) : Option (Rx × Nat) := (atomS s g i).map fun p => oftS s p.1 p.2
def goesS (s : ByteArray) (i : Nat) : Bool := decide (i < s.size ∧ b8 s i ≠ 124 ∧ b8 s i ≠ 41)
def wayL (s : ByteArray) (g : Nat → Option (Rx × Nat)) : Nat → Nat → List Rx → Option (List Rx × Nat)
  | 0, _, _ => none
  | n + 1, i, acc => if goesS s i then match factorS s g i with
      | none => none
      | some (x, j) => wayL s g n j (acc ++ [x])
    else some (acc, i)
def wayS (s : ByteArray) (g : Nat → Option (Rx × Nat)) (i : Nat) : Option (Rx × Nat) := (wayL s g (s.size + 1) i []).map fun p => (mkN 2 p.1, p.2)
def barS (s : ByteArray) (i : Nat) : Bool := decide (i < s.size ∧ b8 s i = 124)
def waysL (s : ByteArray) (g : Nat → Option (Rx × Nat)) : Nat → Nat → List Rx → Option (List Rx × Nat)
  | 0, _, _ => none
  | n + 1, i, acc => if barS s i then match wayS s g (i + 1) with
      | none => none
      | some (x, j) => waysL s g n j (acc ++ [x])
    else some (acc, i)
def waysS (s : ByteArray) (g : Nat → Option (Rx × Nat)) (i : Nat) : Option (Rx × Nat) := match wayS s g i with
  | none => none
  | some (x, j) => (waysL s g (s.size + 1) j [x]).map fun p => (mkN 3 p.1, p.2)
def par (s : ByteArray) : Nat → Nat → Option (Rx × Nat)
  | 0, i => waysS s (fun _ => none) i
  | r + 1, i => waysS s (par s r) i
def parseS (s : ByteArray) : Option Rx := if 40 < s.size then none else match par s 8 0 with
  | some (x, j) => if j < s.size then none else some x
  | none => none
end Go.Rex
set_option linter.unusedVariables false
set_option linter.unusedSimpArgs false
set_option maxHeartbeats 400000
namespace Go.Rex
open Go.X
def Tr : Bool → Rx → Prop
  | false, .set s => W4 s
  | false, .node op l => (op = 2 ∨ op = 3 ∧ cnt l ≠ 0 ∨ (op = 4 ∨ op = 5 ∨ op = 6) ∧ cnt l = 1) ∧ Tr true l
  | true, .nil => True
  | true, .cons x l => Tr false x ∧ Tr true l
  | true, .set _ => False
  | true, .node _ _ => False
  | false, .nil => False
  | false, .cons _ _ => False
theorem tr_wf : ∀ (x : Rx) (b : Bool), Tr b x → Wf x ∧ Wl x ∧ (b = true → Ls x)
  | .set s, true, h => h.elim
  | .set s, false, h => ⟨trivial, trivial, fun h => by cases h⟩
  | .node op l, true, h => h.elim
  | .node op l, false, h => by
    obtain ⟨h1, h2⟩ := h
    obtain ⟨a, b, c⟩ := tr_wf l true h2
    exact ⟨⟨a, fun e => by subst e; simp at h1; exact h1⟩, ⟨c rfl, b⟩, fun h => by cases h⟩
  | .nil, true, _ => ⟨trivial, trivial, fun _ => trivial⟩
  | .nil, false, h => h.elim
  | .cons x l, false, h => h.elim
  | .cons x l, true, h => by
    obtain ⟨h1, h2⟩ := h
    obtain ⟨a, b, c⟩ := tr_wf l true h2
    obtain ⟨a', b', _⟩ := tr_wf x false h1
    exact ⟨⟨a', a⟩, ⟨b', b, c rfl⟩, fun _ => c rfl⟩
theorem cnt_lst : ∀ l : List Rx, cnt (lstS l) = l.length
  | [] => rfl
  | x :: l => by simp [lstS, cnt, cnt_lst l]
theorem tr_lst : ∀ l : List Rx, (∀ x ∈ l, Tr false x) → Tr true (lstS l)
  | [], _ => trivial
  | x :: l, h => ⟨h x (by simp), tr_lst l fun y hy => h y (by simp [hy])⟩
theorem tr_mk {op : Nat} {l : List Rx} (h : ∀ x ∈ l, Tr false x) (ho : op = 2 ∨ op = 3 ∧ l ≠ []) : Tr false (mkN op l) := by
  match l, h, ho with
  | [], h, ho => exact ⟨by rcases ho with rfl | ⟨_, h⟩; exact .inl rfl; exact absurd rfl h, trivial⟩
  | [x], h, _ => exact h x (by simp)
  | x :: y :: l, h, ho => exact ⟨by rcases ho with rfl | ⟨rfl, _⟩; exact .inl rfl; exact .inr (.inl ⟨rfl, by simp [lstS, cnt]⟩), tr_lst _ h⟩
def GoodG (g : Nat → Option (Rx × Nat)) : Prop := ∀ i x j, g i = some (x, j) → Tr false x
theorem tr_only {op : Nat} {x : Rx} (h : Tr false x) (ho : op = 4 ∨ op = 5 ∨ op = 6) : Tr false (onlyS op x) := ⟨.inr (.inr ⟨ho, rfl⟩), h, trivial⟩
theorem factor_tr {s : ByteArray} {g : Nat → Option (Rx × Nat)} (hg : GoodG g) : GoodG (factorS s g) := by
  have ha : GoodG (atomS s g) := by
    intro i x j h
    unfold atomS at h
    split at h
    · cases hgi : g (i + 1) with
      | none => rw [hgi] at h; cases h
      | some q =>
        obtain ⟨y, k⟩ := q
        rw [hgi] at h
        have h' : (if k < s.size ∧ b8 s k = 41 then some (y, k + 1) else none) = some (x, j) := h
        split at h'
        · simp at h'; obtain ⟨rfl, _⟩ := h'; exact hg _ _ _ hgi
        · cases h'
    · split at h
      · cases hc : clsS s (i + 1) with
        | none => rw [hc] at h; cases h
        | some q => rw [hc] at h; simp at h; obtain ⟨rfl, _⟩ := h; exact (clsS_adv (t := q.1) (j := q.2) hc).2.2
      · split at h
        · simp at h; obtain ⟨rfl, _⟩ := h; exact W4.zero.inv
        · split at h
          · cases hc : signS s (i + 1) with
            | none => rw [hc] at h; cases h
            | some q => rw [hc] at h; simp at h; obtain ⟨rfl, _⟩ := h; exact W4.zero.bit _
          · split at h
            · cases h
            · simp at h; obtain ⟨rfl, _⟩ := h; exact W4.zero.bit _
  intro i x j h
  unfold factorS at h
  cases hat : atomS s g i with
  | none => rw [hat] at h; cases h
  | some q =>
    obtain ⟨y, k⟩ := q
    have h1 := ha _ _ _ hat
    rw [hat] at h
    simp only [Option.map_some, Option.some.injEq] at h
    unfold oftS at h
    split at h
    · split at h
      · simp at h; obtain ⟨rfl, _⟩ := h; exact tr_only h1 (.inl rfl)
      · split at h
        · simp at h; obtain ⟨rfl, _⟩ := h; exact tr_only h1 (.inr (.inl rfl))
        · split at h
          · simp at h; obtain ⟨rfl, _⟩ := h; exact tr_only h1 (.inr (.inr rfl))
          · simp at h; obtain ⟨rfl, _⟩ := h; exact h1
    · simp at h; obtain ⟨rfl, _⟩ := h; exact h1
theorem wayL_tr {s : ByteArray} {g : Nat → Option (Rx × Nat)} (hg : GoodG g) : ∀ {n i : Nat} {acc xs : List Rx} {j : Nat}, (∀ x ∈ acc, Tr false x) → wayL s g n i acc = some (xs, j) → ∀ x ∈ xs, Tr false x
  | 0, _, _, _, _, _, h => by simp [wayL] at h
  | n + 1, i, acc, xs, j, ha, h => by
    unfold wayL at h
    split at h
    · cases hf : factorS s g i with
      | none => rw [hf] at h; cases h
      | some q =>
        obtain ⟨x, k⟩ := q
        rw [hf] at h
        exact wayL_tr hg (n := n) (i := k) (fun y hy => by
          rcases List.mem_append.1 hy with h1 | h1
          · exact ha y h1
          · simp at h1; subst h1; exact factor_tr hg _ _ _ hf) h
    · simp at h; obtain ⟨rfl, _⟩ := h; exact ha
theorem way_tr {s : ByteArray} {g : Nat → Option (Rx × Nat)} (hg : GoodG g) : GoodG (wayS s g) := by
  intro i x j h
  unfold wayS at h
  cases hw : wayL s g (s.size + 1) i [] with
  | none => rw [hw] at h; cases h
  | some q =>
    rw [hw] at h
    simp at h
    obtain ⟨rfl, _⟩ := h
    exact tr_mk (wayL_tr hg (acc := []) (by simp) (xs := q.1) (j := q.2) hw) (.inl rfl)
theorem waysL_tr {s : ByteArray} {g : Nat → Option (Rx × Nat)} (hg : GoodG g) : ∀ {n i : Nat} {acc xs : List Rx} {j : Nat}, acc ≠ [] → (∀ x ∈ acc, Tr false x) → waysL s g n i acc = some (xs, j) → xs ≠ [] ∧ ∀ x ∈ xs, Tr false x
  | 0, _, _, _, _, _, _, h => by simp [waysL] at h
  | n + 1, i, acc, xs, j, hne, ha, h => by
    unfold waysL at h
    split at h
    · cases hf : wayS s g (i + 1) with
      | none => rw [hf] at h; cases h
      | some q =>
        obtain ⟨x, k⟩ := q
        rw [hf] at h
        exact waysL_tr hg (n := n) (i := k) (by simp) (fun y hy => by
          rcases List.mem_append.1 hy with h1 | h1
          · exact ha y h1
          · simp at h1; subst h1; exact way_tr hg _ _ _ hf) h
    · simp at h; obtain ⟨rfl, _⟩ := h; exact ⟨hne, ha⟩
theorem ways_tr {s : ByteArray} {g : Nat → Option (Rx × Nat)} (hg : GoodG g) : GoodG (waysS s g) := by
  intro i x j h
  unfold waysS at h
  cases hw : wayS s g i with
  | none => rw [hw] at h; cases h
  | some q =>
    obtain ⟨y, k⟩ := q
    rw [hw] at h
    have h1 := way_tr hg _ _ _ hw
    simp only at h
    cases hl : waysL s g (s.size + 1) k [y] with
    | none => rw [hl] at h; cases h
    | some q2 =>
      rw [hl] at h
      simp at h
      obtain ⟨rfl, _⟩ := h
      have h2 := waysL_tr hg (acc := [y]) (by simp) (by simpa using h1) (xs := q2.1) (j := q2.2) hl
      exact tr_mk h2.2 (.inr ⟨rfl, h2.1⟩)
theorem par_tr (s : ByteArray) : ∀ r, GoodG (par s r)
  | 0 => ways_tr fun _ _ _ h => by cases h
  | r + 1 => ways_tr (par_tr s r)
theorem parse_tr {s : ByteArray} {x : Rx} (h : parseS s = some x) : Tr false x := by
  unfold parseS at h
  split at h
  · cases h
  · cases hp : par s 8 0 with
    | none => rw [hp] at h; cases h
    | some q =>
      obtain ⟨y, j⟩ := q
      rw [hp] at h
      simp only at h
      split at h
      · cases h
      · cases h; exact par_tr s 8 _ _ _ hp
def kidsR : Rx → List Rx
  | .cons x l => x :: kidsR l
  | _ => []
theorem kids_len : ∀ l : Rx, (kidsR l).length = cnt l
  | .cons x l => by simp [kidsR, cnt, kids_len l]
  | .set _ => rfl
  | .node _ _ => rfl
  | .nil => rfl
theorem kids_tr : ∀ {l : Rx}, Tr true l → ∀ x ∈ kidsR l, Tr false x
  | .cons x l, h, y, hy => by
    simp only [kidsR, List.mem_cons] at hy
    rcases hy with rfl | hy
    · exact h.1
    · exact kids_tr h.2 y hy
  | .nil, _, y, hy => by simp [kidsR] at hy
  | .set _, h, _, _ => h.elim
  | .node _ _, h, _, _ => h.elim
theorem lst_kids : ∀ {l : Rx}, Tr true l → lstS (kidsR l) = l
  | .cons x l, h => by simp [kidsR, lstS, lst_kids h.2]
  | .nil, _ => rfl
  | .set _, h => h.elim
  | .node _ _, h => h.elim
def hiR : Rx → Nat
  | .set _ => 1
  | .node _ l => hiR l + 1
  | .nil => 0
  | .cons x l => max (hiR x) (hiR l)
theorem hiR_kid : ∀ {l : Rx} {x : Rx}, x ∈ kidsR l → hiR x ≤ hiR l
  | .cons y l, x, h => by
    simp only [kidsR, List.mem_cons] at h
    simp only [hiR]
    rcases h with rfl | h
    · omega
    · have := hiR_kid h; omega
  | .nil, _, h => by simp [kidsR] at h
  | .set _, _, h => by simp [kidsR] at h
  | .node _ _, _, h => by simp [kidsR] at h
theorem sz_cons : ∀ l : Rx, Tr true l → sz l = ((kidsR l).map sz).sum
  | .cons x l, h => by simp [kidsR, sz, sz_cons l h.2]
  | .nil, _ => rfl
  | .set _, h => h.elim
  | .node _ _, h => h.elim
section
variable (H : List Nat → Nat → Prop)
end
def Endz (R : Nat → Nat → Prop) (n : Nat) (f o : List Bool) : Prop := o.length = n + 1 ∧ ∀ j, o[j]? = some true ↔ j ≤ n ∧ ∃ i, f[i]? = some true ∧ R i j
theorem Endz.id {n : Nat} {f : List Bool} (h : f.length = n + 1) : Endz (· = ·) n f f := by
  refine ⟨h, fun j => ?_⟩
  constructor
  · intro hj; have := (List.getElem?_eq_some_iff.1 hj).1; exact ⟨by omega, j, hj, rfl⟩
  · rintro ⟨_, i, h1, rfl⟩; exact h1
theorem Endz.seq {R S : Nat → Nat → Prop} {n : Nat} {f g o : List Bool} (h1 : Endz R n f g) (h2 : Endz S n g o) (hS : ∀ i j, S i j → i ≤ j) : Endz (fun i j => ∃ k, R i k ∧ S k j) n f o := by
  refine ⟨h2.1, fun j => ?_⟩
  rw [h2.2]
  constructor
  · rintro ⟨a, k, hk, b⟩
    obtain ⟨_, i, hi, c⟩ := (h1.2 k).1 hk
    exact ⟨a, i, hi, k, c, b⟩
  · rintro ⟨a, i, hi, k, c, b⟩
    exact ⟨a, k, (h1.2 k).2 ⟨by have := hS _ _ b; omega, i, hi, c⟩, b⟩
end Go.Rex
set_option linter.unusedVariables false
set_option linter.unusedSimpArgs false
set_option maxHeartbeats 400000
namespace Go.Rex
open Go.X
def SmallG (g : Nat → Option (Rx × Nat)) : Prop := ∀ i x j, g i = some (x, j) → sz x + 2 * i ≤ 2 * j
theorem sz_snoc : ∀ (l : List Rx) (x : Rx), sz (lstS (l ++ [x])) = sz (lstS l) + sz x
  | [], x => by simp [lstS, sz]
  | y :: l, x => by simp [lstS, sz, sz_snoc l x]; omega
theorem sz_mk {op : Nat} {l : List Rx} (ho : op = 2 ∨ op = 3) : sz (mkN op l) ≤ sz (lstS l) + (if op = 3 then 2 * (l.length - 1) else 0) := by
  match l with
  | [] => rcases ho with rfl | rfl <;> simp [mkN, sz, lstS, cnt]
  | [x] => rcases ho with rfl | rfl <;> simp [mkN, sz, lstS]
  | x :: y :: l => rcases ho with rfl | rfl <;> simp [mkN, sz, lstS, cnt, cnt_lst]
theorem factor_sz {s : ByteArray} {g : Nat → Option (Rx × Nat)} (hg : SmallG g) : SmallG (factorS s g) := by
  have ha : SmallG (atomS s g) := by
    intro i x j h
    unfold atomS at h
    split at h
    · cases hgi : g (i + 1) with
      | none => rw [hgi] at h; cases h
      | some q =>
        obtain ⟨y, k⟩ := q
        rw [hgi] at h
        have h' : (if k < s.size ∧ b8 s k = 41 then some (y, k + 1) else none) = some (x, j) := h
        split at h'
        · simp at h'; obtain ⟨rfl, rfl⟩ := h'; have := hg _ _ _ hgi; omega
        · cases h'
    · split at h
      · cases hc : clsS s (i + 1) with
        | none => rw [hc] at h; cases h
        | some q => rw [hc] at h; simp at h; obtain ⟨rfl, rfl⟩ := h; have := (clsS_adv (t := q.1) (j := q.2) hc).1; simp only [sz]; omega
      · split at h
        · simp at h; obtain ⟨rfl, rfl⟩ := h; simp only [sz]; omega
        · split at h
          · cases hc : signS s (i + 1) with
            | none => rw [hc] at h; cases h
            | some q => rw [hc] at h; simp at h; obtain ⟨rfl, rfl⟩ := h; have := (signS_adv (b := q.1) (j := q.2) hc).1; simp only [sz]; omega
          · split at h
            · cases h
            · simp at h; obtain ⟨rfl, rfl⟩ := h; simp only [sz]; omega
  intro i x j h
  unfold factorS at h
  cases hat : atomS s g i with
  | none => rw [hat] at h; cases h
  | some q =>
    obtain ⟨y, k⟩ := q
    have h1 := ha _ _ _ hat
    rw [hat] at h
    simp only [Option.map_some, Option.some.injEq] at h
    unfold oftS at h
    split at h
    · split at h
      · simp at h; obtain ⟨rfl, rfl⟩ := h; simp [onlyS, sz]; omega
      · split at h
        · simp at h; obtain ⟨rfl, rfl⟩ := h; simp [onlyS, sz]; omega
        · split at h
          · simp at h; obtain ⟨rfl, rfl⟩ := h; simp [onlyS, sz]; omega
          · simp at h; obtain ⟨rfl, rfl⟩ := h; exact h1
    · simp at h; obtain ⟨rfl, rfl⟩ := h; exact h1
theorem wayL_sz {s : ByteArray} {g : Nat → Option (Rx × Nat)} (hg : SmallG g) {i0 : Nat} : ∀ {n i : Nat} {acc xs : List Rx} {j : Nat}, sz (lstS acc) + 2 * i0 ≤ 2 * i → wayL s g n i acc = some (xs, j) → sz (lstS xs) + 2 * i0 ≤ 2 * j
  | 0, _, _, _, _, _, h => by simp [wayL] at h
  | n + 1, i, acc, xs, j, ha, h => by
    unfold wayL at h
    split at h
    · cases hf : factorS s g i with
      | none => rw [hf] at h; cases h
      | some q =>
        obtain ⟨x, k⟩ := q
        rw [hf] at h
        exact wayL_sz hg (n := n) (i := k) (by rw [sz_snoc]; have := factor_sz hg _ _ _ hf; omega) h
    · simp at h; obtain ⟨rfl, rfl⟩ := h; exact ha
theorem way_sz {s : ByteArray} {g : Nat → Option (Rx × Nat)} (hg : SmallG g) : SmallG (wayS s g) := by
  intro i x j h
  unfold wayS at h
  cases hw : wayL s g (s.size + 1) i [] with
  | none => rw [hw] at h; cases h
  | some q =>
    rw [hw] at h
    simp at h
    obtain ⟨rfl, rfl⟩ := h
    have h1 := wayL_sz hg (i0 := i) (by simp [lstS, sz]) (xs := q.1) (j := q.2) hw
    have h2 := sz_mk (op := 2) (l := q.1) (.inl rfl)
    simp at h2
    omega
theorem waysL_sz {s : ByteArray} {g : Nat → Option (Rx × Nat)} (hg : SmallG g) {i0 : Nat} : ∀ {n i : Nat} {acc xs : List Rx} {j : Nat}, acc ≠ [] → sz (lstS acc) + 2 * (acc.length - 1) + 2 * i0 ≤ 2 * i → waysL s g n i acc = some (xs, j) → sz (lstS xs) + 2 * (xs.length - 1) + 2 * i0 ≤ 2 * j
  | 0, _, _, _, _, _, _, h => by simp [waysL] at h
  | n + 1, i, acc, xs, j, hne, ha, h => by
    unfold waysL at h
    split at h
    · cases hf : wayS s g (i + 1) with
      | none => rw [hf] at h; cases h
      | some q =>
        obtain ⟨x, k⟩ := q
        rw [hf] at h
        have hl : 0 < acc.length := List.length_pos_iff.2 hne
        exact waysL_sz hg (n := n) (i := k) (by simp) (by rw [sz_snoc]; have := way_sz hg _ _ _ hf; simp; omega) h
    · simp at h; obtain ⟨rfl, rfl⟩ := h; exact ha
theorem ways_sz {s : ByteArray} {g : Nat → Option (Rx × Nat)} (hg : SmallG g) : SmallG (waysS s g) := by
  intro i x j h
  unfold waysS at h
  cases hw : wayS s g i with
  | none => rw [hw] at h; cases h
  | some q =>
    obtain ⟨y, k⟩ := q
    rw [hw] at h
    have h1 := way_sz hg _ _ _ hw
    simp only at h
    cases hl : waysL s g (s.size + 1) k [y] with
    | none => rw [hl] at h; cases h
    | some q2 =>
      rw [hl] at h
      simp at h
      obtain ⟨rfl, rfl⟩ := h
      have h2 := waysL_sz hg (i0 := i) (acc := [y]) (by simp) (by simpa [lstS, sz] using h1) (xs := q2.1) (j := q2.2) hl
      have h3 := sz_mk (op := 3) (l := q2.1) (.inr rfl)
      simp at h3
      omega
theorem par_sz (s : ByteArray) : ∀ r, SmallG (par s r)
  | 0 => ways_sz fun _ _ _ h => by cases h
  | r + 1 => ways_sz (par_sz s r)
theorem parse_sz {s : ByteArray} (hadv : ∀ x j, par s 8 0 = some (x, j) → j ≤ s.size) {x : Rx} (h : parseS s = some x) : sz x ≤ 80 := by
  unfold parseS at h
  split at h
  · cases h
  · cases hp : par s 8 0 with
    | none => rw [hp] at h; cases h
    | some q =>
      obtain ⟨y, j⟩ := q
      rw [hp] at h
      simp only at h
      split at h
      · cases h
      · cases h
        have := par_sz s 8 _ _ _ hp
        have := hadv _ _ hp
        omega
theorem kid_sz : ∀ {l : Rx} {x : Rx}, Tr true l → x ∈ kidsR l → sz x ≤ sz l
  | .cons y l, x, h, hx => by
    simp only [kidsR, List.mem_cons] at hx
    simp only [sz]
    rcases hx with rfl | hx
    · omega
    · have := kid_sz h.2 hx; omega
  | .nil, _, _, h => by simp [kidsR] at h
  | .set _, _, h, _ => h.elim
  | .node _ _, _, h, _ => h.elim
theorem sum_take {l : List Rx} {k : Nat} {x : Rx} (hx : l[k]? = some x) : ((l.take (k + 1)).map sz).sum = ((l.take k).map sz).sum + sz x := by
  have hk := (List.getElem?_eq_some_iff.1 hx).1
  rw [List.take_succ_eq_append_getElem hk, (List.getElem?_eq_some_iff.1 hx).2]
  simp
theorem sum_take_le (l : List Rx) : ∀ k, ((l.take k).map sz).sum ≤ (l.map sz).sum := by
  induction l with
  | nil => intro k; simp
  | cons y l ih =>
    intro k
    cases k with
    | zero => simp
    | succ k => simp only [List.take_succ_cons, List.map_cons, List.sum_cons]; have := ih k; omega
end Go.Rex
set_option linter.unusedVariables false
set_option linter.unusedSimpArgs false
set_option maxHeartbeats 1000000
set_option maxRecDepth 100000
namespace Go.Proofs.YtnnmgfnhblbolaaGreatDoor
open Go Go.X Go.Rex
theorem setAt_of : ∀ {l : List Value} {i : Nat} {v : Value}, i < l.length → SetAt l i v (l.set i v)
  | u :: l, 0, v, _ => .z
  | u :: l, i + 1, v, h => .s (setAt_of (by simpa using h))
abbrev PA (w : World) (p : Nat) (s : ByteArray) (i : Nat) (bad : Bool) : Prop := Blk w p 362 [.string s, .int .i64 (i : Int), .bool bad]
theorem over_ok (w : World) (p : Nat) (s : ByteArray) (i : Nat) (bad : Bool) (h : PA w p s i bad) : Fx Tryz.prog 336 [pp p] w (fun u w' => u = .bool (bad || decide (s.size ≤ i)) ∧ Grow w w') := by
  refine enter Tryz.func336 rfl rfl rfl _ (Pick.sub (l := [0]) (.cons rfl .nil)) ?_
  refine RK.seq ?_
  refine RK.region ?_
  refine RL.p rfl rfl ?_
  refine RL.done ?_
  refine RK.seq ?_
  refine RK.drawM No [(0, false), (1, false), (2, false), (3, false), (4, false), (5, false), (6, false), (7, false), (8, false), (9, false), (10, false), (11, false), (12, false), (13, false), (14, false), (15, false), (16, false)] [] mixed (by kernel_rfl) ?_
  iterate 2 refine DL.p rfl rfl rfl ?_
  refine DL.qf rfl (.free rfl) rfl rfl (Yld.fieldAddr fo362_2 rfl) ?_
  refine DL.q rfl (.free rfl) rfl rfl rfl (Yld.load p4 rfl (atM (h.cell rfl) (fun h => h))) (Mod.drew _ _) ?_
  refine DL.p rfl rfl rfl ?_
  first | refine DL.splitD (d := 7) rfl rfl (fun h7 => ?_) (fun h7 => ?_) | refine DL.splitN (d := 7) rfl rfl (fun h7 => ?_) (fun h7 => ?_) | refine DL.split (d := 7) rfl rfl (fun h7 => ?_) (fun h7 => ?_)
  · iterate 10 refine DL.no rfl (.no rfl rfl rfl rfl) rfl rfl ?_
    iterate 2 refine DL.p rfl rfl rfl ?_
    refine DL.done ?_
    refine RK.ret_of Tryz.func336 (res1 rfl rfl) ?_ _
    exact ⟨_, rfl, by simp_all, Mod.drew _ _⟩
  · iterate 2 refine DL.qf rfl (.yes rfl rfl rfl) rfl rfl (Yld.pure rfl) ?_
    refine DL.qf rfl (.yes rfl rfl rfl) rfl rfl (Yld.fieldAddr fo362_1 rfl) ?_
    refine DL.q rfl (.yes rfl rfl rfl) rfl rfl rfl (Yld.load p3 rfl (atM (h.cell rfl) (fun h => h))) (Mod.drew _ _) ?_
    iterate 2 refine DL.qf rfl (.yes rfl rfl rfl) rfl rfl (Yld.pure rfl) ?_
    refine DL.qf rfl (.yes rfl rfl rfl) rfl rfl (Yld.fieldAddr fo362_0 rfl) ?_
    refine DL.q rfl (.yes rfl rfl rfl) rfl rfl rfl (Yld.load p9 rfl (atM (h.cell rfl) (fun h => h))) (Mod.drew _ _) ?_
    refine DL.q rfl (.yes rfl rfl rfl) rfl rfl rfl (Yld.lenStr u9 rfl) (Mod.drew _ _) ?_
    refine DL.qf rfl (.yes rfl rfl rfl) rfl rfl (Yld.pure rfl) ?_
    iterate 2 refine DL.p rfl rfl rfl ?_
    refine DL.done ?_
    refine RK.ret_of Tryz.func336 (res1 rfl rfl) ?_ _
    exact ⟨_, rfl, by simp_all, Mod.drew _ _⟩
def seesS (s : ByteArray) (i : Nat) (bad : Bool) (c : Nat) : Bool := !bad && decide (i < s.size ∧ b8 s i = c)
theorem sees_ok (w : World) (p : Nat) (s : ByteArray) (i : Nat) (bad : Bool) (h : PA w p s i bad) (c : Nat) : Fx Tryz.prog 337 [pp p, .int .u8 (c : Int)] w (fun u w' => u = .bool (seesS s i bad c) ∧ Grow w w') := by
  refine enter Tryz.func337 rfl rfl rfl _ (Pick.sub (l := [0, 1]) (.cons rfl (.cons rfl .nil))) ?_
  refine RK.seq ?_
  refine RK.region ?_
  refine RL.p rfl rfl ?_
  refine RL.done ?_
  refine RK.seq ?_
  refine RK.drawM No [(0, false), (1, true), (2, false), (3, false), (4, false), (5, false), (6, false), (7, false), (8, false), (9, false), (10, false), (11, false), (12, false), (13, false), (14, false), (15, false), (16, false)] [] mixed (by kernel_rfl) ?_
  refine DL.p rfl rfl rfl ?_
  refine DL.op rfl (.free rfl) rfl rfl (Does.call rfl e336 (over_ok _ p s i bad (h.mod (Mod.drew No _) (fun h => h)))) ?_
  rintro _ w2 ⟨rfl, hg2⟩
  have hgd : Grow w w2 := (Mod.drew _ _).trans hg2
  refine ⟨hgd, ?_⟩
  iterate 2 refine DL.p rfl rfl rfl ?_
  first | refine DL.splitD (d := 8) rfl rfl (fun h8 => ?_) (fun h8 => ?_) | refine DL.splitN (d := 8) rfl rfl (fun h8 => ?_) (fun h8 => ?_) | refine DL.split (d := 8) rfl rfl (fun h8 => ?_) (fun h8 => ?_)
  · have h9 : bad = false ∧ i < s.size := by simpa using h8
    iterate 2 refine DL.qf rfl (.yes rfl rfl rfl) rfl rfl (Yld.pure rfl) ?_
    refine DL.qf rfl (.yes rfl rfl rfl) rfl rfl (Yld.fieldAddr fo362_0 rfl) ?_
    refine DL.q rfl (.yes rfl rfl rfl) rfl rfl rfl (Yld.load p9 rfl (atM (h.cell rfl) (fun h => h))) (hgd) ?_
    iterate 2 refine DL.qf rfl (.yes rfl rfl rfl) rfl rfl (Yld.pure rfl) ?_
    refine DL.qf rfl (.yes rfl rfl rfl) rfl rfl (Yld.fieldAddr fo362_1 rfl) ?_
    refine DL.q rfl (.yes rfl rfl rfl) rfl rfl rfl (Yld.load p3 rfl (atM (h.cell rfl) (fun h => h))) (hgd) ?_
    refine DL.qf rfl (.yes rfl rfl rfl) rfl rfl (Yld.idxStrN u9 rfl rfl (h9.2)) ?_
    iterate 2 refine DL.qf rfl (.yes rfl rfl rfl) rfl rfl (Yld.pure rfl) ?_
    iterate 2 refine DL.p rfl rfl rfl ?_
    refine DL.done ?_
    refine RK.ret_of Tryz.func337 (res1 rfl rfl) ?_ _
    exact ⟨_, rfl, by unfold seesS b8; simp [h9]; omega, hgd⟩
  · iterate 11 refine DL.no rfl (.no rfl rfl rfl rfl) rfl rfl ?_
    iterate 2 refine DL.p rfl rfl rfl ?_
    refine DL.done ?_
    refine RK.ret_of Tryz.func337 (res1 rfl rfl) ?_ _
    exact ⟨_, rfl, by unfold seesS; simp at h8; cases bad with | true => rfl | false => (simp at h8 ⊢; intro h; omega), hgd⟩
theorem next_ok (w : World) (p : Nat) (s : ByteArray) (i : Nat) (bad : Bool) (h : PA w p s i bad) (hi : i ≤ 1000) (c : Nat) : Fx Tryz.prog 316 [pp p, .int .u8 (c : Int)] w (fun u w' => u = .bool (seesS s i bad c) ∧ PA w' p s (if seesS s i bad c then i + 1 else i) bad ∧ Mod (· = p) w w') := by
  refine enter Tryz.func316 rfl rfl rfl _ (Pick.sub (l := [0, 1]) (.cons rfl (.cons rfl .nil))) ?_
  refine RK.seq ?_
  refine RK.region ?_
  refine RL.p rfl rfl ?_
  refine RL.done ?_
  iterate 2 refine RK.seq ?_
  refine RK.region ?_
  iterate 2 refine RL.p rfl rfl ?_
  refine RL.op (.free rfl) rfl rfl (Does.call rfl e337 (sees_ok _ p s i bad h c)) ?_
  rintro _ w2 ⟨rfl, hg2⟩
  have h2 := h.mod hg2 (fun h => h)
  refine RL.p rfl rfl ?_
  refine RL.done ?_
  first | refine RK.condD rfl (fun h8 => ?_) (fun h8 => ?_) | refine RK.condN rfl (fun h8 => ?_) (fun h8 => ?_) | refine RK.cond rfl (fun h8 => ?_) (fun h8 => ?_)
  · have h9 : seesS s i bad c = false := by simpa using h8
    refine RK.seq ?_
    refine RK.region ?_
    refine RL.p rfl rfl ?_
    refine RL.done ?_
    refine RK.ret_of Tryz.func316 (res1 rfl rfl) ?_ _
    exact ⟨_, rfl, by rw [h9], by rw [h9]; exact h2, Mod.any' hg2⟩
  · have h9 : seesS s i bad c = true := by simpa using h8
    refine RK.skip ?_
    refine RK.seq ?_
    refine RK.region ?_
    iterate 2 refine RL.p rfl rfl ?_
    refine RL.q (.free rfl) rfl rfl (Yld.fieldAddr fo362_1 rfl) ?_
    refine RL.q (.free rfl) rfl rfl (Yld.load p3 rfl (at1 (h2.cell rfl))) ?_
    refine RL.p rfl rfl ?_
    refine RL.re (d := 13) rfl rfl (succ_i64 (by omega)) ?_
    refine RL.p rfl rfl ?_
    refine RL.q (.free rfl) rfl rfl (Yld.fieldAddr fo362_1 rfl) ?_
    refine RL.op' (.free rfl) rfl (Does.store i3 rfl rfl rfl h2 (.s .z)) ?_
    rintro _ w3 ⟨hb3, hm3, _⟩
    refine RL.done ?_
    refine RK.seq ?_
    refine RK.region ?_
    refine RL.p rfl rfl ?_
    refine RL.done ?_
    refine RK.ret_of Tryz.func316 (res1 rfl rfl) ?_ _
    exact ⟨_, rfl, by rw [h9], by rw [h9]; exact hb3, (Mod.any' hg2).trans hm3⟩
theorem byte_no (w : World) (p : Nat) (s : ByteArray) (i : Nat) (bad : Bool) (h : PA w p s i bad) (hn : bad = true ∨ s.size ≤ i) : Fx Tryz.prog 356 [pp p] w (fun u w' => u = .int .u8 ((0 : Nat) : Int) ∧ PA w' p s i true ∧ Mod (· = p) w w') := by
  refine enter Tryz.func356 rfl rfl rfl _ (Pick.sub (l := [0]) (.cons rfl .nil)) ?_
  refine RK.seq ?_
  refine RK.region ?_
  refine RL.p rfl rfl ?_
  refine RL.done ?_
  iterate 2 refine RK.seq ?_
  refine RK.region ?_
  refine RL.p rfl rfl ?_
  refine RL.op (.free rfl) rfl rfl (Does.call rfl e336 (over_ok _ p s i bad h)) ?_
  rintro _ w2 ⟨rfl, hg2⟩
  have h2 := h.mod hg2 (fun h => h)
  refine RL.done ?_
  refine RK.condT (hcT rfl (by simpa using hn)) ?_
  refine RK.seq ?_
  refine RK.region ?_
  iterate 2 refine RL.p rfl rfl ?_
  refine RL.q (.free rfl) rfl rfl (Yld.fieldAddr fo362_2 rfl) ?_
  refine RL.op' (.free rfl) rfl (Does.store i4 rfl rfl rfl h2 (.s (.s .z))) ?_
  rintro _ w3 ⟨hb3, hm3, _⟩
  refine RL.done ?_
  refine RK.seq ?_
  refine RK.region ?_
  refine RL.p rfl rfl ?_
  refine RL.done ?_
  refine RK.ret_of Tryz.func356 (res1 rfl rfl) ?_ _
  exact ⟨_, rfl, rfl, hb3, (Mod.any' hg2).trans hm3⟩
theorem byte_yes (w : World) (p : Nat) (s : ByteArray) (i : Nat) (h : PA w p s i false) (hi : i < s.size) (hb : i ≤ 1000) : Fx Tryz.prog 356 [pp p] w (fun u w' => u = .int .u8 (b8 s i : Int) ∧ PA w' p s (i + 1) false ∧ Mod (· = p) w w') := by
  refine enter Tryz.func356 rfl rfl rfl _ (Pick.sub (l := [0]) (.cons rfl .nil)) ?_
  refine RK.seq ?_
  refine RK.region ?_
  refine RL.p rfl rfl ?_
  refine RL.done ?_
  iterate 2 refine RK.seq ?_
  refine RK.region ?_
  refine RL.p rfl rfl ?_
  refine RL.op (.free rfl) rfl rfl (Does.call rfl e336 (over_ok _ p s i false h)) ?_
  rintro _ w2 ⟨rfl, hg2⟩
  have h2 := h.mod hg2 (fun h => h)
  refine RL.done ?_
  refine RK.condF (hcF rfl (by simp; omega)) ?_
  refine RK.skip ?_
  refine RK.seq ?_
  refine RK.region ?_
  iterate 2 refine RL.p rfl rfl ?_
  refine RL.q (.free rfl) rfl rfl (Yld.fieldAddr fo362_1 rfl) ?_
  refine RL.q (.free rfl) rfl rfl (Yld.load p3 rfl (at1 (h2.cell rfl))) ?_
  refine RL.p rfl rfl ?_
  refine RL.re (d := 12) rfl rfl (succ_i64 (by omega)) ?_
  refine RL.p rfl rfl ?_
  refine RL.q (.free rfl) rfl rfl (Yld.fieldAddr fo362_1 rfl) ?_
  refine RL.op' (.free rfl) rfl (Does.store i3 rfl rfl rfl h2 (.s .z)) ?_
  rintro _ w3 ⟨hb3, hm3, _⟩
  have h3 : PA w3 p s (i + 1) false := hb3
  refine RL.done ?_
  refine RK.seq ?_
  refine RK.drawM No [(0, false), (1, false), (2, false), (3, false), (4, false), (5, false), (6, false), (7, false), (8, false), (9, false), (10, false)] [] mixed (by kernel_rfl) ?_
  iterate 2 refine DL.p rfl rfl rfl ?_
  refine DL.qf rfl (.free rfl) rfl rfl (Yld.fieldAddr fo362_0 rfl) ?_
  refine DL.q rfl (.free rfl) rfl rfl rfl (Yld.load p9 rfl (atM (h3.cell rfl) (fun h => h))) (Mod.drew _ _) ?_
  iterate 2 refine DL.p rfl rfl rfl ?_
  refine DL.qf rfl (.free rfl) rfl rfl (Yld.fieldAddr fo362_1 rfl) ?_
  refine DL.q rfl (.free rfl) rfl rfl rfl (Yld.load p3 rfl (atM (h3.cell rfl) (fun h => h))) (Mod.drew _ _) ?_
  refine DL.p rfl rfl rfl ?_
  refine DL.re (d := 23) rfl rfl (sub_i64 (z := (i : Int)) (by omega) (by omega) (by omega)) ?_
  refine DL.qf rfl (.free rfl) rfl rfl (Yld.idxStrN u9 rfl rfl (hi)) ?_
  refine DL.p rfl rfl rfl ?_
  refine DL.done ?_
  refine RK.ret_of Tryz.func356 (res1 rfl rfl) ?_ _
  exact ⟨_, rfl, rfl, h3.mod (Mod.drew No _) (fun h => h), ((Mod.any' hg2).trans hm3).trans (Mod.drew _ _)⟩
theorem idx_neg (l : List UInt8) (c : UInt8) : (Lib.indexByte l c < 0 ↔ c ∉ l) ∧ -1 ≤ Lib.indexByte l c := by
  induction l with
  | nil => simp [Lib.indexByte]
  | cons b l ih =>
    unfold Lib.indexByte
    by_cases e : b = c
    · subst e; simp
    · rw [if_neg (by simpa using e)]
      obtain ⟨h1, h2⟩ := ih
      by_cases e2 : Lib.indexByte l c = -1
      · rw [if_pos (by simpa using e2)]
        have : c ∉ l := h1.1 (by omega)
        simp [this, Ne.symm e]
      · rw [if_neg (by simpa using e2)]
        have h3 : ¬ Lib.indexByte l c < 0 := by omega
        have h4 : c ∈ l := Classical.byContradiction fun h => h3 (h1.2 h)
        refine ⟨⟨fun h => by omega, fun h => absurd (List.mem_cons_of_mem _ h4) h⟩, by omega⟩
theorem indexByte_ok (w : World) (t : ByteArray) (c : Nat) (hc : c < 256) : Fx Tryz.prog 361 [.string t, .int .u8 (c : Int)] w (fun u w' => ∃ z : Int, u = .int .i64 z ∧ (z < 0 ↔ ¬ ∃ b ∈ t.data.toList, b.toNat = c) ∧ w = w') := by
  refine Calls.mono (Tryz.strings_IndexByte t (c : Int) w) ?_
  rintro e w' ⟨rfl, rfl⟩
  refine ⟨_, rfl, _, rfl, ?_, rfl⟩
  rw [(idx_neg _ _).1]
  have : ((c : Int).toNat.toUInt8).toNat = c := by simp; omega
  constructor
  · rintro h ⟨b, hb, e⟩
    exact h (by rw [show (c : Int).toNat.toUInt8 = b from UInt8.toNat_inj.1 (by omega)]; exact hb)
  · intro h hm
    exact h ⟨_, hm, this⟩
end Go.Proofs.YtnnmgfnhblbolaaGreatDoor
set_option linter.unusedVariables false
set_option linter.unusedSimpArgs false
set_option maxHeartbeats 1000000
set_option maxRecDepth 100000
namespace Go.Proofs.YtnnmgfnhblbolaaGreatDoor
open Go Go.X Go.Rex
def RB (w' : World) (p : Nat) (s : ByteArray) (r : Option (Nat × Nat)) (u : Value) : Prop := match r with
  | some (b, j) => u = .int .u8 (b : Int) ∧ PA w' p s j false
  | none => ∃ c j : Nat, c < 256 ∧ u = .int .u8 (c : Int) ∧ PA w' p s j true ∧ j ≤ s.size
theorem sign_ok (w : World) (p : Nat) (s : ByteArray) (i : Nat) (h : PA w p s i false) (hi : i ≤ s.size) (hs : s.size ≤ 40) : Fx Tryz.prog 360 [pp p] w (fun u w' => RB w' p s (signS s i) u ∧ Mod (· = p) w w') := by
  by_cases hl : i < s.size
  · have hc := b8_lt s i
    refine enter Tryz.func360 rfl rfl rfl _ (Pick.sub (l := [0]) (.cons rfl .nil)) ?_
    refine RK.seq ?_
    refine RK.region ?_
    refine RL.p rfl rfl ?_
    refine RL.done ?_
    refine RK.seq ?_
    refine RK.region ?_
    refine RL.p rfl rfl ?_
    refine RL.op (.free rfl) rfl rfl (Does.call rfl e356 (byte_yes _ p s i h hl (by omega))) ?_
    rintro _ w2 ⟨rfl, hB2, hm2⟩
    refine RL.p rfl rfl ?_
    refine RL.done ?_
    refine RK.seq ?_
    refine RK.region ?_
    iterate 3 refine RL.p rfl rfl ?_
    refine RL.q (.free rfl) rfl rfl (Yld.fieldAddr fo362_2 rfl) ?_
    refine RL.q (.free rfl) rfl rfl (Yld.load p4 rfl (at1 (hB2.cell rfl))) ?_
    refine RL.p rfl rfl ?_
    refine RL.knownF (d := 11) rfl rfl (rfl) ?_
    refine RL.q (.yes rfl rfl rfl) rfl rfl (Yld.pure rfl) ?_
    refine RL.op (.yes rfl rfl rfl) rfl rfl (Does.call rfl e361 (indexByte_ok _ _ _ hc)) ?_
    rintro _ _ ⟨z, rfl, hz, rfl⟩
    refine RL.q (.yes rfl rfl rfl) rfl rfl (Yld.pure rfl) ?_
    iterate 2 refine RL.p rfl rfl ?_
    refine RL.q (.free rfl) rfl rfl (Yld.fieldAddr fo362_2 rfl) ?_
    refine RL.op' (.free rfl) rfl (Does.store i4 rfl rfl rfl hB2 (.s (.s .z))) ?_
    rintro _ w3 ⟨hb3, hm3, _⟩
    have hq : (z < 0 ↔ ¬ quotedS (b8 s i) = true) := by rw [hz]; unfold quotedS; simp; omega
    refine RL.done ?_
    refine RK.seq ?_
    refine RK.region ?_
    iterate 2 refine RL.p rfl rfl ?_
    refine RL.done ?_
    refine RK.ret_of Tryz.func360 (res1 rfl rfl) ?_ _
    exact ⟨_, rfl, by
        unfold RB signS
        by_cases hqq : quotedS (b8 s i) = true
        · rw [if_pos ⟨hl, hqq⟩]
          have : ¬ z < 0 := fun h => hq.1 h hqq
          simp only [this, decide_false] at hb3
          exact ⟨rfl, hb3⟩
        · rw [if_neg (fun h => hqq h.2)]
          have : z < 0 := hq.2 hqq
          simp only [this, decide_true] at hb3
          exact ⟨_, _, hc, rfl, hb3, by omega⟩
      , hm2.trans hm3⟩
  · skip
    refine enter Tryz.func360 rfl rfl rfl _ (Pick.sub (l := [0]) (.cons rfl .nil)) ?_
    refine RK.seq ?_
    refine RK.region ?_
    refine RL.p rfl rfl ?_
    refine RL.done ?_
    refine RK.seq ?_
    refine RK.region ?_
    refine RL.p rfl rfl ?_
    refine RL.op (.free rfl) rfl rfl (Does.call rfl e356 (byte_no _ p s i false h (.inr (by omega)))) ?_
    rintro _ w2 ⟨rfl, hB2, hm2⟩
    refine RL.p rfl rfl ?_
    refine RL.done ?_
    refine RK.seq ?_
    refine RK.region ?_
    iterate 3 refine RL.p rfl rfl ?_
    refine RL.q (.free rfl) rfl rfl (Yld.fieldAddr fo362_2 rfl) ?_
    refine RL.q (.free rfl) rfl rfl (Yld.load p4 rfl (at1 (hB2.cell rfl))) ?_
    refine RL.p rfl rfl ?_
    refine RL.knownT (d := 11) rfl rfl (rfl) ?_
    iterate 3 refine RL.no (.no rfl rfl rfl rfl) rfl rfl ?_
    iterate 2 refine RL.p rfl rfl ?_
    refine RL.q (.free rfl) rfl rfl (Yld.fieldAddr fo362_2 rfl) ?_
    refine RL.op' (.free rfl) rfl (Does.store i4 rfl rfl rfl hB2 (.s (.s .z))) ?_
    rintro _ w3 ⟨hb3, hm3, _⟩
    refine RL.done ?_
    refine RK.seq ?_
    refine RK.region ?_
    iterate 2 refine RL.p rfl rfl ?_
    refine RL.done ?_
    refine RK.ret_of Tryz.func360 (res1 rfl rfl) ?_ _
    exact ⟨_, rfl, by
        unfold RB signS
        rw [if_neg (fun h => hl h.1)]
        exact ⟨_, _, by omega, rfl, hb3, by omega⟩
      , hm2.trans hm3⟩
theorem member_ok (w : World) (p : Nat) (s : ByteArray) (i : Nat) (h : PA w p s i false) (hi : i ≤ s.size) (hs : s.size ≤ 40) : Fx Tryz.prog 363 [pp p] w (fun u w' => RB w' p s (memS s i) u ∧ Mod (· = p) w w') := by
  by_cases hl : i < s.size
  · have hc := b8_lt s i
    refine enter Tryz.func363 rfl rfl rfl _ (Pick.sub (l := [0]) (.cons rfl .nil)) ?_
    refine RK.seq ?_
    refine RK.region ?_
    refine RL.p rfl rfl ?_
    refine RL.done ?_
    refine RK.seq ?_
    refine RK.region ?_
    refine RL.p rfl rfl ?_
    refine RL.op (.free rfl) rfl rfl (Does.call rfl e356 (byte_yes _ p s i h hl (by omega))) ?_
    rintro _ w2 ⟨rfl, hB2, hm2⟩
    refine RL.p rfl rfl ?_
    refine RL.done ?_
    iterate 2 refine RK.seq ?_
    refine RK.region ?_
    iterate 2 refine RL.p rfl rfl ?_
    refine RL.done ?_
    first | refine RK.condD rfl (fun h7 => ?_) (fun h7 => ?_) | refine RK.condN rfl (fun h7 => ?_) (fun h7 => ?_) | refine RK.cond rfl (fun h7 => ?_) (fun h7 => ?_)
    · have h92 : b8 s i = 92 := by omega
      refine RK.seq ?_
      refine RK.region ?_
      refine RL.p rfl rfl ?_
      refine RL.op (.free rfl) rfl rfl (Does.call rfl e360 (sign_ok _ p s (i + 1) hB2 (by omega) hs)) ?_
      rintro u3 w3 ⟨hr3, hm3⟩
      have e : memS s i = signS s (i + 1) := by unfold memS; rw [if_pos hl, if_pos h92]
      refine RL.p rfl rfl ?_
      refine RL.done ?_
      refine RK.ret_of Tryz.func363 (res1 rfl rfl) ?_ _
      exact ⟨_, rfl, by rw [e]; exact hr3, hm2.trans hm3⟩
    · have h92 : ¬ b8 s i = 92 := by omega
      refine RK.skip ?_
      refine RK.seq ?_
      refine RK.region ?_
      iterate 3 refine RL.p rfl rfl ?_
      refine RL.q (.free rfl) rfl rfl (Yld.fieldAddr fo362_2 rfl) ?_
      refine RL.q (.free rfl) rfl rfl (Yld.load p4 rfl (at1 (hB2.cell rfl))) ?_
      refine RL.p rfl rfl ?_
      refine RL.knownF (d := 15) rfl rfl (rfl) ?_
      refine RL.q (.yes rfl rfl rfl) rfl rfl (Yld.pure rfl) ?_
      refine RL.op (.yes rfl rfl rfl) rfl rfl (Does.call rfl e361 (indexByte_ok _ _ _ hc)) ?_
      rintro _ _ ⟨z, rfl, hz, rfl⟩
      refine RL.q (.yes rfl rfl rfl) rfl rfl (Yld.pure rfl) ?_
      iterate 2 refine RL.p rfl rfl ?_
      refine RL.q (.free rfl) rfl rfl (Yld.fieldAddr fo362_2 rfl) ?_
      refine RL.op' (.free rfl) rfl (Does.store i4 rfl rfl rfl hB2 (.s (.s .z))) ?_
      rintro _ w3 ⟨hb3, hm3, _⟩
      have hq : (z < 0 ↔ ¬ (b8 s i = 93 ∨ b8 s i = 91 ∨ b8 s i = 94 ∨ b8 s i = 45)) := by rw [hz]; simp; omega
      refine RL.done ?_
      refine RK.seq ?_
      refine RK.region ?_
      iterate 2 refine RL.p rfl rfl ?_
      refine RL.done ?_
      refine RK.ret_of Tryz.func363 (res1 rfl rfl) ?_ _
      exact ⟨_, rfl, by
          unfold RB memS
          rw [if_pos hl, if_neg h92]
          by_cases hqq : b8 s i = 93 ∨ b8 s i = 91 ∨ b8 s i = 94 ∨ b8 s i = 45
          · rw [if_pos hqq]
            have : (0 : Int) ≤ z := by have := fun h => hq.1 h hqq; omega
            simp only [ge_iff_le, this, decide_true] at hb3
            exact ⟨_, _, hc, rfl, hb3, by omega⟩
          · rw [if_neg hqq]
            have : ¬ (0 : Int) ≤ z := by have := hq.2 hqq; omega
            simp only [ge_iff_le, this, decide_false] at hb3
            exact ⟨rfl, hb3⟩
        , hm2.trans hm3⟩
  · skip
    refine enter Tryz.func363 rfl rfl rfl _ (Pick.sub (l := [0]) (.cons rfl .nil)) ?_
    refine RK.seq ?_
    refine RK.region ?_
    refine RL.p rfl rfl ?_
    refine RL.done ?_
    refine RK.seq ?_
    refine RK.region ?_
    refine RL.p rfl rfl ?_
    refine RL.op (.free rfl) rfl rfl (Does.call rfl e356 (byte_no _ p s i false h (.inr (by omega)))) ?_
    rintro _ w2 ⟨rfl, hB2, hm2⟩
    refine RL.p rfl rfl ?_
    refine RL.done ?_
    iterate 2 refine RK.seq ?_
    refine RK.region ?_
    iterate 2 refine RL.p rfl rfl ?_
    refine RL.done ?_
    refine RK.condF (hcF rfl (by simp)) ?_
    refine RK.skip ?_
    refine RK.seq ?_
    refine RK.region ?_
    iterate 3 refine RL.p rfl rfl ?_
    refine RL.q (.free rfl) rfl rfl (Yld.fieldAddr fo362_2 rfl) ?_
    refine RL.q (.free rfl) rfl rfl (Yld.load p4 rfl (at1 (hB2.cell rfl))) ?_
    refine RL.p rfl rfl ?_
    refine RL.knownT (d := 15) rfl rfl (rfl) ?_
    iterate 3 refine RL.no (.no rfl rfl rfl rfl) rfl rfl ?_
    iterate 2 refine RL.p rfl rfl ?_
    refine RL.q (.free rfl) rfl rfl (Yld.fieldAddr fo362_2 rfl) ?_
    refine RL.op' (.free rfl) rfl (Does.store i4 rfl rfl rfl hB2 (.s (.s .z))) ?_
    rintro _ w3 ⟨hb3, hm3, _⟩
    refine RL.done ?_
    refine RK.seq ?_
    refine RK.region ?_
    iterate 2 refine RL.p rfl rfl ?_
    refine RL.done ?_
    refine RK.ret_of Tryz.func363 (res1 rfl rfl) ?_ _
    exact ⟨_, rfl, by
        unfold RB memS
        rw [if_neg hl]
        exact ⟨_, _, by omega, rfl, hb3, by omega⟩
      , hm2.trans hm3⟩
abbrev wds (l : List Nat) : List Value := l.map fun x : Nat => Value.int .u64 (x : Int)
theorem add1_ok (w : World) (b o t : Nat) (cs : List Value) (l : List Nat) (hB : Blk w b t cs) (hl : W4 l) (hc : ∀ j, j < 4 → cs[o + j]? = (wds l)[j]?) (ho : o + 4 ≤ cs.length) (c : Nat) (h256 : c < 256) :
    Fx Tryz.prog 359 [.pointer (some ⟨b, o, none⟩), .int .u8 (c : Int)] w (fun u w' => u = .tuple #[] ∧ Blk w' b t (cs.set (o + c / 64) (.int .u64 ((((l[c / 64]?).getD 0) ||| 1 <<< (c % 64) : Nat) : Int))) ∧ Mod (· = b) w w') := by
  obtain ⟨hl4, hlt⟩ := hl
  have hq : c / 64 < 4 := by omega
  obtain ⟨y, hy⟩ : ∃ y, l[c / 64]? = some y := ⟨_, List.getElem?_eq_getElem (by omega)⟩
  have hyl := hlt y (List.mem_of_getElem? hy)
  have h1 : (1 <<< (c % 64)) < 18446744073709551616 := by
    rw [Nat.shiftLeft_eq, Nat.one_mul]; exact Nat.pow_lt_pow_right (m := c % 64) (n := 64) (by omega) (Nat.mod_lt _ (by omega))
  have hcell : cs[o + c / 64]? = some (.int .u64 (y : Int)) := by rw [hc _ hq]; simp [hy]
  have e1 : IntKind.u8.wrap ((c : Int).tdiv 64) = ((c / 64 : Nat) : Int) := by
    have e2 : (c : Int).tdiv 64 = ((c / 64 : Nat) : Int) := by rw [Int.tdiv_eq_ediv_of_nonneg (by omega)]; omega
    rw [e2]; exact wrap_u8 (by omega)
  have e3 : (c : Int).tmod 64 = ((c % 64 : Nat) : Int) := by rw [Int.tmod_eq_emod_of_nonneg (by omega)]; omega
  rw [hy]
  refine enter Tryz.func359 rfl rfl rfl _ (Pick.sub (l := [0, 1]) (.cons rfl (.cons rfl .nil))) ?_
  refine RK.drawM (· = b) [(0, false), (1, false), (2, false), (3, false), (4, false), (6, false), (7, false), (8, false), (10, false), (5, true), (9, false), (11, false), (12, true)] [12] mixed (by kernel_rfl) ?_
  iterate 2 refine DL.p rfl rfl rfl ?_
  refine DL.qf rfl (.free rfl) rfl rfl (Yld.quo rfl rfl (by omega)) ?_
  refine DL.re (d := 6) rfl rfl (congrArg (Value.int .u8) e1) ?_
  refine DL.p rfl rfl rfl ?_
  refine DL.qf rfl (.free rfl) rfl rfl (Yld.indexArr Tryz.underlying324 i24 rfl rfl (hq)) ?_
  refine DL.p rfl rfl rfl ?_
  refine DL.qf rfl (.free rfl) rfl rfl (Yld.rem rfl rfl (by omega)) ?_
  refine DL.re (d := 11) rfl rfl (congrArg (Value.int .u8) e3) ?_
  refine DL.qf rfl (.free rfl) rfl rfl (Yld.shl (a := 1) rfl rfl (by simp [IntKind.bits]; omega)) ?_
  refine DL.re (d := 12) rfl rfl (congrArg (Value.int .u64) (Go.X.wrap_u64 h1)) ?_
  refine DL.p rfl rfl rfl ?_
  refine DL.lq rfl (.free rfl) rfl rfl (Yld.load p24 rfl (at1 (hB.cell' (by rw [Nat.mul_one]; exact hcell)))) ?_
  refine DL.p rfl rfl rfl ?_
  refine DL.re (d := 13) rfl rfl (congrArg (Value.int .u64) (Go.X.u64_or hyl h1)) ?_
  refine DL.qf rfl (.free rfl) rfl rfl (Yld.indexArr Tryz.underlying324 i24 rfl rfl (hq)) ?_
  refine DL.opT rfl (.free rfl) rfl rfl (Does.store i24 rfl rfl rfl hB (setAt_of (by omega))) ?_
  rintro _ w2 ⟨hb2, hm2, _⟩
  refine DL.done ?_
  refine RK.end_of Tryz.func359 (res0 rfl) ?_
  exact ⟨_, rfl, rfl, by simpa using hb2, (Mod.drew _ _).trans hm2⟩
theorem wds_bit {l : List Nat} (hl : W4 l) {c : Nat} (hc : c < 256) : (wds l).set (c / 64) (.int .u64 ((((l[c / 64]?).getD 0) ||| 1 <<< (c % 64) : Nat) : Int)) = wds (setBit l c) := by
  have hq : c / 64 < l.length := by rw [hl.1]; omega
  apply List.ext_getElem?
  intro j
  unfold setBit
  simp only [List.getElem?_map, List.getElem?_modify, List.getElem?_set, List.length_map]
  by_cases e : c / 64 = j
  · subst e
    simp [hq, List.getElem?_eq_getElem hq]
  · simp [e]
theorem add_set (w : World) (b : Nat) (l : List Nat) (hB : Blk w b 324 (wds l)) (hl : W4 l) (c : Nat) (h256 : c < 256) :
    Fx Tryz.prog 359 [pp b, .int .u8 (c : Int)] w (fun u w' => u = .tuple #[] ∧ Blk w' b 324 (wds (setBit l c)) ∧ Mod (· = b) w w') := by
  refine Fx.mono (add1_ok w b 0 _ _ l hB hl (fun j _ => by rw [Nat.zero_add]) (by simp [hl.1]) c h256) ?_
  rintro u w' ⟨rfl, h1, h2⟩
  rw [Nat.zero_add, wds_bit hl h256] at h1
  exact ⟨rfl, h1, h2⟩
theorem inv_set {l : List Nat} {k : Nat} {x : Nat} (hx : l[k]? = some x) : ((invS l).take k ++ l.drop k).set k (18446744073709551615 - x) = (invS l).take (k + 1) ++ l.drop (k + 1) := by
  have hk := (List.getElem?_eq_some_iff.1 hx).1
  have e : ((invS l).take k).length = k := by simp [invS]; omega
  rw [List.drop_eq_getElem_cons hk, List.set_append_right _ _ (by omega), e, Nat.sub_self, List.set_cons_zero, List.take_succ_eq_append_getElem (by simpa [invS] using hk)]
  simp [invS, (List.getElem?_eq_some_iff.1 hx).2]
theorem blk0' {w : World} {b t : Nat} {cs : List Value} (h : Blk w b t cs) : ∀ (j : Nat) (u : Value), cs[j]? = some u → w.cell? ⟨b, 0 + j, none⟩ = some u := fun j u hj => by rw [Nat.zero_add]; exact h.cell' hj
theorem turned_ok (w : World) (l : List Nat) (hl : W4 l) : Fx Tryz.prog 358 [.agg (wds l).toArray] w (fun u w' => u = .agg (wds (invS l)).toArray ∧ Grow w w') := by
  obtain ⟨hl4, hlt⟩ := hl
  obtain ⟨x0, x1, x2, x3, rfl⟩ : ∃ x0 x1 x2 x3, l = [x0, x1, x2, x3] := by
    match l, hl4 with
    | [x0, x1, x2, x3], _ => exact ⟨x0, x1, x2, x3, rfl⟩
  generalize hle : [x0, x1, x2, x3] = l at *
  have hil : (invS l).length = 4 := by simpa [invS] using hl4
  refine enter Tryz.func358 rfl rfl rfl _ (Pick.sub (l := [0]) (.cons rfl .nil)) ?_
  refine RK.seq ?_
  refine RK.region ?_
  refine RL.op (.free rfl) rfl rfl (Does.box rfl) ?_
  rintro _ w1 ⟨b1, rfl, hn1⟩
  have hB1 : Blk w1 b1 324 (wds l) := by have := hn1.blk; simpa [Value.cells] using this
  refine RL.op (.free rfl) rfl rfl (Does.alloc i324) ?_
  rintro _ w2 ⟨b2, rfl, hn2⟩
  have hne : b1 ≠ b2 := by have := hn1.lt; have := hn2.at_; omega
  refine RL.done ?_
  iterate 2 refine RK.seq ?_
  refine RK.region ?_
  refine RL.p rfl rfl ?_
  refine RL.done ?_
  refine RK.block ?_
  refine RK.loop (fun k : Nat => [(1, pp b1), (2, pp b2), (4, .int .i64 (k : Int))]) (fun k w' => Blk w' b1 324 (wds ((invS l).take k ++ l.drop k)) ∧ Mod (· = b1) w2 w' ∧ k ≤ 4) (fun k => 4 - k) 0 ⟨rfl, rfl, rfl, trivial⟩ ⟨by simpa using hB1.mod hn2.grow (fun h => h), Mod.refl _ _, by omega⟩ (fun k w3 hI ih => ?_)
  obtain ⟨hB, hm, hk⟩ := hI
  refine RK.seq ?_
  refine RK.region ?_
  refine RL.p rfl rfl ?_
  refine RL.done ?_
  refine RK.seq ?_
  first | refine RK.condD rfl (fun h5 => ?_) (fun h5 => ?_) | refine RK.condN rfl (fun h5 => ?_) (fun h5 => ?_) | refine RK.cond rfl (fun h5 => ?_) (fun h5 => ?_)
  · obtain ⟨x, hx⟩ : ∃ x, l[k]? = some x := ⟨l[k]'(by omega), List.getElem?_eq_getElem (by omega)⟩
    have hxl := hlt x (List.mem_of_getElem? hx)
    have hcx : (wds ((invS l).take k ++ l.drop k))[0 + k * 1]? = some (.int .u64 (x : Int)) := by
        rw [Nat.zero_add, Nat.mul_one, List.getElem?_map, List.getElem?_append_right (by simp [invS]; omega)]
        simp [invS, hl4, hk, hx, show min k 4 = k by omega]
    refine RK.skip ?_
    refine RK.seq ?_
    refine RK.block ?_
    refine RK.seq ?_
    refine RK.region ?_
    iterate 2 refine RL.p rfl rfl ?_
    refine RL.done ?_
    refine RK.region ?_
    iterate 2 refine RL.p rfl rfl ?_
    refine RL.q (.free rfl) rfl rfl (Yld.indexArr Tryz.underlying324 i24 rfl rfl (by omega)) ?_
    refine RL.q (.free rfl) rfl rfl (Yld.load p24 rfl (at1 (hB.cell' hcx))) ?_
    refine RL.q (.free rfl) rfl rfl (Yld.compl rfl (by omega) (by omega)) ?_
    refine RL.re (d := 11) rfl rfl (congrArg (Value.int .u64) (show _ = ((18446744073709551615 - x : Nat) : Int) by omega)) ?_
    refine RL.q (.free rfl) rfl rfl (Yld.indexArr Tryz.underlying324 i24 rfl rfl (by omega)) ?_
    refine RL.op' (.free rfl) rfl (Does.store i24 rfl rfl rfl hB (setAt_of (by simp [invS, hl4]; omega))) ?_
    rintro _ w4 ⟨hb4, hm4, _⟩
    refine RL.done ?_
    refine RK.inBlock ?_
    refine RK.region ?_
    refine RL.p rfl rfl ?_
    refine RL.re (d := 13) rfl rfl (succ_i64 (by omega)) ?_
    refine RL.p rfl rfl ?_
    refine RL.done ?_
    exact RK.back (ih (k + 1) _ ⟨by rw [Nat.zero_add, Nat.mul_one, ← List.map_set, inv_set hx] at hb4; exact hb4, hm.trans hm4, by omega⟩ (by omega)) ⟨rfl, rfl, rfl, trivial⟩
  · have ek : k = 4 := by omega
    subst ek
    have e1 : (invS l).take 4 ++ l.drop 4 = invS l := by rw [List.take_of_length_le (by omega), List.drop_eq_nil_of_le (by omega), List.append_nil]
    rw [e1] at hB
    have hB2 := hn2.blk.mod hm (Ne.symm hne)
    subst hle
    refine RK.exit rfl ?_
    refine RK.seq ?_
    refine RK.region ?_
    refine RL.q (.free rfl) rfl rfl (Yld.loadN (cs := wds (invS [x0, x1, x2, x3])) a324 rfl (atN (blk0' hB))) ?_
    refine RL.op' (.free rfl) rfl (Does.storeN i324 rfl rfl (by simp [Value.cells, hil]) (by simp [Value.cells, Value.oneCell']) hB2 (by decide)) ?_
    rintro _ w4 ⟨hb4, hm4, _⟩
    refine RL.done ?_
    refine RK.ret_of Tryz.func358 (resC (cs := wds (invS [x0, x1, x2, x3])) rfl rfl a324 hb4) ?_ _
    exact ⟨_, rfl, rfl, ((hn1.grow.trans hn2.grow).then hm (fun b hb e => by have e' : b = b1 := e; have := hn1.at_; omega)).then hm4 (fun b hb e => by have e' : b = b2 := e; have := hn2.at_; have := hn1.grow.size; omega)⟩
end Go.Proofs.YtnnmgfnhblbolaaGreatDoor
set_option linter.unusedVariables false
set_option linter.unusedSimpArgs false
set_option maxHeartbeats 1000000
set_option maxRecDepth 100000
namespace Go.Proofs.YtnnmgfnhblbolaaGreatDoor
open Go Go.X Go.Rex
theorem member_ok' (w : World) (p : Nat) (s : ByteArray) (i : Nat) (h : PA w p s i false) (hi : i ≤ s.size) (hs : s.size ≤ 40) : Fx Tryz.prog 363 [pp p] w (fun u w' => ∃ (c j : Nat) (bad : Bool), u = .int .u8 (c : Int) ∧ c < 256 ∧ j ≤ s.size ∧ PA w' p s j bad ∧ memS s i = (if bad then none else some (c, j)) ∧ Mod (· = p) w w') := by
  refine Fx.mono (member_ok w p s i h hi hs) ?_
  rintro u w' ⟨hr, hm⟩
  cases hmm : memS s i with
  | none =>
    rw [hmm] at hr
    obtain ⟨c, j, h1, h2, h3, h4⟩ := hr
    exact ⟨c, j, true, h2, h1, h4, h3, rfl, hm⟩
  | some q =>
    obtain ⟨c, j⟩ := q
    rw [hmm] at hr
    have := memS_adv hmm
    exact ⟨c, j, false, hr.1, this.2.2, this.2.1, hr.2, rfl, hm⟩
def bodyS (s : ByteArray) (n i : Nat) (set : List Nat) : Option (List Nat × Nat) := match memS s i with
  | none => none
  | some (a, i1) => match toS s a i1 with
    | none => none
    | some (b, i2) => if b < a then none else clsL s n i2 (addG set a b)
theorem body_go {s : ByteArray} {n i : Nat} {set : List Nat} (hi : i < s.size) (h93 : b8 s i ≠ 93) : clsL s (n + 1) i set = bodyS s n i set := by
  unfold bodyS
  rw [clsL, if_pos hi, if_neg h93]
  all_goals rfl
theorem body_first {s : ByteArray} {i : Nat} : (if i < s.size ∧ b8 s i = 93 then none else clsL s (s.size + 1) i zero4) = bodyS s s.size i zero4 := by
  by_cases hi : i < s.size
  · by_cases h93 : b8 s i = 93
    · rw [if_pos ⟨hi, h93⟩]
      unfold bodyS memS
      rw [if_pos hi, if_neg (by omega), if_pos (.inl h93)]
    · rw [if_neg (fun h => h93 h.2), body_go hi h93]
  · rw [if_neg (fun h => hi h.1)]
    unfold bodyS memS
    rw [clsL, if_neg hi, if_neg hi]
theorem clsB_eq (s : ByteArray) (no : Bool) (i : Nat) : clsB s no i = (bodyS s s.size i zero4).map fun q => (if no then invS q.1 else q.1, q.2) := by
  rw [← body_first]
  unfold clsB
  split
  · rfl
  · cases clsL s (s.size + 1) i zero4 <;> rfl
structure ClsI (s : ByteArray) (T : Option (List Nat × Nat)) (first bad : Bool) (i : Nat) (set : List Nat) : Prop where
  one : first = true → bad = false ∧ bodyS s s.size i set = T
  go : first = false → bad = false → ∃ n, clsL s n i set = T ∧ s.size + 1 ≤ n + i
  no : bad = true → first = false ∧ T = none
theorem ClsI.step {s : ByteArray} {T : Option (List Nat × Nat)} {m i : Nat} {set : List Nat} (h : bodyS s m i set = T) (hm : s.size ≤ m + i) {c j : Nat} {bad : Bool} (h1 : memS s i = if bad then none else some (c, j)) {c2 j2 : Nat} {bad2 : Bool} (h2 : bad = true → bad2 = true) (h3 : bad = false → toS s c j = if bad2 then none else some (c2, j2)) : ClsI s T false (bad2 || decide (c2 < c)) j2 (addG set c c2) := by
  unfold bodyS at h
  cases bad with
  | true =>
    rw [h1] at h
    have hb := h2 rfl
    subst hb
    exact ⟨by simp, by simp, fun _ => ⟨rfl, h.symm⟩⟩
  | false =>
    have h4 := h3 rfl
    rw [h1] at h
    simp only [Bool.false_eq_true, if_false] at h
    have h5 := memS_adv h1
    rw [h4] at h
    cases bad2 with
    | true => exact ⟨by simp, by simp, fun _ => ⟨rfl, h.symm⟩⟩
    | false =>
      simp only [Bool.false_eq_true, if_false] at h h4
      have h6 := toS_adv h4 h5.2.1 h5.2.2
      by_cases hlt : c2 < c
      · rw [if_pos hlt] at h
        exact ⟨by simp, by simp [hlt], fun _ => ⟨rfl, h.symm⟩⟩
      · rw [if_neg hlt] at h
        exact ⟨by simp, fun _ _ => ⟨m, h, by omega⟩, by simp [hlt]⟩
theorem range_snoc (a d : Nat) (l : List Nat) : (List.range' a (d + 1)).foldl setBit l = setBit ((List.range' a d).foldl setBit l) (a + d) := by
  rw [List.range'_1_concat, List.foldl_append]; rfl
def partR (l : List Nat) (a d : Nat) : List Nat := (List.range' a d).foldl setBit l
theorem partR_w4 {l : List Nat} (h : W4 l) (a : Nat) : ∀ d, W4 (partR l a d)
  | 0 => h
  | d + 1 => by unfold partR; rw [range_snoc]; exact (partR_w4 h a d).bit _
theorem class_ok (w : World) (p : Nat) (s : ByteArray) (i : Nat) (h : PA w p s i false) (hi : i ≤ s.size) (hs : s.size ≤ 40) : Fx Tryz.prog 357 [pp p] w (fun u w' => ∃ (l : List Nat) (j : Nat) (bad : Bool), u = .agg (wds l).toArray ∧ W4 l ∧ j ≤ s.size ∧ PA w' p s j bad ∧ clsS s i = (if bad then none else some (l, j)) ∧ Mod (· = p) w w') := by
  have hplt := h.lt
  refine enter Tryz.func357 rfl rfl rfl _ (Pick.sub (l := [0]) (.cons rfl .nil)) ?_
  refine RK.seq ?_
  refine RK.region ?_
  refine RL.op (.free rfl) rfl rfl (Does.alloc i324) ?_
  rintro _ w1 ⟨b2, rfl, hn2⟩
  refine RL.done ?_
  refine RK.seq ?_
  refine RK.region ?_
  refine RL.op (.free rfl) rfl rfl (Does.alloc i324) ?_
  rintro _ w2 ⟨b3, rfl, hn3⟩
  have hg2 := hn2.grow.trans hn3.grow
  have hb2 := hn2.at_
  have hb3 := hn3.at_
  have hs2 := hn2.lt
  have hs3 := hn3.lt
  have hne : b2 ≠ b3 := by omega
  have hB3 : Blk w2 b3 324 (wds zero4) := hn3.blk
  refine RL.done ?_
  refine RK.seq ?_
  refine RK.region ?_
  refine RL.p rfl rfl ?_
  refine RL.op (.free rfl) rfl rfl (Does.call rfl e316 (next_ok _ p s i false (h.mod hg2 (fun h => h)) (by omega) 94)) ?_
  rintro _ w3 ⟨rfl, hP3, hm3⟩
  have hno : seesS s i false 94 = notS s i := by unfold seesS notS; simp
  rw [hno] at hP3 ⊢
  have hcl : clsS s i = clsB s (notS s i) (if notS s i then i + 1 else i) := rfl
  obtain ⟨i0, hi0⟩ : ∃ i0, (if notS s i then i + 1 else i) = i0 := ⟨_, rfl⟩
  rw [hi0] at hP3 hcl
  have hi0s : i0 ≤ s.size := by unfold notS at hi0; by_cases e : i < s.size ∧ b8 s i = 94 <;> simp [e] at hi0 <;> omega
  rw [clsB_eq] at hcl
  obtain ⟨no, hnoe⟩ : ∃ no, notS s i = no := ⟨_, rfl⟩
  rw [hnoe] at hcl ⊢
  obtain ⟨T, hT⟩ : ∃ T, bodyS s s.size i0 zero4 = T := ⟨_, rfl⟩
  rw [hT] at hcl
  have hms3 := hm3.size
  refine RL.p rfl rfl ?_
  refine RL.done ?_
  iterate 2 refine RK.seq ?_
  refine RK.region ?_
  refine RL.p rfl rfl ?_
  refine RL.done ?_
  refine RK.block ?_
  refine RK.loop (fun t : Bool × Bool × Nat × List Nat => [(0, pp p), (2, pp b2), (3, pp b3), (4, .bool no), (5, .bool t.1)]) (fun t w' => PA w' p s t.2.2.1 t.2.1 ∧ Blk w' b3 324 (wds t.2.2.2) ∧ W4 t.2.2.2 ∧ t.2.2.1 ≤ s.size ∧ ClsI s T t.1 t.2.1 t.2.2.1 t.2.2.2 ∧ Mod (fun b => b = p ∨ b = b3) w2 w') (fun t => if t.2.1 then 0 else s.size + 1 - t.2.2.1) (true, false, i0, zero4) ⟨rfl, rfl, rfl, rfl, rfl, trivial⟩ ⟨hP3, hB3.mod hm3 (by omega), W4.zero, hi0s, ⟨fun _ => ⟨rfl, hT⟩, by simp, by simp⟩, hm3.mono fun b _ e => .inl e⟩ (fun t w4 hI ih => ?_)
  obtain ⟨first, bad, k, set⟩ := t
  obtain ⟨hP, hB, hW, hk, hC, hm⟩ := hI
  simp only at hP hB hW hk hC
  iterate 2 refine RK.seq ?_
  refine RK.region ?_
  iterate 2 refine RL.p rfl rfl ?_
  first | refine RL.splitD (d := 12) rfl rfl (fun h12 => ?_) (fun h12 => ?_) | refine RL.splitN (d := 12) rfl rfl (fun h12 => ?_) (fun h12 => ?_) | refine RL.split (d := 12) rfl rfl (fun h12 => ?_) (fun h12 => ?_)
  · have h12' : first = true := h12
    subst h12'
    obtain ⟨hbad, hbody⟩ := hC.one rfl
    subst hbad
    have hmk : s.size ≤ s.size + k := by omega
    iterate 8 refine RL.no (.no rfl rfl rfl rfl) rfl rfl ?_
    refine RL.p rfl rfl ?_
    refine RL.done ?_
    refine RK.condT rfl ?_
    refine RK.skip ?_
    refine RK.seq ?_
    refine RK.block ?_
    refine RK.seq ?_
    refine RK.region ?_
    refine RL.p rfl rfl ?_
    refine RL.op (.free rfl) rfl rfl (Does.call rfl e363 (member_ok' _ p s k hP hk hs)) ?_
    rintro _ w7 ⟨c, j, bd, rfl, hc, hj, hP7, hmem, hm7⟩
    have hB7 := Blk.mod hB hm7 (by omega)
    have hM7 := Mod.trans hm (hm7.mono fun b _ e => .inl e)
    refine RL.p rfl rfl ?_
    refine RL.done ?_
    refine RK.seq ?_
    refine RK.region ?_
    iterate 2 refine RL.p rfl rfl ?_
    refine RL.done ?_
    iterate 2 refine RK.seq ?_
    refine RK.region ?_
    refine RL.p rfl rfl ?_
    refine RL.op (.free rfl) rfl rfl (Does.call rfl e316 (next_ok _ p s j bd hP7 (by omega) 45)) ?_
    rintro _ w8 ⟨rfl, hP8, hm8⟩
    have hB8 := hB7.mod hm8 (by omega)
    have hM8 := Mod.trans hM7 (hm8.mono fun b _ e => .inl e)
    refine RL.done ?_
    first | refine RK.condD rfl (fun h26 => ?_) (fun h26 => ?_) | refine RK.condN rfl (fun h26 => ?_) (fun h26 => ?_) | refine RK.cond rfl (fun h26 => ?_) (fun h26 => ?_)
    · have h9 : bd = false ∧ j < s.size ∧ b8 s j = 45 := by simpa [seesS] using h26
      obtain ⟨hbd, hjs, hj45⟩ := h9
      subst hbd
      rw [h26] at hP8
      refine RK.region ?_
      refine RL.p rfl rfl ?_
      refine RL.op (.free rfl) rfl rfl (Does.call rfl e363 (member_ok' _ p s (j + 1) hP8 (by omega) hs)) ?_
      rintro _ w9 ⟨c2, j2, bd2, rfl, hc2, hj2, hP9, hmem2, hm9⟩
      have hB9 := hB8.mod hm9 (by omega)
      have hM9 := Mod.trans hM8 (hm9.mono fun b _ e => .inl e)
      have hC9 := ClsI.step (c2 := c2) (j2 := j2) (bad2 := bd2) hbody hmk hmem (fun h => by cases h) (fun _ => by unfold toS; rw [if_pos ⟨hjs, hj45⟩]; exact hmem2)
      have hadv : (bd2 || decide (c2 < c)) = false → k < j2 := fun h => by
          have e : bd2 = false := by cases bd2 with | false => rfl | true => simp at h
          subst e
          have := memS_adv hmem; have := memS_adv hmem2; omega
      refine RL.p rfl rfl ?_
      refine RL.done ?_
      refine RK.seq ?_
      refine RK.region ?_
      iterate 3 refine RL.p rfl rfl ?_
      refine RL.q (.free rfl) rfl rfl (Yld.fieldAddr fo362_2 rfl) ?_
      refine RL.q (.free rfl) rfl rfl (Yld.load p4 rfl (at1 (hP9.cell rfl))) ?_
      refine RL.p rfl rfl ?_
      first | refine RL.splitD (d := 34) rfl rfl (fun h34 => ?_) (fun h34 => ?_) | refine RL.splitN (d := 34) rfl rfl (fun h34 => ?_) (fun h34 => ?_) | refine RL.split (d := 34) rfl rfl (fun h34 => ?_) (fun h34 => ?_)
      · have hbt : (bd2 || decide (c2 < c)) = true := by rw [h34]; rfl
        iterate 3 refine RL.no (.no rfl rfl rfl rfl) rfl rfl ?_
        iterate 2 refine RL.p rfl rfl ?_
        refine RL.q (.free rfl) rfl rfl (Yld.fieldAddr fo362_2 rfl) ?_
        refine RL.op' (.free rfl) rfl (Does.store i4 rfl rfl rfl hP9 (.s (.s .z))) ?_
        rintro _ w10 ⟨hP10', hm10, _⟩
        have hP10 : PA w10 p s j2 (bd2 || decide (c2 < c)) := by rw [hbt]; exact hP10'
        have hB10 := Blk.mod hB9 hm10 (by omega)
        have hM10 := Mod.trans hM9 (hm10.mono fun b _ e => .inl e)
        refine RL.done ?_
        refine RK.seq ?_
        refine RK.region ?_
        refine RL.p rfl rfl ?_
        refine RL.q (.free rfl) rfl rfl (Yld.convI Tryz.underlying5 Tryz.underlying3 rfl) ?_
        refine RL.re (d := 42) rfl rfl (congrArg (Value.int .i64) (wrap_i64 (by omega) (by omega))) ?_
        refine RL.p rfl rfl ?_
        refine RL.done ?_
        refine RK.block ?_
        refine RK.loop (fun d : Nat => [(0, pp p), (2, pp b2), (3, pp b3), (4, .bool no), (7, .int .u8 (c2 : Int)), (8, .int .i64 ((c + d : Nat) : Int))]) (fun d w' => Blk w' b3 324 (wds (partR set c d)) ∧ Mod (· = b3) w10 w' ∧ d ≤ c2 + 1 - c) (fun d => c2 + 1 - c - d) 0 ⟨rfl, rfl, rfl, rfl, rfl, rfl, trivial⟩ ⟨hB10, Mod.refl _ _, by omega⟩ (fun d w11 hI2 ih2 => ?_)
        obtain ⟨hB11, hm11, hd⟩ := hI2
        iterate 2 refine RK.seq ?_
        refine RK.region ?_
        iterate 2 refine RL.p rfl rfl ?_
        refine RL.q (.free rfl) rfl rfl (Yld.convI Tryz.underlying5 Tryz.underlying3 rfl) ?_
        refine RL.re (d := 45) rfl rfl (congrArg (Value.int .i64) (wrap_i64 (by omega) (by omega))) ?_
        refine RL.p rfl rfl ?_
        refine RL.done ?_
        first | refine RK.condD rfl (fun h46 => ?_) (fun h46 => ?_) | refine RK.condN rfl (fun h46 => ?_) (fun h46 => ?_) | refine RK.cond rfl (fun h46 => ?_) (fun h46 => ?_)
        · refine RK.skip ?_
          refine RK.seq ?_
          refine RK.block ?_
          refine RK.region ?_
          refine RL.p rfl rfl ?_
          refine RL.q (.free rfl) rfl rfl (Yld.convI Tryz.underlying3 Tryz.underlying5 rfl) ?_
          refine RL.re (d := 50) rfl rfl (congrArg (Value.int .u8) (Go.X.wrap_u8 (x := c + d) (by omega))) ?_
          refine RL.op (.free rfl) rfl rfl (Does.call rfl e359 (add_set _ b3 (partR set c d) hB11 (partR_w4 hW c d) (c + d) (by omega))) ?_
          rintro _ w12 ⟨rfl, hB12, hm12⟩
          refine RL.done ?_
          refine RK.inBlock ?_
          refine RK.region ?_
          iterate 2 refine RL.p rfl rfl ?_
          refine RL.re (d := 48) rfl rfl (succ_i64 (by omega)) ?_
          refine RL.p rfl rfl ?_
          refine RL.done ?_
          exact RK.back (ih2 (d + 1) _ ⟨by unfold partR; rw [range_snoc]; exact hB12, hm11.trans hm12, by omega⟩ (by omega)) ⟨rfl, rfl, rfl, rfl, rfl, rfl, trivial⟩
        · have hde : d = c2 + 1 - c := by omega
          have hBe : Blk w11 b3 324 (wds (addG set c c2)) := by rw [hde] at hB11; exact hB11
          refine RK.exit rfl ?_
          refine RK.inBlock ?_
          refine RK.region ?_
          refine RL.p rfl rfl ?_
          refine RL.done ?_
          exact RK.back (ih (false, (bd2 || decide (c2 < c)), j2, addG set c c2) _ ⟨hP10.mod hm11 (by omega), hBe, hW.add _ _, hj2, hC9, hM10.trans (hm11.mono fun b _ e => .inr e)⟩ (by
            simp only [Bool.false_eq_true, if_false]
            split
            · omega
            · rename_i hb9
              have := hadv (by simpa using hb9); omega)) ⟨rfl, rfl, rfl, rfl, rfl, trivial⟩
      · have hbt : (bd2 || decide (c2 < c)) = decide ((c2 : Int) < (c : Int)) := by rw [h34]; simp
        iterate 3 refine RL.q (.yes rfl rfl rfl) rfl rfl (Yld.pure rfl) ?_
        iterate 2 refine RL.p rfl rfl ?_
        refine RL.q (.free rfl) rfl rfl (Yld.fieldAddr fo362_2 rfl) ?_
        refine RL.op' (.free rfl) rfl (Does.store i4 rfl rfl rfl hP9 (.s (.s .z))) ?_
        rintro _ w10 ⟨hP10', hm10, _⟩
        have hP10 : PA w10 p s j2 (bd2 || decide (c2 < c)) := by rw [hbt]; exact hP10'
        have hB10 := Blk.mod hB9 hm10 (by omega)
        have hM10 := Mod.trans hM9 (hm10.mono fun b _ e => .inl e)
        refine RL.done ?_
        refine RK.seq ?_
        refine RK.region ?_
        refine RL.p rfl rfl ?_
        refine RL.q (.free rfl) rfl rfl (Yld.convI Tryz.underlying5 Tryz.underlying3 rfl) ?_
        refine RL.re (d := 42) rfl rfl (congrArg (Value.int .i64) (wrap_i64 (by omega) (by omega))) ?_
        refine RL.p rfl rfl ?_
        refine RL.done ?_
        refine RK.block ?_
        refine RK.loop (fun d : Nat => [(0, pp p), (2, pp b2), (3, pp b3), (4, .bool no), (7, .int .u8 (c2 : Int)), (8, .int .i64 ((c + d : Nat) : Int))]) (fun d w' => Blk w' b3 324 (wds (partR set c d)) ∧ Mod (· = b3) w10 w' ∧ d ≤ c2 + 1 - c) (fun d => c2 + 1 - c - d) 0 ⟨rfl, rfl, rfl, rfl, rfl, rfl, trivial⟩ ⟨hB10, Mod.refl _ _, by omega⟩ (fun d w11 hI2 ih2 => ?_)
        obtain ⟨hB11, hm11, hd⟩ := hI2
        iterate 2 refine RK.seq ?_
        refine RK.region ?_
        iterate 2 refine RL.p rfl rfl ?_
        refine RL.q (.free rfl) rfl rfl (Yld.convI Tryz.underlying5 Tryz.underlying3 rfl) ?_
        refine RL.re (d := 45) rfl rfl (congrArg (Value.int .i64) (wrap_i64 (by omega) (by omega))) ?_
        refine RL.p rfl rfl ?_
        refine RL.done ?_
        first | refine RK.condD rfl (fun h46 => ?_) (fun h46 => ?_) | refine RK.condN rfl (fun h46 => ?_) (fun h46 => ?_) | refine RK.cond rfl (fun h46 => ?_) (fun h46 => ?_)
        · refine RK.skip ?_
          refine RK.seq ?_
          refine RK.block ?_
          refine RK.region ?_
          refine RL.p rfl rfl ?_
          refine RL.q (.free rfl) rfl rfl (Yld.convI Tryz.underlying3 Tryz.underlying5 rfl) ?_
          refine RL.re (d := 50) rfl rfl (congrArg (Value.int .u8) (Go.X.wrap_u8 (x := c + d) (by omega))) ?_
          refine RL.op (.free rfl) rfl rfl (Does.call rfl e359 (add_set _ b3 (partR set c d) hB11 (partR_w4 hW c d) (c + d) (by omega))) ?_
          rintro _ w12 ⟨rfl, hB12, hm12⟩
          refine RL.done ?_
          refine RK.inBlock ?_
          refine RK.region ?_
          iterate 2 refine RL.p rfl rfl ?_
          refine RL.re (d := 48) rfl rfl (succ_i64 (by omega)) ?_
          refine RL.p rfl rfl ?_
          refine RL.done ?_
          exact RK.back (ih2 (d + 1) _ ⟨by unfold partR; rw [range_snoc]; exact hB12, hm11.trans hm12, by omega⟩ (by omega)) ⟨rfl, rfl, rfl, rfl, rfl, rfl, trivial⟩
        · have hde : d = c2 + 1 - c := by omega
          have hBe : Blk w11 b3 324 (wds (addG set c c2)) := by rw [hde] at hB11; exact hB11
          refine RK.exit rfl ?_
          refine RK.inBlock ?_
          refine RK.region ?_
          refine RL.p rfl rfl ?_
          refine RL.done ?_
          exact RK.back (ih (false, (bd2 || decide (c2 < c)), j2, addG set c c2) _ ⟨hP10.mod hm11 (by omega), hBe, hW.add _ _, hj2, hC9, hM10.trans (hm11.mono fun b _ e => .inr e)⟩ (by
            simp only [Bool.false_eq_true, if_false]
            split
            · omega
            · rename_i hb9
              have := hadv (by simpa using hb9); omega)) ⟨rfl, rfl, rfl, rfl, rfl, trivial⟩
    · have h26' : seesS s j bd 45 = false := by simpa using h26
      rw [h26'] at hP8
      have hC9 := ClsI.step (c2 := c) (j2 := j) (bad2 := bd) hbody hmk hmem (fun h => h) (fun hb => by unfold toS; rw [if_neg (fun h => by simp [seesS, hb, h] at h26'), hb]; rfl)
      have hadv : (bd || decide (c < c)) = false → k < j := fun h => by
          have e : bd = false := by cases bd with | false => rfl | true => simp at h
          subst e
          have := memS_adv hmem; omega
      have hP8' : PA w8 p s j bd := hP8
      refine RK.skip ?_
      refine RK.seq ?_
      refine RK.region ?_
      iterate 3 refine RL.p rfl rfl ?_
      refine RL.q (.free rfl) rfl rfl (Yld.fieldAddr fo362_2 rfl) ?_
      refine RL.q (.free rfl) rfl rfl (Yld.load p4 rfl (at1 (hP8'.cell rfl))) ?_
      refine RL.p rfl rfl ?_
      first | refine RL.splitD (d := 34) rfl rfl (fun h34 => ?_) (fun h34 => ?_) | refine RL.splitN (d := 34) rfl rfl (fun h34 => ?_) (fun h34 => ?_) | refine RL.split (d := 34) rfl rfl (fun h34 => ?_) (fun h34 => ?_)
      · have hbt : (bd || decide (c < c)) = true := by rw [h34]; rfl
        iterate 3 refine RL.no (.no rfl rfl rfl rfl) rfl rfl ?_
        iterate 2 refine RL.p rfl rfl ?_
        refine RL.q (.free rfl) rfl rfl (Yld.fieldAddr fo362_2 rfl) ?_
        refine RL.op' (.free rfl) rfl (Does.store i4 rfl rfl rfl hP8' (.s (.s .z))) ?_
        rintro _ w10 ⟨hP10', hm10, _⟩
        have hP10 : PA w10 p s j (bd || decide (c < c)) := by rw [hbt]; exact hP10'
        have hB10 := Blk.mod hB8 hm10 (by omega)
        have hM10 := Mod.trans hM8 (hm10.mono fun b _ e => .inl e)
        refine RL.done ?_
        refine RK.seq ?_
        refine RK.region ?_
        refine RL.p rfl rfl ?_
        refine RL.q (.free rfl) rfl rfl (Yld.convI Tryz.underlying5 Tryz.underlying3 rfl) ?_
        refine RL.re (d := 42) rfl rfl (congrArg (Value.int .i64) (wrap_i64 (by omega) (by omega))) ?_
        refine RL.p rfl rfl ?_
        refine RL.done ?_
        refine RK.block ?_
        refine RK.loop (fun d : Nat => [(0, pp p), (2, pp b2), (3, pp b3), (4, .bool no), (7, .int .u8 (c : Int)), (8, .int .i64 ((c + d : Nat) : Int))]) (fun d w' => Blk w' b3 324 (wds (partR set c d)) ∧ Mod (· = b3) w10 w' ∧ d ≤ c + 1 - c) (fun d => c + 1 - c - d) 0 ⟨rfl, rfl, rfl, rfl, rfl, rfl, trivial⟩ ⟨hB10, Mod.refl _ _, by omega⟩ (fun d w11 hI2 ih2 => ?_)
        obtain ⟨hB11, hm11, hd⟩ := hI2
        iterate 2 refine RK.seq ?_
        refine RK.region ?_
        iterate 2 refine RL.p rfl rfl ?_
        refine RL.q (.free rfl) rfl rfl (Yld.convI Tryz.underlying5 Tryz.underlying3 rfl) ?_
        refine RL.re (d := 45) rfl rfl (congrArg (Value.int .i64) (wrap_i64 (by omega) (by omega))) ?_
        refine RL.p rfl rfl ?_
        refine RL.done ?_
        first | refine RK.condD rfl (fun h46 => ?_) (fun h46 => ?_) | refine RK.condN rfl (fun h46 => ?_) (fun h46 => ?_) | refine RK.cond rfl (fun h46 => ?_) (fun h46 => ?_)
        · refine RK.skip ?_
          refine RK.seq ?_
          refine RK.block ?_
          refine RK.region ?_
          refine RL.p rfl rfl ?_
          refine RL.q (.free rfl) rfl rfl (Yld.convI Tryz.underlying3 Tryz.underlying5 rfl) ?_
          refine RL.re (d := 50) rfl rfl (congrArg (Value.int .u8) (Go.X.wrap_u8 (x := c + d) (by omega))) ?_
          refine RL.op (.free rfl) rfl rfl (Does.call rfl e359 (add_set _ b3 (partR set c d) hB11 (partR_w4 hW c d) (c + d) (by omega))) ?_
          rintro _ w12 ⟨rfl, hB12, hm12⟩
          refine RL.done ?_
          refine RK.inBlock ?_
          refine RK.region ?_
          iterate 2 refine RL.p rfl rfl ?_
          refine RL.re (d := 48) rfl rfl (succ_i64 (by omega)) ?_
          refine RL.p rfl rfl ?_
          refine RL.done ?_
          exact RK.back (ih2 (d + 1) _ ⟨by unfold partR; rw [range_snoc]; exact hB12, hm11.trans hm12, by omega⟩ (by omega)) ⟨rfl, rfl, rfl, rfl, rfl, rfl, trivial⟩
        · have hde : d = c + 1 - c := by omega
          have hBe : Blk w11 b3 324 (wds (addG set c c)) := by rw [hde] at hB11; exact hB11
          refine RK.exit rfl ?_
          refine RK.inBlock ?_
          refine RK.region ?_
          refine RL.p rfl rfl ?_
          refine RL.done ?_
          exact RK.back (ih (false, (bd || decide (c < c)), j, addG set c c) _ ⟨hP10.mod hm11 (by omega), hBe, hW.add _ _, hj, hC9, hM10.trans (hm11.mono fun b _ e => .inr e)⟩ (by
            simp only [Bool.false_eq_true, if_false]
            split
            · omega
            · rename_i hb9
              have := hadv (by simpa using hb9); omega)) ⟨rfl, rfl, rfl, rfl, rfl, trivial⟩
      · have hbt : (bd || decide (c < c)) = decide ((c : Int) < (c : Int)) := by rw [h34]; simp
        iterate 3 refine RL.q (.yes rfl rfl rfl) rfl rfl (Yld.pure rfl) ?_
        iterate 2 refine RL.p rfl rfl ?_
        refine RL.q (.free rfl) rfl rfl (Yld.fieldAddr fo362_2 rfl) ?_
        refine RL.op' (.free rfl) rfl (Does.store i4 rfl rfl rfl hP8' (.s (.s .z))) ?_
        rintro _ w10 ⟨hP10', hm10, _⟩
        have hP10 : PA w10 p s j (bd || decide (c < c)) := by rw [hbt]; exact hP10'
        have hB10 := Blk.mod hB8 hm10 (by omega)
        have hM10 := Mod.trans hM8 (hm10.mono fun b _ e => .inl e)
        refine RL.done ?_
        refine RK.seq ?_
        refine RK.region ?_
        refine RL.p rfl rfl ?_
        refine RL.q (.free rfl) rfl rfl (Yld.convI Tryz.underlying5 Tryz.underlying3 rfl) ?_
        refine RL.re (d := 42) rfl rfl (congrArg (Value.int .i64) (wrap_i64 (by omega) (by omega))) ?_
        refine RL.p rfl rfl ?_
        refine RL.done ?_
        refine RK.block ?_
        refine RK.loop (fun d : Nat => [(0, pp p), (2, pp b2), (3, pp b3), (4, .bool no), (7, .int .u8 (c : Int)), (8, .int .i64 ((c + d : Nat) : Int))]) (fun d w' => Blk w' b3 324 (wds (partR set c d)) ∧ Mod (· = b3) w10 w' ∧ d ≤ c + 1 - c) (fun d => c + 1 - c - d) 0 ⟨rfl, rfl, rfl, rfl, rfl, rfl, trivial⟩ ⟨hB10, Mod.refl _ _, by omega⟩ (fun d w11 hI2 ih2 => ?_)
        obtain ⟨hB11, hm11, hd⟩ := hI2
        iterate 2 refine RK.seq ?_
        refine RK.region ?_
        iterate 2 refine RL.p rfl rfl ?_
        refine RL.q (.free rfl) rfl rfl (Yld.convI Tryz.underlying5 Tryz.underlying3 rfl) ?_
        refine RL.re (d := 45) rfl rfl (congrArg (Value.int .i64) (wrap_i64 (by omega) (by omega))) ?_
        refine RL.p rfl rfl ?_
        refine RL.done ?_
        first | refine RK.condD rfl (fun h46 => ?_) (fun h46 => ?_) | refine RK.condN rfl (fun h46 => ?_) (fun h46 => ?_) | refine RK.cond rfl (fun h46 => ?_) (fun h46 => ?_)
        · refine RK.skip ?_
          refine RK.seq ?_
          refine RK.block ?_
          refine RK.region ?_
          refine RL.p rfl rfl ?_
          refine RL.q (.free rfl) rfl rfl (Yld.convI Tryz.underlying3 Tryz.underlying5 rfl) ?_
          refine RL.re (d := 50) rfl rfl (congrArg (Value.int .u8) (Go.X.wrap_u8 (x := c + d) (by omega))) ?_
          refine RL.op (.free rfl) rfl rfl (Does.call rfl e359 (add_set _ b3 (partR set c d) hB11 (partR_w4 hW c d) (c + d) (by omega))) ?_
          rintro _ w12 ⟨rfl, hB12, hm12⟩
          refine RL.done ?_
          refine RK.inBlock ?_
          refine RK.region ?_
          iterate 2 refine RL.p rfl rfl ?_
          refine RL.re (d := 48) rfl rfl (succ_i64 (by omega)) ?_
          refine RL.p rfl rfl ?_
          refine RL.done ?_
          exact RK.back (ih2 (d + 1) _ ⟨by unfold partR; rw [range_snoc]; exact hB12, hm11.trans hm12, by omega⟩ (by omega)) ⟨rfl, rfl, rfl, rfl, rfl, rfl, trivial⟩
        · have hde : d = c + 1 - c := by omega
          have hBe : Blk w11 b3 324 (wds (addG set c c)) := by rw [hde] at hB11; exact hB11
          refine RK.exit rfl ?_
          refine RK.inBlock ?_
          refine RK.region ?_
          refine RL.p rfl rfl ?_
          refine RL.done ?_
          exact RK.back (ih (false, (bd || decide (c < c)), j, addG set c c) _ ⟨hP10.mod hm11 (by omega), hBe, hW.add _ _, hj, hC9, hM10.trans (hm11.mono fun b _ e => .inr e)⟩ (by
            simp only [Bool.false_eq_true, if_false]
            split
            · omega
            · rename_i hb9
              have := hadv (by simpa using hb9); omega)) ⟨rfl, rfl, rfl, rfl, rfl, trivial⟩
  · have h12' : first = false := h12
    subst h12'
    refine RL.q (.yes rfl rfl rfl) rfl rfl (Yld.pure rfl) ?_
    refine RL.op (.yes rfl rfl rfl) rfl rfl (Does.call rfl e336 (over_ok _ p s k bad hP)) ?_
    rintro _ w5 ⟨rfl, hg5⟩
    have hPo := hP.mod hg5 (fun h => h)
    have hBo := hB.mod hg5 (fun h => h)
    have hmo : Mod (fun b => b = p ∨ b = b3) w2 w5 := hm.trans (Mod.any' hg5)
    iterate 2 refine RL.q (.yes rfl rfl rfl) rfl rfl (Yld.pure rfl) ?_
    first | refine RL.splitD (d := 16) rfl rfl (fun h16 => ?_) (fun h16 => ?_) | refine RL.splitN (d := 16) rfl rfl (fun h16 => ?_) (fun h16 => ?_) | refine RL.split (d := 16) rfl rfl (fun h16 => ?_) (fun h16 => ?_)
    · have h16' : bad = false ∧ k < s.size := by simpa using h16
      obtain ⟨hbad, hks⟩ := h16'
      subst hbad
      refine RL.q (.yes rfl rfl rfl) rfl rfl (Yld.pure rfl) ?_
      refine RL.op (.yes rfl rfl rfl) rfl rfl (Does.call rfl e337 (sees_ok _ p s k false hPo 93)) ?_
      rintro _ w6 ⟨rfl, hg6⟩
      have hPe := hPo.mod hg6 (fun h => h)
      have hBe := hBo.mod hg6 (fun h => h)
      have hme : Mod (fun b => b = p ∨ b = b3) w2 w6 := hmo.trans (Mod.any' hg6)
      obtain ⟨n, hn, hnk⟩ := hC.go rfl rfl
      iterate 2 refine RL.q (.yes rfl rfl rfl) rfl rfl (Yld.pure rfl) ?_
      refine RL.p rfl rfl ?_
      refine RL.done ?_
      first | refine RK.condD rfl (fun h21 => ?_) (fun h21 => ?_) | refine RK.condN rfl (fun h21 => ?_) (fun h21 => ?_) | refine RK.cond rfl (fun h21 => ?_) (fun h21 => ?_)
      · have h93 : b8 s k ≠ 93 := by simpa [seesS, hks] using h21
        obtain ⟨m, rfl⟩ : ∃ m, n = m + 1 := ⟨n - 1, by omega⟩
        have hbody := (body_go hks h93).symm.trans hn
        have hmk : s.size ≤ m + k := by omega
        refine RK.skip ?_
        refine RK.seq ?_
        refine RK.block ?_
        refine RK.seq ?_
        refine RK.region ?_
        refine RL.p rfl rfl ?_
        refine RL.op (.free rfl) rfl rfl (Does.call rfl e363 (member_ok' _ p s k hPe hk hs)) ?_
        rintro _ w7 ⟨c, j, bd, rfl, hc, hj, hP7, hmem, hm7⟩
        have hB7 := Blk.mod hBe hm7 (by omega)
        have hM7 := Mod.trans hme (hm7.mono fun b _ e => .inl e)
        refine RL.p rfl rfl ?_
        refine RL.done ?_
        refine RK.seq ?_
        refine RK.region ?_
        iterate 2 refine RL.p rfl rfl ?_
        refine RL.done ?_
        iterate 2 refine RK.seq ?_
        refine RK.region ?_
        refine RL.p rfl rfl ?_
        refine RL.op (.free rfl) rfl rfl (Does.call rfl e316 (next_ok _ p s j bd hP7 (by omega) 45)) ?_
        rintro _ w8 ⟨rfl, hP8, hm8⟩
        have hB8 := hB7.mod hm8 (by omega)
        have hM8 := Mod.trans hM7 (hm8.mono fun b _ e => .inl e)
        refine RL.done ?_
        first | refine RK.condD rfl (fun h26 => ?_) (fun h26 => ?_) | refine RK.condN rfl (fun h26 => ?_) (fun h26 => ?_) | refine RK.cond rfl (fun h26 => ?_) (fun h26 => ?_)
        · have h9 : bd = false ∧ j < s.size ∧ b8 s j = 45 := by simpa [seesS] using h26
          obtain ⟨hbd, hjs, hj45⟩ := h9
          subst hbd
          rw [h26] at hP8
          refine RK.region ?_
          refine RL.p rfl rfl ?_
          refine RL.op (.free rfl) rfl rfl (Does.call rfl e363 (member_ok' _ p s (j + 1) hP8 (by omega) hs)) ?_
          rintro _ w9 ⟨c2, j2, bd2, rfl, hc2, hj2, hP9, hmem2, hm9⟩
          have hB9 := hB8.mod hm9 (by omega)
          have hM9 := Mod.trans hM8 (hm9.mono fun b _ e => .inl e)
          have hC9 := ClsI.step (c2 := c2) (j2 := j2) (bad2 := bd2) hbody hmk hmem (fun h => by cases h) (fun _ => by unfold toS; rw [if_pos ⟨hjs, hj45⟩]; exact hmem2)
          have hadv : (bd2 || decide (c2 < c)) = false → k < j2 := fun h => by
              have e : bd2 = false := by cases bd2 with | false => rfl | true => simp at h
              subst e
              have := memS_adv hmem; have := memS_adv hmem2; omega
          refine RL.p rfl rfl ?_
          refine RL.done ?_
          refine RK.seq ?_
          refine RK.region ?_
          iterate 3 refine RL.p rfl rfl ?_
          refine RL.q (.free rfl) rfl rfl (Yld.fieldAddr fo362_2 rfl) ?_
          refine RL.q (.free rfl) rfl rfl (Yld.load p4 rfl (at1 (hP9.cell rfl))) ?_
          refine RL.p rfl rfl ?_
          first | refine RL.splitD (d := 34) rfl rfl (fun h34 => ?_) (fun h34 => ?_) | refine RL.splitN (d := 34) rfl rfl (fun h34 => ?_) (fun h34 => ?_) | refine RL.split (d := 34) rfl rfl (fun h34 => ?_) (fun h34 => ?_)
          · have hbt : (bd2 || decide (c2 < c)) = true := by rw [h34]; rfl
            iterate 3 refine RL.no (.no rfl rfl rfl rfl) rfl rfl ?_
            iterate 2 refine RL.p rfl rfl ?_
            refine RL.q (.free rfl) rfl rfl (Yld.fieldAddr fo362_2 rfl) ?_
            refine RL.op' (.free rfl) rfl (Does.store i4 rfl rfl rfl hP9 (.s (.s .z))) ?_
            rintro _ w10 ⟨hP10', hm10, _⟩
            have hP10 : PA w10 p s j2 (bd2 || decide (c2 < c)) := by rw [hbt]; exact hP10'
            have hB10 := Blk.mod hB9 hm10 (by omega)
            have hM10 := Mod.trans hM9 (hm10.mono fun b _ e => .inl e)
            refine RL.done ?_
            refine RK.seq ?_
            refine RK.region ?_
            refine RL.p rfl rfl ?_
            refine RL.q (.free rfl) rfl rfl (Yld.convI Tryz.underlying5 Tryz.underlying3 rfl) ?_
            refine RL.re (d := 42) rfl rfl (congrArg (Value.int .i64) (wrap_i64 (by omega) (by omega))) ?_
            refine RL.p rfl rfl ?_
            refine RL.done ?_
            refine RK.block ?_
            refine RK.loop (fun d : Nat => [(0, pp p), (2, pp b2), (3, pp b3), (4, .bool no), (7, .int .u8 (c2 : Int)), (8, .int .i64 ((c + d : Nat) : Int))]) (fun d w' => Blk w' b3 324 (wds (partR set c d)) ∧ Mod (· = b3) w10 w' ∧ d ≤ c2 + 1 - c) (fun d => c2 + 1 - c - d) 0 ⟨rfl, rfl, rfl, rfl, rfl, rfl, trivial⟩ ⟨hB10, Mod.refl _ _, by omega⟩ (fun d w11 hI2 ih2 => ?_)
            obtain ⟨hB11, hm11, hd⟩ := hI2
            iterate 2 refine RK.seq ?_
            refine RK.region ?_
            iterate 2 refine RL.p rfl rfl ?_
            refine RL.q (.free rfl) rfl rfl (Yld.convI Tryz.underlying5 Tryz.underlying3 rfl) ?_
            refine RL.re (d := 45) rfl rfl (congrArg (Value.int .i64) (wrap_i64 (by omega) (by omega))) ?_
            refine RL.p rfl rfl ?_
            refine RL.done ?_
            first | refine RK.condD rfl (fun h46 => ?_) (fun h46 => ?_) | refine RK.condN rfl (fun h46 => ?_) (fun h46 => ?_) | refine RK.cond rfl (fun h46 => ?_) (fun h46 => ?_)
            · refine RK.skip ?_
              refine RK.seq ?_
              refine RK.block ?_
              refine RK.region ?_
              refine RL.p rfl rfl ?_
              refine RL.q (.free rfl) rfl rfl (Yld.convI Tryz.underlying3 Tryz.underlying5 rfl) ?_
              refine RL.re (d := 50) rfl rfl (congrArg (Value.int .u8) (Go.X.wrap_u8 (x := c + d) (by omega))) ?_
              refine RL.op (.free rfl) rfl rfl (Does.call rfl e359 (add_set _ b3 (partR set c d) hB11 (partR_w4 hW c d) (c + d) (by omega))) ?_
              rintro _ w12 ⟨rfl, hB12, hm12⟩
              refine RL.done ?_
              refine RK.inBlock ?_
              refine RK.region ?_
              iterate 2 refine RL.p rfl rfl ?_
              refine RL.re (d := 48) rfl rfl (succ_i64 (by omega)) ?_
              refine RL.p rfl rfl ?_
              refine RL.done ?_
              exact RK.back (ih2 (d + 1) _ ⟨by unfold partR; rw [range_snoc]; exact hB12, hm11.trans hm12, by omega⟩ (by omega)) ⟨rfl, rfl, rfl, rfl, rfl, rfl, trivial⟩
            · have hde : d = c2 + 1 - c := by omega
              have hBe : Blk w11 b3 324 (wds (addG set c c2)) := by rw [hde] at hB11; exact hB11
              refine RK.exit rfl ?_
              refine RK.inBlock ?_
              refine RK.region ?_
              refine RL.p rfl rfl ?_
              refine RL.done ?_
              exact RK.back (ih (false, (bd2 || decide (c2 < c)), j2, addG set c c2) _ ⟨hP10.mod hm11 (by omega), hBe, hW.add _ _, hj2, hC9, hM10.trans (hm11.mono fun b _ e => .inr e)⟩ (by
                simp only [Bool.false_eq_true, if_false]
                split
                · omega
                · rename_i hb9
                  have := hadv (by simpa using hb9); omega)) ⟨rfl, rfl, rfl, rfl, rfl, trivial⟩
          · have hbt : (bd2 || decide (c2 < c)) = decide ((c2 : Int) < (c : Int)) := by rw [h34]; simp
            iterate 3 refine RL.q (.yes rfl rfl rfl) rfl rfl (Yld.pure rfl) ?_
            iterate 2 refine RL.p rfl rfl ?_
            refine RL.q (.free rfl) rfl rfl (Yld.fieldAddr fo362_2 rfl) ?_
            refine RL.op' (.free rfl) rfl (Does.store i4 rfl rfl rfl hP9 (.s (.s .z))) ?_
            rintro _ w10 ⟨hP10', hm10, _⟩
            have hP10 : PA w10 p s j2 (bd2 || decide (c2 < c)) := by rw [hbt]; exact hP10'
            have hB10 := Blk.mod hB9 hm10 (by omega)
            have hM10 := Mod.trans hM9 (hm10.mono fun b _ e => .inl e)
            refine RL.done ?_
            refine RK.seq ?_
            refine RK.region ?_
            refine RL.p rfl rfl ?_
            refine RL.q (.free rfl) rfl rfl (Yld.convI Tryz.underlying5 Tryz.underlying3 rfl) ?_
            refine RL.re (d := 42) rfl rfl (congrArg (Value.int .i64) (wrap_i64 (by omega) (by omega))) ?_
            refine RL.p rfl rfl ?_
            refine RL.done ?_
            refine RK.block ?_
            refine RK.loop (fun d : Nat => [(0, pp p), (2, pp b2), (3, pp b3), (4, .bool no), (7, .int .u8 (c2 : Int)), (8, .int .i64 ((c + d : Nat) : Int))]) (fun d w' => Blk w' b3 324 (wds (partR set c d)) ∧ Mod (· = b3) w10 w' ∧ d ≤ c2 + 1 - c) (fun d => c2 + 1 - c - d) 0 ⟨rfl, rfl, rfl, rfl, rfl, rfl, trivial⟩ ⟨hB10, Mod.refl _ _, by omega⟩ (fun d w11 hI2 ih2 => ?_)
            obtain ⟨hB11, hm11, hd⟩ := hI2
            iterate 2 refine RK.seq ?_
            refine RK.region ?_
            iterate 2 refine RL.p rfl rfl ?_
            refine RL.q (.free rfl) rfl rfl (Yld.convI Tryz.underlying5 Tryz.underlying3 rfl) ?_
            refine RL.re (d := 45) rfl rfl (congrArg (Value.int .i64) (wrap_i64 (by omega) (by omega))) ?_
            refine RL.p rfl rfl ?_
            refine RL.done ?_
            first | refine RK.condD rfl (fun h46 => ?_) (fun h46 => ?_) | refine RK.condN rfl (fun h46 => ?_) (fun h46 => ?_) | refine RK.cond rfl (fun h46 => ?_) (fun h46 => ?_)
            · refine RK.skip ?_
              refine RK.seq ?_
              refine RK.block ?_
              refine RK.region ?_
              refine RL.p rfl rfl ?_
              refine RL.q (.free rfl) rfl rfl (Yld.convI Tryz.underlying3 Tryz.underlying5 rfl) ?_
              refine RL.re (d := 50) rfl rfl (congrArg (Value.int .u8) (Go.X.wrap_u8 (x := c + d) (by omega))) ?_
              refine RL.op (.free rfl) rfl rfl (Does.call rfl e359 (add_set _ b3 (partR set c d) hB11 (partR_w4 hW c d) (c + d) (by omega))) ?_
              rintro _ w12 ⟨rfl, hB12, hm12⟩
              refine RL.done ?_
              refine RK.inBlock ?_
              refine RK.region ?_
              iterate 2 refine RL.p rfl rfl ?_
              refine RL.re (d := 48) rfl rfl (succ_i64 (by omega)) ?_
              refine RL.p rfl rfl ?_
              refine RL.done ?_
              exact RK.back (ih2 (d + 1) _ ⟨by unfold partR; rw [range_snoc]; exact hB12, hm11.trans hm12, by omega⟩ (by omega)) ⟨rfl, rfl, rfl, rfl, rfl, rfl, trivial⟩
            · have hde : d = c2 + 1 - c := by omega
              have hBe : Blk w11 b3 324 (wds (addG set c c2)) := by rw [hde] at hB11; exact hB11
              refine RK.exit rfl ?_
              refine RK.inBlock ?_
              refine RK.region ?_
              refine RL.p rfl rfl ?_
              refine RL.done ?_
              exact RK.back (ih (false, (bd2 || decide (c2 < c)), j2, addG set c c2) _ ⟨hP10.mod hm11 (by omega), hBe, hW.add _ _, hj2, hC9, hM10.trans (hm11.mono fun b _ e => .inr e)⟩ (by
                simp only [Bool.false_eq_true, if_false]
                split
                · omega
                · rename_i hb9
                  have := hadv (by simpa using hb9); omega)) ⟨rfl, rfl, rfl, rfl, rfl, trivial⟩
        · have h26' : seesS s j bd 45 = false := by simpa using h26
          rw [h26'] at hP8
          have hC9 := ClsI.step (c2 := c) (j2 := j) (bad2 := bd) hbody hmk hmem (fun h => h) (fun hb => by unfold toS; rw [if_neg (fun h => by simp [seesS, hb, h] at h26'), hb]; rfl)
          have hadv : (bd || decide (c < c)) = false → k < j := fun h => by
              have e : bd = false := by cases bd with | false => rfl | true => simp at h
              subst e
              have := memS_adv hmem; omega
          have hP8' : PA w8 p s j bd := hP8
          refine RK.skip ?_
          refine RK.seq ?_
          refine RK.region ?_
          iterate 3 refine RL.p rfl rfl ?_
          refine RL.q (.free rfl) rfl rfl (Yld.fieldAddr fo362_2 rfl) ?_
          refine RL.q (.free rfl) rfl rfl (Yld.load p4 rfl (at1 (hP8'.cell rfl))) ?_
          refine RL.p rfl rfl ?_
          first | refine RL.splitD (d := 34) rfl rfl (fun h34 => ?_) (fun h34 => ?_) | refine RL.splitN (d := 34) rfl rfl (fun h34 => ?_) (fun h34 => ?_) | refine RL.split (d := 34) rfl rfl (fun h34 => ?_) (fun h34 => ?_)
          · have hbt : (bd || decide (c < c)) = true := by rw [h34]; rfl
            iterate 3 refine RL.no (.no rfl rfl rfl rfl) rfl rfl ?_
            iterate 2 refine RL.p rfl rfl ?_
            refine RL.q (.free rfl) rfl rfl (Yld.fieldAddr fo362_2 rfl) ?_
            refine RL.op' (.free rfl) rfl (Does.store i4 rfl rfl rfl hP8' (.s (.s .z))) ?_
            rintro _ w10 ⟨hP10', hm10, _⟩
            have hP10 : PA w10 p s j (bd || decide (c < c)) := by rw [hbt]; exact hP10'
            have hB10 := Blk.mod hB8 hm10 (by omega)
            have hM10 := Mod.trans hM8 (hm10.mono fun b _ e => .inl e)
            refine RL.done ?_
            refine RK.seq ?_
            refine RK.region ?_
            refine RL.p rfl rfl ?_
            refine RL.q (.free rfl) rfl rfl (Yld.convI Tryz.underlying5 Tryz.underlying3 rfl) ?_
            refine RL.re (d := 42) rfl rfl (congrArg (Value.int .i64) (wrap_i64 (by omega) (by omega))) ?_
            refine RL.p rfl rfl ?_
            refine RL.done ?_
            refine RK.block ?_
            refine RK.loop (fun d : Nat => [(0, pp p), (2, pp b2), (3, pp b3), (4, .bool no), (7, .int .u8 (c : Int)), (8, .int .i64 ((c + d : Nat) : Int))]) (fun d w' => Blk w' b3 324 (wds (partR set c d)) ∧ Mod (· = b3) w10 w' ∧ d ≤ c + 1 - c) (fun d => c + 1 - c - d) 0 ⟨rfl, rfl, rfl, rfl, rfl, rfl, trivial⟩ ⟨hB10, Mod.refl _ _, by omega⟩ (fun d w11 hI2 ih2 => ?_)
            obtain ⟨hB11, hm11, hd⟩ := hI2
            iterate 2 refine RK.seq ?_
            refine RK.region ?_
            iterate 2 refine RL.p rfl rfl ?_
            refine RL.q (.free rfl) rfl rfl (Yld.convI Tryz.underlying5 Tryz.underlying3 rfl) ?_
            refine RL.re (d := 45) rfl rfl (congrArg (Value.int .i64) (wrap_i64 (by omega) (by omega))) ?_
            refine RL.p rfl rfl ?_
            refine RL.done ?_
            first | refine RK.condD rfl (fun h46 => ?_) (fun h46 => ?_) | refine RK.condN rfl (fun h46 => ?_) (fun h46 => ?_) | refine RK.cond rfl (fun h46 => ?_) (fun h46 => ?_)
            · refine RK.skip ?_
              refine RK.seq ?_
              refine RK.block ?_
              refine RK.region ?_
              refine RL.p rfl rfl ?_
              refine RL.q (.free rfl) rfl rfl (Yld.convI Tryz.underlying3 Tryz.underlying5 rfl) ?_
              refine RL.re (d := 50) rfl rfl (congrArg (Value.int .u8) (Go.X.wrap_u8 (x := c + d) (by omega))) ?_
              refine RL.op (.free rfl) rfl rfl (Does.call rfl e359 (add_set _ b3 (partR set c d) hB11 (partR_w4 hW c d) (c + d) (by omega))) ?_
              rintro _ w12 ⟨rfl, hB12, hm12⟩
              refine RL.done ?_
              refine RK.inBlock ?_
              refine RK.region ?_
              iterate 2 refine RL.p rfl rfl ?_
              refine RL.re (d := 48) rfl rfl (succ_i64 (by omega)) ?_
              refine RL.p rfl rfl ?_
              refine RL.done ?_
              exact RK.back (ih2 (d + 1) _ ⟨by unfold partR; rw [range_snoc]; exact hB12, hm11.trans hm12, by omega⟩ (by omega)) ⟨rfl, rfl, rfl, rfl, rfl, rfl, trivial⟩
            · have hde : d = c + 1 - c := by omega
              have hBe : Blk w11 b3 324 (wds (addG set c c)) := by rw [hde] at hB11; exact hB11
              refine RK.exit rfl ?_
              refine RK.inBlock ?_
              refine RK.region ?_
              refine RL.p rfl rfl ?_
              refine RL.done ?_
              exact RK.back (ih (false, (bd || decide (c < c)), j, addG set c c) _ ⟨hP10.mod hm11 (by omega), hBe, hW.add _ _, hj, hC9, hM10.trans (hm11.mono fun b _ e => .inr e)⟩ (by
                simp only [Bool.false_eq_true, if_false]
                split
                · omega
                · rename_i hb9
                  have := hadv (by simpa using hb9); omega)) ⟨rfl, rfl, rfl, rfl, rfl, trivial⟩
          · have hbt : (bd || decide (c < c)) = decide ((c : Int) < (c : Int)) := by rw [h34]; simp
            iterate 3 refine RL.q (.yes rfl rfl rfl) rfl rfl (Yld.pure rfl) ?_
            iterate 2 refine RL.p rfl rfl ?_
            refine RL.q (.free rfl) rfl rfl (Yld.fieldAddr fo362_2 rfl) ?_
            refine RL.op' (.free rfl) rfl (Does.store i4 rfl rfl rfl hP8' (.s (.s .z))) ?_
            rintro _ w10 ⟨hP10', hm10, _⟩
            have hP10 : PA w10 p s j (bd || decide (c < c)) := by rw [hbt]; exact hP10'
            have hB10 := Blk.mod hB8 hm10 (by omega)
            have hM10 := Mod.trans hM8 (hm10.mono fun b _ e => .inl e)
            refine RL.done ?_
            refine RK.seq ?_
            refine RK.region ?_
            refine RL.p rfl rfl ?_
            refine RL.q (.free rfl) rfl rfl (Yld.convI Tryz.underlying5 Tryz.underlying3 rfl) ?_
            refine RL.re (d := 42) rfl rfl (congrArg (Value.int .i64) (wrap_i64 (by omega) (by omega))) ?_
            refine RL.p rfl rfl ?_
            refine RL.done ?_
            refine RK.block ?_
            refine RK.loop (fun d : Nat => [(0, pp p), (2, pp b2), (3, pp b3), (4, .bool no), (7, .int .u8 (c : Int)), (8, .int .i64 ((c + d : Nat) : Int))]) (fun d w' => Blk w' b3 324 (wds (partR set c d)) ∧ Mod (· = b3) w10 w' ∧ d ≤ c + 1 - c) (fun d => c + 1 - c - d) 0 ⟨rfl, rfl, rfl, rfl, rfl, rfl, trivial⟩ ⟨hB10, Mod.refl _ _, by omega⟩ (fun d w11 hI2 ih2 => ?_)
            obtain ⟨hB11, hm11, hd⟩ := hI2
            iterate 2 refine RK.seq ?_
            refine RK.region ?_
            iterate 2 refine RL.p rfl rfl ?_
            refine RL.q (.free rfl) rfl rfl (Yld.convI Tryz.underlying5 Tryz.underlying3 rfl) ?_
            refine RL.re (d := 45) rfl rfl (congrArg (Value.int .i64) (wrap_i64 (by omega) (by omega))) ?_
            refine RL.p rfl rfl ?_
            refine RL.done ?_
            first | refine RK.condD rfl (fun h46 => ?_) (fun h46 => ?_) | refine RK.condN rfl (fun h46 => ?_) (fun h46 => ?_) | refine RK.cond rfl (fun h46 => ?_) (fun h46 => ?_)
            · refine RK.skip ?_
              refine RK.seq ?_
              refine RK.block ?_
              refine RK.region ?_
              refine RL.p rfl rfl ?_
              refine RL.q (.free rfl) rfl rfl (Yld.convI Tryz.underlying3 Tryz.underlying5 rfl) ?_
              refine RL.re (d := 50) rfl rfl (congrArg (Value.int .u8) (Go.X.wrap_u8 (x := c + d) (by omega))) ?_
              refine RL.op (.free rfl) rfl rfl (Does.call rfl e359 (add_set _ b3 (partR set c d) hB11 (partR_w4 hW c d) (c + d) (by omega))) ?_
              rintro _ w12 ⟨rfl, hB12, hm12⟩
              refine RL.done ?_
              refine RK.inBlock ?_
              refine RK.region ?_
              iterate 2 refine RL.p rfl rfl ?_
              refine RL.re (d := 48) rfl rfl (succ_i64 (by omega)) ?_
              refine RL.p rfl rfl ?_
              refine RL.done ?_
              exact RK.back (ih2 (d + 1) _ ⟨by unfold partR; rw [range_snoc]; exact hB12, hm11.trans hm12, by omega⟩ (by omega)) ⟨rfl, rfl, rfl, rfl, rfl, rfl, trivial⟩
            · have hde : d = c + 1 - c := by omega
              have hBe : Blk w11 b3 324 (wds (addG set c c)) := by rw [hde] at hB11; exact hB11
              refine RK.exit rfl ?_
              refine RK.inBlock ?_
              refine RK.region ?_
              refine RL.p rfl rfl ?_
              refine RL.done ?_
              exact RK.back (ih (false, (bd || decide (c < c)), j, addG set c c) _ ⟨hP10.mod hm11 (by omega), hBe, hW.add _ _, hj, hC9, hM10.trans (hm11.mono fun b _ e => .inr e)⟩ (by
                simp only [Bool.false_eq_true, if_false]
                split
                · omega
                · rename_i hb9
                  have := hadv (by simpa using hb9); omega)) ⟨rfl, rfl, rfl, rfl, rfl, trivial⟩
      · have h93 : b8 s k = 93 := by simpa [seesS, hks] using h21
        obtain ⟨m, rfl⟩ : ∃ m, n = m + 1 := ⟨n - 1, by omega⟩
        have hTe : T = some (set, k + 1) := by rw [← hn, clsL, if_pos hks, if_pos h93]
        have hsee : seesS s k false 93 = true := by simp [seesS, hks, h93]
        refine RK.exit rfl ?_
        refine RK.seq ?_
        refine RK.region ?_
        iterate 2 refine RL.p rfl rfl ?_
        refine RL.op (.free rfl) rfl rfl (Does.call rfl e316 (next_ok _ p s k false hPe (by omega) 93)) ?_
        rintro _ w7 ⟨rfl, hP7, hm7⟩
        rw [hsee] at hP7 ⊢
        iterate 2 refine RL.p rfl rfl ?_
        refine RL.knownF (d := 56) rfl rfl (rfl) ?_
        iterate 2 refine RL.q (.yes rfl rfl rfl) rfl rfl (Yld.pure rfl) ?_
        refine RL.q (.yes rfl rfl rfl) rfl rfl (Yld.fieldAddr fo362_2 rfl) ?_
        refine RL.q (.yes rfl rfl rfl) rfl rfl (Yld.load p4 rfl (at1 (hP7.cell rfl))) ?_
        iterate 2 refine RL.p rfl rfl ?_
        refine RL.q (.free rfl) rfl rfl (Yld.fieldAddr fo362_2 rfl) ?_
        refine RL.op' (.free rfl) rfl (Does.store i4 rfl rfl rfl hP7 (.s (.s .z))) ?_
        rintro _ w8 ⟨hP8, hm8, _⟩
        have hB8 : Blk w8 b3 324 (wds set) := (Blk.mod hBe hm7 (by omega)).mod hm8 (by omega)
        have hP8' : PA w8 p s (k + 1) false := hP8
        have hM8 : Mod (fun b => b = p ∨ b = b3) w2 w8 := (Mod.trans hme (hm7.mono fun b _ e => .inl e)).trans (hm8.mono fun b _ e => .inl e)
        have hR8 := (hn2.blk.mod hn3.grow (fun h => h)).mod hM8 (by omega)
        obtain ⟨x0, x1, x2, x3, rfl⟩ : ∃ x0 x1 x2 x3, set = [x0, x1, x2, x3] := by
            obtain ⟨h4, _⟩ := hW
            match set, h4 with
            | [x0, x1, x2, x3], _ => exact ⟨x0, x1, x2, x3, rfl⟩
        refine RL.done ?_
        iterate 2 refine RK.seq ?_
        refine RK.region ?_
        refine RL.p rfl rfl ?_
        refine RL.done ?_
        first | refine RK.condD rfl (fun h64 => ?_) (fun h64 => ?_) | refine RK.condN rfl (fun h64 => ?_) (fun h64 => ?_) | refine RK.cond rfl (fun h64 => ?_) (fun h64 => ?_)
        · refine RK.seq ?_
          refine RK.region ?_
          refine RL.q (.free rfl) rfl rfl (Yld.loadN (cs := wds [x0, x1, x2, x3]) a324 rfl (atN (blk0' hB8))) ?_
          refine RL.op (.free rfl) rfl rfl (Does.call rfl e358 (turned_ok _ [x0, x1, x2, x3] hW)) ?_
          rintro _ w9 ⟨rfl, hg9⟩
          refine RL.op' (.free rfl) rfl (Does.storeN i324 rfl rfl (by simp [Value.cells, invS]) (by simp [Value.cells, Value.oneCell', invS]) (hR8.mod hg9 (fun h => h)) (by decide)) ?_
          rintro _ w10 ⟨hb10, hm10, _⟩
          refine RL.done ?_
          refine RK.ret_of Tryz.func357 (resC (cs := wds (invS [x0, x1, x2, x3])) rfl rfl a324 hb10) ?_ _
          exact ⟨_, rfl, invS [x0, x1, x2, x3], (k + 1), false, rfl, hW.inv, by omega, (hP8'.mod hg9 (fun h => h)).mod hm10 (by omega), by subst h64; rw [hcl, hTe]; rfl, (((Mod.any' hg2 : Mod (· = p) w w2).then hM8 (fun b hb e => e.elim (fun e => e) (fun e => by omega))).trans (Mod.any' hg9)).then hm10 (fun b hb e => by have e' : b = b2 := e; omega)⟩
        · refine RK.skip ?_
          refine RK.seq ?_
          refine RK.region ?_
          refine RL.q (.free rfl) rfl rfl (Yld.loadN (cs := wds [x0, x1, x2, x3]) a324 rfl (atN (blk0' hB8))) ?_
          refine RL.op' (.free rfl) rfl (Does.storeN i324 rfl rfl (by simp [Value.cells]) (by simp [Value.cells, Value.oneCell']) hR8 (by decide)) ?_
          rintro _ w10 ⟨hb10, hm10, _⟩
          refine RL.done ?_
          refine RK.ret_of Tryz.func357 (resC (cs := wds [x0, x1, x2, x3]) rfl rfl a324 hb10) ?_ _
          exact ⟨_, rfl, [x0, x1, x2, x3], (k + 1), false, rfl, hW, by omega, hP8'.mod hm10 (by omega), by have h64' : no = false := (by simpa using h64); subst h64'; rw [hcl, hTe]; rfl, ((Mod.any' hg2 : Mod (· = p) w w2).then hM8 (fun b hb e => e.elim (fun e => e) (fun e => by omega))).then hm10 (fun b hb e => by have e' : b = b2 := e; omega)⟩
    · have h16' : bad = true ∨ ¬ k < s.size := by cases bad <;> simp at h16 ⊢; omega
      have hTe : T = none := by
          cases hb : bad with
          | true => exact (hC.no hb).2
          | false =>
            obtain ⟨n, hn, hnk⟩ := hC.go rfl hb
            obtain ⟨m, rfl⟩ : ∃ m, n = m + 1 := ⟨n - 1, by omega⟩
            rw [← hn, clsL, if_neg (by rcases h16' with h | h; (rw [hb] at h; cases h); exact h)]
      have hsee : seesS s k bad 93 = false := by rcases h16' with h | h <;> simp [seesS, h]
      iterate 3 refine RL.no (.no rfl rfl rfl rfl) rfl rfl ?_
      refine RL.q (.yes rfl rfl rfl) rfl rfl (Yld.pure rfl) ?_
      refine RL.p rfl rfl ?_
      refine RL.done ?_
      refine RK.condF rfl ?_
      refine RK.exit rfl ?_
      refine RK.seq ?_
      refine RK.region ?_
      iterate 2 refine RL.p rfl rfl ?_
      refine RL.op (.free rfl) rfl rfl (Does.call rfl e316 (next_ok _ p s k bad hPo (by omega) 93)) ?_
      rintro _ w7 ⟨rfl, hP7, hm7⟩
      rw [hsee] at hP7 ⊢
      iterate 2 refine RL.p rfl rfl ?_
      refine RL.knownT (d := 56) rfl rfl (rfl) ?_
      iterate 4 refine RL.no (.no rfl rfl rfl rfl) rfl rfl ?_
      iterate 2 refine RL.p rfl rfl ?_
      refine RL.q (.free rfl) rfl rfl (Yld.fieldAddr fo362_2 rfl) ?_
      refine RL.op' (.free rfl) rfl (Does.store i4 rfl rfl rfl hP7 (.s (.s .z))) ?_
      rintro _ w8 ⟨hP8, hm8, _⟩
      have hB8 : Blk w8 b3 324 (wds set) := (Blk.mod hBo hm7 (by omega)).mod hm8 (by omega)
      have hP8' : PA w8 p s k true := hP8
      have hM8 : Mod (fun b => b = p ∨ b = b3) w2 w8 := (Mod.trans hmo (hm7.mono fun b _ e => .inl e)).trans (hm8.mono fun b _ e => .inl e)
      have hR8 := (hn2.blk.mod hn3.grow (fun h => h)).mod hM8 (by omega)
      obtain ⟨x0, x1, x2, x3, rfl⟩ : ∃ x0 x1 x2 x3, set = [x0, x1, x2, x3] := by
          obtain ⟨h4, _⟩ := hW
          match set, h4 with
          | [x0, x1, x2, x3], _ => exact ⟨x0, x1, x2, x3, rfl⟩
      refine RL.done ?_
      iterate 2 refine RK.seq ?_
      refine RK.region ?_
      refine RL.p rfl rfl ?_
      refine RL.done ?_
      first | refine RK.condD rfl (fun h64 => ?_) (fun h64 => ?_) | refine RK.condN rfl (fun h64 => ?_) (fun h64 => ?_) | refine RK.cond rfl (fun h64 => ?_) (fun h64 => ?_)
      · refine RK.seq ?_
        refine RK.region ?_
        refine RL.q (.free rfl) rfl rfl (Yld.loadN (cs := wds [x0, x1, x2, x3]) a324 rfl (atN (blk0' hB8))) ?_
        refine RL.op (.free rfl) rfl rfl (Does.call rfl e358 (turned_ok _ [x0, x1, x2, x3] hW)) ?_
        rintro _ w9 ⟨rfl, hg9⟩
        refine RL.op' (.free rfl) rfl (Does.storeN i324 rfl rfl (by simp [Value.cells, invS]) (by simp [Value.cells, Value.oneCell', invS]) (hR8.mod hg9 (fun h => h)) (by decide)) ?_
        rintro _ w10 ⟨hb10, hm10, _⟩
        refine RL.done ?_
        refine RK.ret_of Tryz.func357 (resC (cs := wds (invS [x0, x1, x2, x3])) rfl rfl a324 hb10) ?_ _
        exact ⟨_, rfl, invS [x0, x1, x2, x3], k, true, rfl, hW.inv, by omega, (hP8'.mod hg9 (fun h => h)).mod hm10 (by omega), by subst h64; rw [hcl, hTe]; rfl, (((Mod.any' hg2 : Mod (· = p) w w2).then hM8 (fun b hb e => e.elim (fun e => e) (fun e => by omega))).trans (Mod.any' hg9)).then hm10 (fun b hb e => by have e' : b = b2 := e; omega)⟩
      · refine RK.skip ?_
        refine RK.seq ?_
        refine RK.region ?_
        refine RL.q (.free rfl) rfl rfl (Yld.loadN (cs := wds [x0, x1, x2, x3]) a324 rfl (atN (blk0' hB8))) ?_
        refine RL.op' (.free rfl) rfl (Does.storeN i324 rfl rfl (by simp [Value.cells]) (by simp [Value.cells, Value.oneCell']) hR8 (by decide)) ?_
        rintro _ w10 ⟨hb10, hm10, _⟩
        refine RL.done ?_
        refine RK.ret_of Tryz.func357 (resC (cs := wds [x0, x1, x2, x3]) rfl rfl a324 hb10) ?_ _
        exact ⟨_, rfl, [x0, x1, x2, x3], k, true, rfl, hW, by omega, hP8'.mod hm10 (by omega), by have h64' : no = false := (by simpa using h64); subst h64'; rw [hcl, hTe]; rfl, ((Mod.any' hg2 : Mod (· = p) w w2).then hM8 (fun b hb e => e.elim (fun e => e) (fun e => by omega))).then hm10 (fun b hb e => by have e' : b = b2 := e; omega)⟩
end Go.Proofs.YtnnmgfnhblbolaaGreatDoor
