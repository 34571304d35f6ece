/- What the claim stands on, part 1. Of own lemmas only those that it reaches. -/
import Derived.Test.YthbjfhhiajihfaaGreatKv0
set_option linter.unusedVariables false
set_option linter.unusedSimpArgs false
set_option maxHeartbeats 400000
namespace Go.Rex
inductive Rx where
  | set (s : List Nat)
  | node (op : Nat) (l : Rx)
  | nil
  | cons (x l : Rx)
  deriving DecidableEq, Inhabited
inductive Rt (R : Nat → Nat → Prop) : Nat → Nat → Prop where
  | refl (i : Nat) : Rt R i i
  | step {i k j : Nat} : R i k → Rt R k j → Rt R i j
def Lg (H : List Nat → Nat → Prop) : Rx → Bool → Nat → Nat → Prop
  | .set s, _, i, j => H s i ∧ j = i + 1
  | .node op l, _, i, j => if op = 2 then Lg H l true i j else if op = 3 then Lg H l false i j else if op = 4 then Rt (Lg H l true) i j else if op = 5 then ∃ k, Lg H l true i k ∧ Rt (Lg H l true) k j else i = j ∨ Lg H l true i j
  | .nil, b, i, j => b = true ∧ i = j
  | .cons x l, b, i, j => if b = true then ∃ k, Lg H x true i k ∧ Lg H l true k j else Lg H x true i j ∨ Lg H l false i j
def cnt : Rx → Nat
  | .cons _ l => cnt l + 1
  | _ => 0
def sz : Rx → Nat
  | .set _ => 1
  | .node op l => if op = 2 then sz l else if op = 3 then sz l + 2 * (cnt l - 1) else if op = 4 then sz l + 2 else sz l + 1
  | .nil => 0
  | .cons x l => sz x + sz l
structure Stp where
  op : Nat
  set : List Nat
  a : Nat
  b : Nat
  deriving DecidableEq, Inhabited
def byteS (s : List Nat) : Stp := ⟨1, s, 0, 0⟩
def zero4 : List Nat := [0, 0, 0, 0]
def splitS (a b : Nat) : Stp := ⟨2, zero4, a, b⟩
def jumpS (a : Nat) : Stp := ⟨3, zero4, a, 0⟩
def matchS : Stp := ⟨4, zero4, 0, 0⟩
def code : Rx → Option Nat → Nat → List Stp
  | .set s, _, _ => [byteS s]
  | .node op l, _, p => if op = 2 then code l none p else if op = 3 then code l (some (p + (sz l + 2 * (cnt l - 1)))) p else if op = 4 then splitS (p + 1) (p + 2 + sz l) :: (code l none (p + 1) ++ [jumpS p]) else if op = 5 then code l none p ++ [splitS p (p + sz l + 1)] else splitS (p + 1) (p + 1 + sz l) :: code l none (p + 1)
  | .nil, _, _ => []
  | .cons x l, none, p => code x none p ++ code l none (p + sz x)
  | .cons x l, some e, p => if l = .nil then code x none p else splitS (p + 1) (p + 2 + sz x) :: (code x none (p + 1) ++ jumpS e :: code l (some e) (p + 2 + sz x))
def Wf : Rx → Prop
  | .set _ => True
  | .node op l => Wf l ∧ (op = 3 → cnt l ≠ 0)
  | .nil => True
  | .cons x l => Wf x ∧ Wf l
def Ls : Rx → Prop
  | .set _ => False
  | .node _ _ => False
  | .nil => True
  | .cons _ l => Ls l
def Wl : Rx → Prop
  | .set _ => True
  | .node _ l => Ls l ∧ Wl l
  | .nil => True
  | .cons x l => Wl x ∧ Wl l ∧ Ls l
theorem ls_nil {l : Rx} (h : Ls l) (hc : cnt l = 0) : l = .nil := by
  cases l with
  | set => exact h.elim
  | node => exact h.elim
  | nil => rfl
  | cons => simp [cnt] at hc
theorem code_len (x : Rx) : Wf x → Wl x → ∀ p, (code x none p).length = sz x ∧ ∀ e, Ls x → cnt x ≠ 0 → (code x (some e) p).length = sz x + 2 * (cnt x - 1) := by
  induction x with
  | set s => intro _ _ p; exact ⟨rfl, fun e h => h.elim⟩
  | nil => intro _ _ p; exact ⟨rfl, fun e _ h => absurd rfl h⟩
  | node op l ih =>
    intro hw hl p
    refine ⟨?_, fun e h => h.elim⟩
    have h1 := ih hw.1 hl.2
    simp only [code, sz]
    split
    · exact (h1 p).1
    · split
      · rename_i h2 h3; exact (h1 p).2 _ hl.1 (hw.2 h3)
      · split
        · simp [(h1 (p + 1)).1]
        · split
          · simp [(h1 p).1]
          · simp [(h1 (p + 1)).1]
  | cons x l ihx ihl =>
    intro hw hl p
    have hx := ihx hw.1 hl.1
    have h2 := ihl hw.2 hl.2.1
    refine ⟨by simp [code, sz, (hx p).1, (h2 _).1], fun e _ _ => ?_⟩
    simp only [code]
    split
    · rename_i h; subst h; simp [sz, cnt, (hx p).1]
    · rename_i h
      have hc : cnt l ≠ 0 := fun hc => h (ls_nil hl.2.2 hc)
      simp only [List.length_cons, List.length_append, (hx _).1, (h2 _).2 e hl.2.2 hc, sz, cnt]
      omega
def Seg (P : List Stp) (p : Nat) (l : List Stp) : Prop := ∀ k st, l[k]? = some st → P[p + k]? = some st
theorem Seg.append {P : List Stp} {p : Nat} {l1 l2 : List Stp} (h : Seg P p (l1 ++ l2)) : Seg P p l1 ∧ Seg P (p + l1.length) l2 := by
  refine ⟨fun k st hk => h k st ?_, fun k st hk => ?_⟩
  · rw [List.getElem?_append_left (List.getElem?_eq_some_iff.1 hk).1]; exact hk
  · have := h (l1.length + k) st (by rw [List.getElem?_append_right (by omega), Nat.add_sub_cancel_left]; exact hk)
    rwa [← Nat.add_assoc] at this
theorem Seg.cons {P : List Stp} {p : Nat} {s : Stp} {l : List Stp} (h : Seg P p (s :: l)) : P[p]? = some s ∧ Seg P (p + 1) l :=
  ⟨h 0 s rfl, fun k st hk => by have := h (k + 1) st (by simpa using hk); rwa [show p + (k + 1) = p + 1 + k by omega] at this⟩
inductive Go1 (P : List Stp) (H : List Nat → Nat → Prop) : Nat → Nat → Nat → Nat → Prop where
  | byte {c i : Nat} {st : Stp} : P[c]? = some st → st.op = 1 → H st.set i → Go1 P H c i (c + 1) (i + 1)
  | left {c i : Nat} {st : Stp} : P[c]? = some st → st.op = 2 → Go1 P H c i st.a i
  | right {c i : Nat} {st : Stp} : P[c]? = some st → st.op = 2 → Go1 P H c i st.b i
  | jump {c i : Nat} {st : Stp} : P[c]? = some st → st.op = 3 → Go1 P H c i st.a i
inductive Rn (P : List Stp) (H : List Nat → Nat → Prop) : Nat → Nat → Nat → Nat → Nat → Prop where
  | zero (c i : Nat) : Rn P H 0 c i c i
  | step {n c i c' i' d j : Nat} : Go1 P H c i c' i' → Rn P H n c' i' d j → Rn P H (n + 1) c i d j
def Re (P : List Stp) (H : List Nat → Nat → Prop) (c i d j : Nat) : Prop := ∃ n, Rn P H n c i d j
section
variable {P : List Stp} {H : List Nat → Nat → Prop}
theorem Re.refl (c i : Nat) : Re P H c i c i := ⟨0, .zero c i⟩
theorem Re.step {c i c' i' d j : Nat} (h : Go1 P H c i c' i') (h2 : Re P H c' i' d j) : Re P H c i d j := let ⟨n, hn⟩ := h2; ⟨n + 1, .step h hn⟩
theorem Re.trans {c i c' i' d j : Nat} (h : Re P H c i c' i') (h2 : Re P H c' i' d j) : Re P H c i d j := by
  obtain ⟨n, hn⟩ := h
  induction hn with
  | zero => exact h2
  | step h _ ih => exact .step h (ih h2)
theorem fwd (x : Rx) : Wf x → Wl x → ∀ p i j, (Seg P p (code x none p) → Lg H x true i j → Re P H p i (p + sz x) j) ∧ (∀ e, Ls x → cnt x ≠ 0 → e = p + (sz x + 2 * (cnt x - 1)) → Seg P p (code x (some e) p) → Lg H x false i j → Re P H p i e j) := by
  induction x with
  | set s =>
    intro _ _ p i j
    refine ⟨fun hs h => ?_, fun e h => h.elim⟩
    obtain ⟨h1, rfl⟩ := h
    exact .step (.byte hs.cons.1 rfl h1) (.refl _ _)
  | nil =>
    intro _ _ p i j
    refine ⟨fun hs h => ?_, fun e _ h => absurd rfl h⟩
    obtain ⟨_, rfl⟩ := h
    exact .refl _ _
  | node op l ih =>
    intro hw hl p i j
    refine ⟨fun hs h => ?_, fun e h => h.elim⟩
    have h1 := ih hw.1 hl.2
    simp only [code] at hs
    simp only [Lg] at h
    simp only [sz]
    split at hs
    · rename_i e
      rw [if_pos e] at h ⊢
      exact (h1 p i j).1 hs h
    · rename_i n2
      rw [if_neg n2] at h ⊢
      split at hs
      · rename_i e
        rw [if_pos e] at h ⊢
        exact (h1 p i j).2 _ hl.1 (hw.2 e) rfl hs h
      · rename_i n3
        rw [if_neg n3] at h ⊢
        split at hs
        · rename_i e
          rw [if_pos e] at h ⊢
          obtain ⟨hs1, hs2⟩ := hs.cons
          obtain ⟨hs2, hs3⟩ := hs2.append
          rw [(code_len l hw.1 hl.2 _).1] at hs3
          induction h with
          | refl i => exact .step (.right hs1 rfl) (by show Re P H (p + 2 + sz l) i _ i; rw [show p + 2 + sz l = p + (sz l + 2) by omega]; exact .refl _ _)
          | step h _ ih2 => exact .step (.left hs1 rfl) (((h1 (p + 1) _ _).1 hs2 h).trans (.step (.jump hs3.cons.1 rfl) ih2))
        · rename_i n4
          rw [if_neg n4] at h ⊢
          split at hs
          · rename_i e
            rw [if_pos e] at h
            obtain ⟨hs2, hs3⟩ := hs.append
            rw [(code_len l hw.1 hl.2 _).1] at hs3
            obtain ⟨k, hk, hr⟩ := h
            refine ((h1 p _ _).1 hs2 hk).trans ?_
            clear hk
            induction hr with
            | refl i => exact .step (.right hs3.cons.1 rfl) (.refl _ _)
            | step h _ ih2 => exact .step (.left hs3.cons.1 rfl) (((h1 p _ _).1 hs2 h).trans ih2)
          · rename_i n5
            rw [if_neg n5] at h
            obtain ⟨hs1, hs2⟩ := hs.cons
            rcases h with rfl | h
            · exact .step (.right hs1 rfl) (by show Re P H (p + 1 + sz l) i _ i; rw [show p + 1 + sz l = p + (sz l + 1) by omega]; exact .refl _ _)
            · exact .step (.left hs1 rfl) (by have := (h1 (p + 1) _ _).1 hs2 h; rwa [show p + 1 + sz l = p + (sz l + 1) by omega] at this)
  | cons x l ihx ihl =>
    intro hw hl p i j
    have hx := ihx hw.1 hl.1
    have h2 := ihl hw.2 hl.2.1
    refine ⟨fun hs h => ?_, fun e _ _ he hs h => ?_⟩
    · simp only [code] at hs
      obtain ⟨hs1, hs2⟩ := hs.append
      rw [(code_len x hw.1 hl.1 _).1] at hs2
      simp only [Lg, if_true] at h
      obtain ⟨k, ha, hb⟩ := h
      have := ((hx p i k).1 hs1 ha).trans ((h2 _ k j).1 hs2 hb)
      simpa only [sz, Nat.add_assoc] using this
    · simp only [code] at hs
      simp only [Lg, Bool.false_eq_true, if_false] at h
      split at hs
      · rename_i hn
        subst hn
        rcases h with h | h
        · have := (hx p i j).1 hs h
          rw [he]
          simpa [sz, cnt] using this
        · exact absurd h.1 (by decide)
      · rename_i hn
        have hc : cnt l ≠ 0 := fun hc => hn (ls_nil hl.2.2 hc)
        obtain ⟨hs1, hs2⟩ := hs.cons
        obtain ⟨hs2, hs3⟩ := hs2.append
        rw [(code_len x hw.1 hl.1 _).1] at hs3
        obtain ⟨hs3, hs4⟩ := hs3.cons
        rcases h with h | h
        · exact .step (.left hs1 rfl) (((hx (p + 1) i j).1 hs2 h).trans (.step (.jump hs3 rfl) (.refl _ _)))
        · refine .step (.right hs1 rfl) ?_
          show Re P H (p + 2 + sz x) i e j
          rw [show p + 1 + sz x + 1 = p + 2 + sz x by omega] at hs4
          exact (h2 _ i j).2 e hl.2.2 hc (by simp only [sz, cnt] at he; omega) hs4 h
theorem Rn.inv {n c i d j : Nat} (h : Rn P H n c i d j) (hne : c ≠ d) : ∃ m c' i', n = m + 1 ∧ Go1 P H c i c' i' ∧ Rn P H m c' i' d j := by
  cases h with
  | zero => exact absurd rfl hne
  | step h1 h2 => exact ⟨_, _, _, rfl, h1, h2⟩
theorem Go1.of {c i c' i' : Nat} {st : Stp} (h : Go1 P H c i c' i') (hs : P[c]? = some st) : (st.op = 1 ∧ H st.set i ∧ c' = c + 1 ∧ i' = i + 1) ∨ (st.op = 2 ∧ i' = i ∧ (c' = st.a ∨ c' = st.b)) ∨ (st.op = 3 ∧ i' = i ∧ c' = st.a) := by
  cases h with
  | byte a b d => rw [hs] at a; cases a; exact .inl ⟨b, d, rfl, rfl⟩
  | left a b => rw [hs] at a; cases a; exact .inr (.inl ⟨b, rfl, .inl rfl⟩)
  | right a b => rw [hs] at a; cases a; exact .inr (.inl ⟨b, rfl, .inr rfl⟩)
  | jump a b => rw [hs] at a; cases a; exact .inr (.inr ⟨b, rfl, rfl⟩)
theorem Go1.split {c i c' i' a b : Nat} (h : Go1 P H c i c' i') (hs : P[c]? = some (splitS a b)) : i' = i ∧ (c' = a ∨ c' = b) := by
  rcases h.of hs with ⟨h1, _⟩ | ⟨_, h2, h3⟩ | ⟨h1, _⟩
  · exact absurd h1 (fun h => by cases h)
  · exact ⟨h2, h3⟩
  · exact absurd h1 (fun h => by cases h)
theorem Go1.jumped {c i c' i' a : Nat} (h : Go1 P H c i c' i') (hs : P[c]? = some (jumpS a)) : i' = i ∧ c' = a := by
  rcases h.of hs with ⟨h1, _⟩ | ⟨h1, _⟩ | ⟨_, h2, h3⟩
  · exact absurd h1 (fun h => by cases h)
  · exact absurd h1 (fun h => by cases h)
  · exact ⟨h2, h3⟩
theorem bwd (x : Rx) : Wf x → Wl x → ∀ p n i d j, (Seg P p (code x none p) → Rn P H n p i d j → (d < p ∨ p + sz x ≤ d) → ∃ m k, m ≤ n ∧ Lg H x true i k ∧ Rn P H m (p + sz x) k d j) ∧ (∀ e, Ls x → cnt x ≠ 0 → e = p + (sz x + 2 * (cnt x - 1)) → Seg P p (code x (some e) p) → Rn P H n p i d j → (d < p ∨ e ≤ d) → ∃ m k, m ≤ n ∧ Lg H x false i k ∧ Rn P H m e k d j) := by
  induction x with
  | set s =>
    intro _ _ p n i d j
    refine ⟨fun hs h hd => ?_, fun e h => h.elim⟩
    have hd' : p ≠ d := by simp only [sz] at hd; omega
    obtain ⟨m, c', i', rfl, h1, h2⟩ := h.inv hd'
    rcases h1.of hs.cons.1 with ⟨_, h3, rfl, rfl⟩ | ⟨h3, _⟩ | ⟨h3, _⟩
    · exact ⟨m, i + 1, by omega, ⟨h3, rfl⟩, h2⟩
    · exact absurd h3 (fun h => by cases h)
    · exact absurd h3 (fun h => by cases h)
  | nil =>
    intro _ _ p n i d j
    exact ⟨fun hs h hd => ⟨n, i, Nat.le_refl _, ⟨rfl, rfl⟩, h⟩, fun e _ h => absurd rfl h⟩
  | node op l ih =>
    intro hw hl p n i d j
    refine ⟨fun hs h hd => ?_, fun e h => h.elim⟩
    have h1 := ih hw.1 hl.2
    simp only [code] at hs
    simp only [Lg]
    simp only [sz] at hd ⊢
    split at hs
    · rename_i e
      rw [if_pos e] at hd ⊢
      simp only [if_pos e]
      exact (h1 p n i d j).1 hs h hd
    · rename_i n2
      rw [if_neg n2] at hd ⊢
      simp only [if_neg n2]
      split at hs
      · rename_i e
        rw [if_pos e] at hd ⊢
        simp only [if_pos e]
        exact (h1 p n i d j).2 _ hl.1 (hw.2 e) rfl hs h hd
      · rename_i n3
        rw [if_neg n3] at hd ⊢
        simp only [if_neg n3]
        split at hs
        · rename_i e
          rw [if_pos e] at hd ⊢
          simp only [if_pos e]
          obtain ⟨hs1, hs2⟩ := hs.cons
          obtain ⟨hs2, hs3⟩ := hs2.append
          rw [(code_len l hw.1 hl.2 _).1] at hs3
          induction n using Nat.strongRecOn generalizing i with
          | _ n ih2 =>
            obtain ⟨m, c', i', rfl, g1, g2⟩ := h.inv (by omega)
            obtain ⟨rfl, rfl | rfl⟩ := g1.split hs1
            · obtain ⟨m2, k, hm2, hk, g3⟩ := (h1 (p + 1) m i' d j).1 hs2 g2 (by omega)
              obtain ⟨m3, c3, i3, rfl, g4, g5⟩ := g3.inv (by omega)
              obtain ⟨rfl, rfl⟩ := g4.jumped hs3.cons.1
              obtain ⟨m4, k4, hm4, hk4, g6⟩ := ih2 m3 (by omega) i3 g5
              exact ⟨m4, k4, by omega, .step hk hk4, g6⟩
            · exact ⟨m, i', by omega, .refl _, by rwa [show p + 2 + sz l = p + (sz l + 2) by omega] at g2⟩
        · rename_i n4
          rw [if_neg n4] at hd ⊢
          simp only [if_neg n4]
          split at hs
          · rename_i e
            simp only [if_pos e]
            obtain ⟨hs2, hs3⟩ := hs.append
            rw [(code_len l hw.1 hl.2 _).1] at hs3
            induction n using Nat.strongRecOn generalizing i with
            | _ n ih2 =>
              obtain ⟨m2, k, hm2, hk, g3⟩ := (h1 p n i d j).1 hs2 h (by omega)
              obtain ⟨m3, c3, i3, rfl, g4, g5⟩ := g3.inv (by omega)
              obtain ⟨rfl, rfl | rfl⟩ := g4.split hs3.cons.1
              · obtain ⟨m4, k4, hm4, ⟨k5, hk5, hr⟩, g6⟩ := ih2 m3 (by omega) i3 g5
                exact ⟨m4, k4, by omega, ⟨i3, hk, .step hk5 hr⟩, g6⟩
              · exact ⟨m3, i3, by omega, ⟨i3, hk, .refl _⟩, g5⟩
          · rename_i n5
            simp only [if_neg n5]
            obtain ⟨hs1, hs2⟩ := hs.cons
            obtain ⟨m, c', i', rfl, g1, g2⟩ := h.inv (by omega)
            obtain ⟨rfl, rfl | rfl⟩ := g1.split hs1
            · obtain ⟨m2, k, hm2, hk, g3⟩ := (h1 (p + 1) m i' d j).1 hs2 g2 (by omega)
              exact ⟨m2, k, by omega, .inr hk, by rwa [show p + 1 + sz l = p + (sz l + 1) by omega] at g3⟩
            · exact ⟨m, i', by omega, .inl rfl, by rwa [show p + 1 + sz l = p + (sz l + 1) by omega] at g2⟩
  | cons x l ihx ihl =>
    intro hw hl p n i d j
    have hx := ihx hw.1 hl.1
    have h2 := ihl hw.2 hl.2.1
    refine ⟨fun hs h hd => ?_, fun e _ _ he hs h hd => ?_⟩
    · simp only [code] at hs
      simp only [sz] at hd ⊢
      obtain ⟨hs1, hs2⟩ := hs.append
      rw [(code_len x hw.1 hl.1 _).1] at hs2
      obtain ⟨m, k, hm, hk, g1⟩ := (hx p n i d j).1 hs1 h (by omega)
      obtain ⟨m2, k2, hm2, hk2, g2⟩ := (h2 _ m k d j).1 hs2 g1 (by omega)
      exact ⟨m2, k2, by omega, by simp only [Lg, if_true]; exact ⟨k, hk, hk2⟩, by rwa [Nat.add_assoc] at g2⟩
    · simp only [code] at hs
      simp only [Lg, Bool.false_eq_true, if_false]
      simp only [sz, cnt] at he
      split at hs
      · rename_i hn
        subst hn
        simp only [sz, cnt] at he
        obtain ⟨m, k, hm, hk, g1⟩ := (hx p n i d j).1 hs h (by omega)
        exact ⟨m, k, hm, .inl hk, by rwa [show e = p + sz x by omega]⟩
      · rename_i hn
        have hc : cnt l ≠ 0 := fun hc => hn (ls_nil hl.2.2 hc)
        obtain ⟨hs1, hs2⟩ := hs.cons
        obtain ⟨hs2, hs3⟩ := hs2.append
        rw [(code_len x hw.1 hl.1 _).1] at hs3
        obtain ⟨hs3, hs4⟩ := hs3.cons
        rw [show p + 1 + sz x + 1 = p + 2 + sz x by omega] at hs4
        obtain ⟨m, c', i', rfl, g1, g2⟩ := h.inv (by omega)
        obtain ⟨rfl, rfl | rfl⟩ := g1.split hs1
        · obtain ⟨m2, k, hm2, hk, g3⟩ := (hx (p + 1) m i' d j).1 hs2 g2 (by omega)
          obtain ⟨m3, c3, i3, rfl, g4, g5⟩ := g3.inv (by omega)
          obtain ⟨rfl, rfl⟩ := g4.jumped hs3
          exact ⟨m3, i3, by omega, .inl hk, g5⟩
        · obtain ⟨m2, k, hm2, hk, g3⟩ := (h2 _ m i' d j).2 e hl.2.2 hc (by omega) hs4 g2 (by omega)
          exact ⟨m2, k, by omega, .inr hk, g3⟩
end
def whole (x : Rx) : List Stp := code x none 0 ++ [matchS]
theorem whole_len {x : Rx} (hw : Wf x) (hl : Wl x) : (whole x).length = sz x + 1 := by simp [whole, (code_len x hw hl 0).1]
theorem accepts {H : List Nat → Nat → Prop} {x : Rx} (hw : Wf x) (hl : Wl x) (j : Nat) : Re (whole x) H 0 0 (sz x) j ↔ Lg H x true 0 j := by
  have hs : Seg (whole x) 0 (code x none 0) := fun k st hk => by
    rw [Nat.zero_add]; unfold whole
    rw [List.getElem?_append_left (List.getElem?_eq_some_iff.1 hk).1]; exact hk
  constructor
  · rintro ⟨n, hn⟩
    obtain ⟨m, k, _, hk, g⟩ := (bwd x hw hl 0 n 0 (sz x) j).1 hs hn (by omega)
    rw [Nat.zero_add] at g
    cases g with
    | zero => exact hk
    | step g1 _ =>
      have hm : (whole x)[sz x]? = some matchS := by
        unfold whole
        rw [List.getElem?_append_right (by rw [(code_len x hw hl 0).1]; exact Nat.le_refl _), (code_len x hw hl 0).1]
        simp
      rcases g1.of hm with ⟨h, _⟩ | ⟨h, _⟩ | ⟨h, _⟩ <;> exact absurd h (fun h => by cases h)
  · intro h
    have := (fwd (P := whole x) (H := H) x hw hl 0 0 j).1 hs h
    rwa [Nat.zero_add] at this
end Go.Rex
set_option linter.unusedVariables false
set_option linter.unusedSimpArgs false
set_option maxHeartbeats 400000
namespace Go.Rex
def E1 (P : List Stp) (c d : Nat) : Prop := ∃ st, P[c]? = some st ∧ (st.op = 2 ∧ (d = st.a ∨ d = st.b) ∨ st.op = 3 ∧ d = st.a)
def Leaf (P : List Stp) (c : Nat) : Prop := ∃ st, P[c]? = some st ∧ st.op ≠ 2 ∧ st.op ≠ 3
structure Come (P : List Stp) (at_ been r been' : Nat) : Prop where
  sub : ∀ v, been.testBit v = true → been'.testBit v = true
  here : been'.testBit at_ = true
  sound : ∀ v, been'.testBit v = true → been.testBit v = true ∨ Rt (E1 P) at_ v
  closed : ∀ v, been'.testBit v = true → been.testBit v = false → ∀ u, E1 P v u → been'.testBit u = true
  ret : ∀ v, r.testBit v = true ↔ been'.testBit v = true ∧ been.testBit v = false ∧ Leaf P v
section
variable {P : List Stp}
theorem Come.there {c been : Nat} (h : been.testBit c = true) : Come P c been 0 been :=
  ⟨fun _ h => h, h, fun _ h => .inl h, fun v h1 h2 => (by rw [h1] at h2; cases h2), fun v => (by
    constructor
    · intro h; simp at h
    · rintro ⟨h1, h2, _⟩; rw [h1] at h2; cases h2)⟩
theorem bit_or {b c v : Nat} : (b ||| 1 <<< c).testBit v = true ↔ b.testBit v = true ∨ v = c := by
  rw [Nat.testBit_or, Nat.one_shiftLeft, Nat.testBit_two_pow, Bool.or_eq_true, decide_eq_true_eq]
  constructor <;> rintro (h | h) <;> simp [h]
theorem bit_or' {b c v : Nat} : (b ||| 1 <<< c).testBit v = false ↔ b.testBit v = false ∧ v ≠ c := by
  rw [← Bool.not_eq_true, bit_or, not_or, Bool.not_eq_true]
theorem bit_one {c v : Nat} : (1 <<< c).testBit v = true ↔ v = c := by
  have := bit_or (b := 0) (c := c) (v := v)
  simpa using this
theorem Come.leaf {c been : Nat} (h : been.testBit c = false) (hl : Leaf P c) : Come P c been (1 <<< c) (been ||| 1 <<< c) := by
  obtain ⟨st, h1, h2, h3⟩ := hl
  refine ⟨fun v hv => bit_or.2 (.inl hv), bit_or.2 (.inr rfl), fun v hv => ?_, fun v hv hn u hu => ?_, fun v => ?_⟩
  · rcases bit_or.1 hv with h | rfl
    · exact .inl h
    · exact .inr (.refl _)
  · rcases bit_or.1 hv with h' | rfl
    · rw [h'] at hn; cases hn
    · obtain ⟨s2, g1, g2⟩ := hu
      rw [h1] at g1; cases g1
      rcases g2 with ⟨g, _⟩ | ⟨g, _⟩
      · exact absurd g h2
      · exact absurd g h3
  · rw [bit_one]
    constructor
    · rintro rfl; exact ⟨bit_or.2 (.inr rfl), h, st, h1, h2, h3⟩
    · rintro ⟨a, b, _⟩
      rcases bit_or.1 a with h' | h'
      · rw [h'] at b; cases b
      · exact h'
theorem Come.jump {c been r b' : Nat} {st : Stp} (h : been.testBit c = false) (hs : P[c]? = some st) (ho : st.op = 3) (h1 : Come P st.a (been ||| 1 <<< c) r b') : Come P c been r b' := by
  have he : E1 P c st.a := ⟨st, hs, .inr ⟨ho, rfl⟩⟩
  refine ⟨fun v hv => h1.sub v (bit_or.2 (.inl hv)), h1.sub _ (bit_or.2 (.inr rfl)), fun v hv => ?_, fun v hv hn u hu => ?_, fun v => ?_⟩
  · rcases h1.sound v hv with h' | h'
    · rcases bit_or.1 h' with h' | rfl
      · exact .inl h'
      · exact .inr (.refl _)
    · exact .inr (.step he h')
  · by_cases e : v = c
    · subst e
      obtain ⟨s2, g1, g2⟩ := hu
      rw [hs] at g1; cases g1
      rcases g2 with ⟨g, _⟩ | ⟨_, rfl⟩
      · rw [ho] at g; cases g
      · exact h1.here
    · exact h1.closed v hv (bit_or'.2 ⟨hn, e⟩) u hu
  · rw [h1.ret]
    constructor
    · rintro ⟨a, b, d⟩; exact ⟨a, (bit_or'.1 b).1, d⟩
    · rintro ⟨a, b, d⟩
      refine ⟨a, bit_or'.2 ⟨b, ?_⟩, d⟩
      rintro rfl
      obtain ⟨s2, g1, g2, g3⟩ := d
      rw [hs] at g1; cases g1
      exact g3 ho
theorem Come.split {c been r1 b1 r2 b2 : Nat} {st : Stp} (h : been.testBit c = false) (hs : P[c]? = some st) (ho : st.op = 2) (h1 : Come P st.a (been ||| 1 <<< c) r1 b1) (h2 : Come P st.b b1 r2 b2) : Come P c been (r1 ||| r2) b2 := by
  have hea : E1 P c st.a := ⟨st, hs, .inl ⟨ho, .inl rfl⟩⟩
  have heb : E1 P c st.b := ⟨st, hs, .inl ⟨ho, .inr rfl⟩⟩
  refine ⟨fun v hv => h2.sub v (h1.sub v (bit_or.2 (.inl hv))), h2.sub _ (h1.sub _ (bit_or.2 (.inr rfl))), fun v hv => ?_, fun v hv hn u hu => ?_, fun v => ?_⟩
  · rcases h2.sound v hv with h' | h'
    · rcases h1.sound v h' with h' | h'
      · rcases bit_or.1 h' with h' | rfl
        · exact .inl h'
        · exact .inr (.refl _)
      · exact .inr (.step hea h')
    · exact .inr (.step heb h')
  · by_cases e : v = c
    · subst e
      obtain ⟨s2, g1, g2⟩ := hu
      rw [hs] at g1; cases g1
      rcases g2 with ⟨_, rfl | rfl⟩ | ⟨g, _⟩
      · exact h2.sub _ h1.here
      · exact h2.here
      · rw [ho] at g; cases g
    · cases hb : b1.testBit v with
      | true => exact h2.sub _ (h1.closed v hb (bit_or'.2 ⟨hn, e⟩) u hu)
      | false => exact h2.closed v hv hb u hu
  · rw [Nat.testBit_or, Bool.or_eq_true, h1.ret, h2.ret]
    constructor
    · rintro (⟨a, b, d⟩ | ⟨a, b, d⟩)
      · exact ⟨h2.sub _ a, (bit_or'.1 b).1, d⟩
      · refine ⟨a, ?_, d⟩
        cases hv : been.testBit v with
        | false => rfl
        | true => rw [h1.sub v (bit_or.2 (.inl hv))] at b; cases b
    · rintro ⟨a, b, d⟩
      cases hb : b1.testBit v with
      | true =>
        refine .inl ⟨rfl, bit_or'.2 ⟨b, ?_⟩, d⟩
        rintro rfl
        obtain ⟨s2, g1, g2, g3⟩ := d
        rw [hs] at g1; cases g1
        exact g2 ho
      | false => exact .inr ⟨a, rfl, d⟩
def miss (n been : Nat) : Nat := ((List.range n).filter fun v => !been.testBit v).length
theorem miss_lt {n been b' c : Nat} (hc : c < n) (h : been.testBit c = false) (hs : ∀ v, been.testBit v = true → b'.testBit v = true) (h' : b'.testBit c = true) : miss n b' < miss n been := by
  unfold miss
  have key : ∀ l : List Nat, c ∈ l → (l.filter fun v => !b'.testBit v).length < (l.filter fun v => !been.testBit v).length := by
    have le : ∀ l : List Nat, (l.filter fun v => !b'.testBit v).length ≤ (l.filter fun v => !been.testBit v).length := by
      intro l
      induction l with
      | nil => exact Nat.le_refl _
      | cons x l ih =>
        rw [List.filter_cons, List.filter_cons]
        cases hx : been.testBit x with
        | true => simp [hs x hx, ih]
        | false => cases b'.testBit x <;> simp <;> omega
    intro l hl
    induction l with
    | nil => cases hl
    | cons x l ih =>
      rw [List.filter_cons, List.filter_cons]
      rcases List.mem_cons.1 hl with rfl | hl
      · simp only [h, h', Bool.not_true, Bool.not_false, Bool.false_eq_true, if_false, if_true, List.length_cons]
        have := le l
        omega
      · have := ih hl
        cases hx : been.testBit x with
        | true => simp [hs x hx]; omega
        | false => cases b'.testBit x <;> simp <;> omega
  exact key _ (List.mem_range.2 hc)
variable {H : List Nat → Nat → Prop}
def Now (P : List Stp) (H : List Nat → Nat → Prop) (k m : Nat) : Prop := ∀ v, m.testBit v = true ↔ Leaf P v ∧ Re P H 0 0 v k
theorem Re.pos {c i d j : Nat} (h : Re P H c i d j) : i ≤ j := by
  obtain ⟨n, hn⟩ := h
  induction hn with
  | zero => exact Nat.le_refl _
  | step h _ ih => cases h <;> omega
theorem re_eps {c d i : Nat} : Re P H c i d i ↔ Rt (E1 P) c d := by
  constructor
  · rintro ⟨n, hn⟩
    have key : ∀ n c d i j, Rn P H n c i d j → i = j → Rt (E1 P) c d := by
      intro n
      induction n with
      | zero => intro c d i j h e; cases h; exact .refl _
      | succ n ih =>
        intro c d i j h e
        cases h with
        | step h1 h2 =>
          cases h1 with
          | byte => have := Re.pos ⟨n, h2⟩; omega
          | left a b => exact .step ⟨_, a, .inl ⟨b, .inl rfl⟩⟩ (ih _ _ _ _ h2 e)
          | right a b => exact .step ⟨_, a, .inl ⟨b, .inr rfl⟩⟩ (ih _ _ _ _ h2 e)
          | jump a b => exact .step ⟨_, a, .inr ⟨b, rfl⟩⟩ (ih _ _ _ _ h2 e)
    exact key n c d i i hn rfl
  · intro h
    induction h with
    | refl => exact .refl _ _
    | step h _ ih =>
      obtain ⟨st, hs, ⟨ho, rfl | rfl⟩ | ⟨ho, rfl⟩⟩ := h
      · exact .step (.left hs ho) ih
      · exact .step (.right hs ho) ih
      · exact .step (.jump hs ho) ih
theorem last_byte {c i d k : Nat} (h : Re P H c i d (k + 1)) (hi : i ≤ k) : ∃ e st, P[e]? = some st ∧ st.op = 1 ∧ H st.set k ∧ Re P H c i e k ∧ Rt (E1 P) (e + 1) d := by
  obtain ⟨n, hn⟩ := h
  have key : ∀ n c i d j, Rn P H n c i d j → j = k + 1 → i ≤ k → ∃ e st, P[e]? = some st ∧ st.op = 1 ∧ H st.set k ∧ Re P H c i e k ∧ Rt (E1 P) (e + 1) d := by
    intro n
    induction n with
    | zero => intro c i d j h e hi; cases h; omega
    | succ n ih =>
      intro c i d j h e hi
      cases h with
      | step h1 h2 =>
        cases h1 with
        | @byte st a b hh =>
          by_cases hk : i = k
          · subst hk
            subst e
            exact ⟨c, st, a, b, hh, .refl _ _, re_eps.1 ⟨n, h2⟩⟩
          · obtain ⟨e', st', h3, h4, h5, h6, h7⟩ := ih _ _ _ _ h2 e (by omega)
            exact ⟨e', st', h3, h4, h5, .step (.byte a b hh) h6, h7⟩
        | left a b => obtain ⟨e', st', h3, h4, h5, h6, h7⟩ := ih _ _ _ _ h2 e hi; exact ⟨e', st', h3, h4, h5, .step (.left a b) h6, h7⟩
        | right a b => obtain ⟨e', st', h3, h4, h5, h6, h7⟩ := ih _ _ _ _ h2 e hi; exact ⟨e', st', h3, h4, h5, .step (.right a b) h6, h7⟩
        | jump a b => obtain ⟨e', st', h3, h4, h5, h6, h7⟩ := ih _ _ _ _ h2 e hi; exact ⟨e', st', h3, h4, h5, .step (.jump a b) h6, h7⟩
  exact key n c i d _ hn rfl hi
theorem rt_in {been : Nat} (hc : ∀ v, been.testBit v = true → ∀ u, E1 P v u → been.testBit u = true) {c d : Nat} (h : Rt (E1 P) c d) (h0 : been.testBit c = true) : been.testBit d = true := by
  induction h with
  | refl => exact h0
  | step h _ ih => exact ih (hc _ h0 _ h)
theorem Now.start {r b : Nat} (h : Come P 0 0 r b) : Now P H 0 r := by
  intro v
  rw [h.ret, re_eps]
  constructor
  · rintro ⟨a, _, d⟩
    rcases h.sound v a with h' | h'
    · simp at h'
    · exact ⟨d, h'⟩
  · rintro ⟨d, h'⟩
    exact ⟨rt_in (fun v hv u hu => h.closed v hv (by simp) u hu) h' h.here, by simp, d⟩
structure NextI (P : List Stp) (H : List Nat → Nat → Prop) (m k i been r : Nat) : Prop where
  sound : ∀ v, been.testBit v = true → ∃ c st, m.testBit c = true ∧ P[c]? = some st ∧ st.op = 1 ∧ H st.set k ∧ Rt (E1 P) (c + 1) v
  has : ∀ c st, c < i → m.testBit c = true → P[c]? = some st → st.op = 1 → H st.set k → been.testBit (c + 1) = true
  closed : ∀ v, been.testBit v = true → ∀ u, E1 P v u → been.testBit u = true
  ret : ∀ v, r.testBit v = true ↔ been.testBit v = true ∧ Leaf P v
theorem NextI.zero {m k : Nat} : NextI P H m k 0 0 0 := ⟨by simp, fun c st h => by omega, by simp, by simp⟩
theorem NextI.no {m k i been r : Nat} (h : NextI P H m k i been r) (hn : ∀ st, m.testBit i = true → P[i]? = some st → st.op = 1 → ¬ H st.set k) : NextI P H m k (i + 1) been r :=
  ⟨h.sound, fun c st hc h1 h2 h3 h4 => by
    by_cases e : c = i
    · subst e; exact absurd h4 (hn st h1 h2 h3)
    · exact h.has c st (by omega) h1 h2 h3 h4, h.closed, h.ret⟩
theorem NextI.yes {m k i been r r' b' : Nat} {st : Stp} (h : NextI P H m k i been r) (h1 : m.testBit i = true) (h2 : P[i]? = some st) (h3 : st.op = 1) (h4 : H st.set k) (hc : Come P (i + 1) been r' b') : NextI P H m k (i + 1) b' (r ||| r') := by
  refine ⟨fun v hv => ?_, fun c s2 hc2 g1 g2 g3 g4 => ?_, fun v hv u hu => ?_, fun v => ?_⟩
  · rcases hc.sound v hv with h' | h'
    · exact h.sound v h'
    · exact ⟨i, st, h1, h2, h3, h4, h'⟩
  · by_cases e : c = i
    · subst e; exact hc.here
    · exact hc.sub _ (h.has c s2 (by omega) g1 g2 g3 g4)
  · cases hb : been.testBit v with
    | true => exact hc.sub _ (h.closed v hb u hu)
    | false => exact hc.closed v hv hb u hu
  · rw [Nat.testBit_or, Bool.or_eq_true, h.ret, hc.ret]
    constructor
    · rintro (⟨a, b⟩ | ⟨a, _, b⟩)
      · exact ⟨hc.sub _ a, b⟩
      · exact ⟨a, b⟩
    · rintro ⟨a, b⟩
      cases hb : been.testBit v with
      | true => exact .inl ⟨rfl, b⟩
      | false => exact .inr ⟨a, rfl, b⟩
theorem Now.next {m k been r : Nat} (hm : Now P H k m) (h : NextI P H m k P.length been r) : Now P H (k + 1) r := by
  intro v
  rw [h.ret]
  constructor
  · rintro ⟨a, b⟩
    obtain ⟨c, st, h1, h2, h3, h4, h5⟩ := h.sound v a
    exact ⟨b, ((hm c).1 h1).2.trans (.step (.byte h2 h3 h4) (re_eps.2 h5))⟩
  · rintro ⟨b, g⟩
    obtain ⟨e, st, h1, h2, h3, h4, h5⟩ := last_byte g (Nat.zero_le _)
    have he : m.testBit e = true := (hm e).2 ⟨⟨st, h1, by rw [h2]; decide, by rw [h2]; decide⟩, h4⟩
    exact ⟨rt_in h.closed h5 (h.has e st (List.getElem?_eq_some_iff.1 h1).1 he h1 h2 h3), b⟩
end
def okS (n : Nat) (s : Stp) : Prop := s.op = 1 ∧ s.a = 0 ∧ s.b = 0 ∨ s.op = 2 ∧ s.a < n ∧ s.b < n ∧ s.set = zero4 ∨ s.op = 3 ∧ s.a < n ∧ s.b = 0 ∧ s.set = zero4
theorem okS.mono {n m : Nat} {s : Stp} (h : okS n s) (hm : n ≤ m) : okS m s := by
  rcases h with h | ⟨h1, h2, h3, h4⟩ | ⟨h1, h2, h3, h4⟩
  · exact .inl h
  · exact .inr (.inl ⟨h1, by omega, by omega, h4⟩)
  · exact .inr (.inr ⟨h1, by omega, h3, h4⟩)
theorem code_ok (x : Rx) : Wf x → Wl x → ∀ p, (∀ s ∈ code x none p, okS (p + sz x + 1) s) ∧ ∀ e, Ls x → cnt x ≠ 0 → e = p + (sz x + 2 * (cnt x - 1)) → ∀ s ∈ code x (some e) p, okS (e + 1) s := by
  induction x with
  | set s =>
    intro _ _ p
    refine ⟨fun s hs => ?_, fun e h => h.elim⟩
    simp [code] at hs; subst hs; exact .inl ⟨rfl, rfl, rfl⟩
  | nil => intro _ _ p; exact ⟨fun s hs => by simp [code] at hs, fun e _ h => absurd rfl h⟩
  | node op l ih =>
    intro hw hl p
    refine ⟨fun s hs => ?_, fun e h => h.elim⟩
    have h1 := ih hw.1 hl.2
    simp only [code] at hs
    simp only [sz]
    split at hs
    · rename_i e; rw [if_pos e]; exact (h1 p).1 s hs
    · rename_i n2
      rw [if_neg n2]
      split at hs
      · rename_i e; rw [if_pos e]
        exact (h1 p).2 _ hl.1 (hw.2 e) rfl s hs
      · rename_i n3
        rw [if_neg n3]
        split at hs
        · rename_i e; rw [if_pos e]
          rcases List.mem_cons.1 hs with rfl | hs
          · exact .inr (.inl ⟨rfl, by simp only [splitS]; omega, by simp only [splitS]; omega, rfl⟩)
          · rcases List.mem_append.1 hs with hs | hs
            · exact ((h1 _).1 s hs).mono (by omega)
            · simp at hs; subst hs; exact .inr (.inr ⟨rfl, by simp [jumpS]; omega, rfl, rfl⟩)
        · rename_i n4
          rw [if_neg n4]
          split at hs
          · rcases List.mem_append.1 hs with hs | hs
            · exact ((h1 _).1 s hs).mono (by omega)
            · simp at hs; subst hs; exact .inr (.inl ⟨rfl, by simp only [splitS]; omega, by simp only [splitS]; omega, rfl⟩)
          · rcases List.mem_cons.1 hs with rfl | hs
            · exact .inr (.inl ⟨rfl, by simp only [splitS]; omega, by simp only [splitS]; omega, rfl⟩)
            · exact ((h1 _).1 s hs).mono (by omega)
  | cons x l ihx ihl =>
    intro hw hl p
    have hx := ihx hw.1 hl.1
    have h2 := ihl hw.2 hl.2.1
    refine ⟨fun s hs => ?_, fun e _ _ he s hs => ?_⟩
    · simp only [code] at hs
      simp only [sz]
      rcases List.mem_append.1 hs with hs | hs
      · exact ((hx p).1 s hs).mono (by omega)
      · exact ((h2 _).1 s hs).mono (by omega)
    · simp only [code] at hs
      simp only [sz, cnt] at he
      split at hs
      · rename_i hn
        subst hn
        simp only [sz, cnt] at he
        exact ((hx p).1 s hs).mono (by omega)
      · rename_i hn
        have hc : cnt l ≠ 0 := fun hc => hn (ls_nil hl.2.2 hc)
        rcases List.mem_cons.1 hs with rfl | hs
        · exact .inr (.inl ⟨rfl, by simp only [splitS]; omega, by simp only [splitS]; omega, rfl⟩)
        · rcases List.mem_append.1 hs with hs | hs
          · exact ((hx _).1 s hs).mono (by omega)
          · rcases List.mem_cons.1 hs with rfl | hs
            · exact .inr (.inr ⟨rfl, by simp [jumpS], rfl, rfl⟩)
            · exact ((h2 _).2 e hl.2.2 hc (by omega) s hs)
theorem whole_at {x : Rx} (hw : Wf x) (hl : Wl x) {c : Nat} {st : Stp} (h : (whole x)[c]? = some st) : (c < sz x ∧ okS (sz x + 1) st) ∨ c = sz x ∧ st = matchS := by
  unfold whole at h
  have hlen := (code_len x hw hl 0).1
  by_cases hc : c < sz x
  · rw [List.getElem?_append_left (by omega)] at h
    have := (code_ok x hw hl 0).1 st (List.mem_of_getElem? h)
    rw [Nat.zero_add] at this
    exact .inl ⟨hc, this⟩
  · rw [List.getElem?_append_right (by omega), hlen] at h
    cases hk : c - sz x with
    | zero => rw [hk] at h; simp at h; exact .inr ⟨by omega, h.symm⟩
    | succ q => rw [hk] at h; simp at h
theorem whole_match {x : Rx} (hw : Wf x) (hl : Wl x) {H : List Nat → Nat → Prop} {k m : Nat} (hm : Now (whole x) H k m) : (∃ c st, m.testBit c = true ∧ (whole x)[c]? = some st ∧ st.op = 4) ↔ Lg H x true 0 k := by
  rw [← accepts hw hl]
  constructor
  · rintro ⟨c, st, h1, h2, h3⟩
    rcases whole_at hw hl h2 with ⟨_, h4⟩ | ⟨rfl, _⟩
    · rcases h4 with ⟨h4, _⟩ | ⟨h4, _⟩ | ⟨h4, _⟩ <;> rw [h3] at h4 <;> cases h4
    · exact ((hm _).1 h1).2
  · intro h
    have hlen := (code_len x hw hl 0).1
    have hs : (whole x)[sz x]? = some matchS := by
      unfold whole
      rw [List.getElem?_append_right (by omega), hlen]; simp
    exact ⟨sz x, matchS, (hm _).2 ⟨⟨matchS, hs, by decide, by decide⟩, h⟩, hs, rfl⟩
end Go.Rex
set_option linter.unusedVariables false
set_option linter.unusedSimpArgs false
set_option maxHeartbeats 400000
namespace Go.Rex
open Go.X
def b8 (s : ByteArray) (i : Nat) : Nat := (bt s i).toNat
theorem b8_lt (s : ByteArray) (i : Nat) : b8 s i < 256 := UInt8.toNat_lt _
def setBit (l : List Nat) (c : Nat) : List Nat := l.modify (c / 64) (· ||| 1 <<< (c % 64))
def addG (l : List Nat) (a b : Nat) : List Nat := (List.range' a (b + 1 - a)).foldl setBit l
def invS (l : List Nat) : List Nat := l.map (18446744073709551615 - ·)
theorem setBit_len (l : List Nat) (c : Nat) : (setBit l c).length = l.length := by simp [setBit]
theorem setBit_lt {l : List Nat} (h : ∀ x ∈ l, x < 18446744073709551616) (c : Nat) : ∀ x ∈ setBit l c, x < 18446744073709551616 := by
  intro x hx
  unfold setBit at hx
  obtain ⟨i, hi⟩ := List.getElem?_of_mem hx
  simp only [List.getElem?_modify] at hi
  cases hl : l[i]? with
  | none => simp [hl] at hi
  | some y =>
    have hy := h y (List.mem_of_getElem? hl)
    simp only [hl, Option.map_some] at hi
    split at hi
    · simp at hi
      subst hi
      have h1 : (1 <<< (c % 64)) < 2 ^ 64 := by rw [Nat.shiftLeft_eq, Nat.one_mul]; exact Nat.pow_lt_pow_right (by omega) (Nat.mod_lt _ (by omega))
      exact Nat.or_lt_two_pow (n := 64) hy h1
    · simp at hi; subst hi; exact hy
theorem invS_lt (l : List Nat) : ∀ x ∈ invS l, x < 18446744073709551616 := by
  intro x hx
  obtain ⟨y, _, rfl⟩ := List.mem_map.1 hx
  omega
theorem addG_len (a b : Nat) : ∀ l : List Nat, (addG l a b).length = l.length := by
  unfold addG
  generalize List.range' a (b + 1 - a) = r
  induction r with
  | nil => intro l; rfl
  | cons x r ih => intro l; simp only [List.foldl_cons, ih, setBit_len]
theorem addG_lt (a b : Nat) : ∀ {l : List Nat}, (∀ x ∈ l, x < 18446744073709551616) → ∀ x ∈ addG l a b, x < 18446744073709551616 := by
  unfold addG
  generalize List.range' a (b + 1 - a) = r
  induction r with
  | nil => intro l h; exact h
  | cons x r ih => intro l h; exact ih (setBit_lt h x)
def W4 (l : List Nat) : Prop := l.length = 4 ∧ ∀ x ∈ l, x < 18446744073709551616
theorem W4.zero : W4 zero4 := ⟨rfl, by simp [zero4]⟩
theorem W4.bit {l : List Nat} (h : W4 l) (c : Nat) : W4 (setBit l c) := ⟨(setBit_len l c).trans h.1, setBit_lt h.2 c⟩
theorem W4.add {l : List Nat} (h : W4 l) (a b : Nat) : W4 (addG l a b) := ⟨(addG_len a b l).trans h.1, addG_lt a b h.2⟩
theorem W4.inv {l : List Nat} (h : W4 l) : W4 (invS l) := ⟨by simpa [invS] using h.1, invS_lt l⟩
def quotedS (c : Nat) : Bool := decide (c = 124 ∨ c = 42 ∨ c = 43 ∨ c = 63 ∨ c = 40 ∨ c = 41 ∨ c = 91 ∨ c = 93 ∨ c = 46 ∨ c = 92 ∨ c = 94 ∨ c = 45)
def signS (s : ByteArray) (i : Nat) : Option (Nat × Nat) := if i < s.size ∧ quotedS (b8 s i) = true then some (b8 s i, i + 1) else none
def memS (s : ByteArray) (i : Nat) : Option (Nat × Nat) :=
  if i < s.size then if b8 s i = 92 then signS s (i + 1) else if b8 s i = 93 ∨ b8 s i = 91 ∨ b8 s i = 94 ∨ b8 s i = 45 then none else some (b8 s i, i + 1) else none
def toS (s : ByteArray) (a i : Nat) : Option (Nat × Nat) := if i < s.size ∧ b8 s i = 45 then memS s (i + 1) else some (a, i)
def clsL (s : ByteArray) : Nat → Nat → List Nat → Option (List Nat × Nat)
  | 0, _, _ => none
  | n + 1, i, set => if i < s.size then if b8 s i = 93 then some (set, i + 1) else
      match memS s i with
      | none => none
      | some (a, i1) => match toS s a i1 with
        | none => none
        | some (b, i2) => if b < a then none else clsL s n i2 (addG set a b)
    else none
def notS (s : ByteArray) (i : Nat) : Bool := decide (i < s.size ∧ b8 s i = 94)
def clsB (s : ByteArray) (no : Bool) (i : Nat) : Option (List Nat × Nat) :=
  if i < s.size ∧ b8 s i = 93 then none else match clsL s (s.size + 1) i zero4 with
    | none => none
    | some (set, j) => some (if no then invS set else set, j)
def clsS (s : ByteArray) (i : Nat) : Option (List Nat × Nat) := clsB s (notS s i) (if notS s i then i + 1 else i)
theorem signS_adv {s : ByteArray} {i b j : Nat} (h : signS s i = some (b, j)) : i < j ∧ j ≤ s.size ∧ b < 256 := by
  unfold signS at h
  split at h
  · simp at h; have := b8_lt s i; omega
  · cases h
theorem memS_adv {s : ByteArray} {i b j : Nat} (h : memS s i = some (b, j)) : i < j ∧ j ≤ s.size ∧ b < 256 := by
  unfold memS at h
  split at h
  · split at h
    · have := signS_adv h; omega
    · split at h
      · cases h
      · simp at h; have := b8_lt s i; omega
  · cases h
theorem toS_adv {s : ByteArray} {a i b j : Nat} (h : toS s a i = some (b, j)) (hi : i ≤ s.size) (ha : a < 256) : i ≤ j ∧ j ≤ s.size ∧ b < 256 := by
  unfold toS at h
  split at h
  · have := memS_adv h; omega
  · simp at h; omega
theorem clsL_adv {s : ByteArray} : ∀ {n i : Nat} {set t : List Nat} {j : Nat}, clsL s n i set = some (t, j) → W4 set → i < j ∧ j ≤ s.size ∧ W4 t
  | 0, _, _, _, _, h, _ => by simp [clsL] at h
  | n + 1, i, set, t, j, h, hw => by
    unfold clsL at h
    split at h
    · split at h
      · simp at h; obtain ⟨rfl, rfl⟩ := h; exact ⟨by omega, by omega, hw⟩
      · cases hm : memS s i with
        | none => rw [hm] at h; cases h
        | some p =>
          obtain ⟨a, i1⟩ := p
          rw [hm] at h
          simp only at h
          have h1 := memS_adv hm
          cases ht : toS s a i1 with
          | none => rw [ht] at h; cases h
          | some q =>
            obtain ⟨b, i2⟩ := q
            rw [ht] at h
            simp only at h
            have h2 := toS_adv ht h1.2.1 h1.2.2
            split at h
            · cases h
            · have h3 := clsL_adv h (hw.add a b)
              exact ⟨by omega, h3.2⟩
    · cases h
theorem clsB_adv {s : ByteArray} {no : Bool} {i : Nat} {t : List Nat} {j : Nat} (h : clsB s no i = some (t, j)) : i < j ∧ j ≤ s.size ∧ W4 t := by
  unfold clsB at h
  split at h
  · cases h
  · cases hc : clsL s (s.size + 1) i zero4 with
    | none => rw [hc] at h; cases h
    | some p =>
      obtain ⟨u, k⟩ := p
      rw [hc] at h
      simp only [Option.some.injEq, Prod.mk.injEq] at h
      obtain ⟨rfl, rfl⟩ := h
      have h1 := clsL_adv hc W4.zero
      refine ⟨h1.1, h1.2.1, ?_⟩
      split
      · exact h1.2.2.inv
      · exact h1.2.2
theorem clsS_adv {s : ByteArray} {i : Nat} {t : List Nat} {j : Nat} (h : clsS s i = some (t, j)) : i < j ∧ j ≤ s.size ∧ W4 t := by
  have h1 := clsB_adv h
  refine ⟨?_, h1.2⟩
  have := h1.1
  split at this <;> omega
def lstS : List Rx → Rx
  | [] => .nil
  | x :: l => .cons x (lstS l)
def mkN (op : Nat) : List Rx → Rx
  | [x] => x
  | l => .node op (lstS l)
def onlyS (op : Nat) (x : Rx) : Rx := .node op (.cons x .nil)
def grpS (s : ByteArray) : Option (Rx × Nat) → Option (Rx × Nat)
  | some (x, j) => if j < s.size ∧ b8 s j = 41 then some (x, j + 1) else none
  | none => none
def atomS (s : ByteArray) (g : Nat → Option (Rx × Nat)) (i : Nat) : Option (Rx × Nat) :=
  if b8 s i = 40 then grpS s (g (i + 1)) else if b8 s i = 91 then (clsS s (i + 1)).map (fun p => (.set p.1, p.2))
  else if b8 s i = 46 then some (.set (invS zero4), i + 1) else if b8 s i = 92 then (signS s (i + 1)).map (fun p => (.set (setBit zero4 p.1), p.2))
  else if b8 s i = 42 ∨ b8 s i = 43 ∨ b8 s i = 63 ∨ b8 s i = 93 then none else some (.set (setBit zero4 (b8 s i)), i + 1)
def oftS (s : ByteArray) (x : Rx) (j : Nat) : Rx × Nat :=
  if j < s.size then if b8 s j = 42 then (onlyS 4 x, j + 1) else if b8 s j = 43 then (onlyS 5 x, j + 1) else if b8 s j = 63 then (onlyS 6 x, j + 1) else (x, j) else (x, j)
def factorS (s : ByteArray) (g : Nat → Option (Rx × Nat)) (i : Nat) : Option (Rx × Nat) := (atomS s g i).map fun p => oftS s p.1 p.2
def goesS (s : ByteArray) (i : Nat) : Bool := decide (i < s.size ∧ b8 s i ≠ 124 ∧ b8 s i ≠ 41)
def wayL (s : ByteArray) (g : Nat → Option (Rx × Nat)) : Nat → Nat → List Rx → Option (List Rx × Nat)
  | 0, _, _ => none
  | n + 1, i, acc => if goesS s i then match factorS s g i with
      | none => none
      | some (x, j) => wayL s g n j (acc ++ [x])
    else some (acc, i)
def wayS (s : ByteArray) (g : Nat → Option (Rx × Nat)) (i : Nat) : Option (Rx × Nat) := (wayL s g (s.size + 1) i []).map fun p => (mkN 2 p.1, p.2)
def barS (s : ByteArray) (i : Nat) : Bool := decide (i < s.size ∧ b8 s i = 124)
def waysL (s : ByteArray) (g : Nat → Option (Rx × Nat)) : Nat → Nat → List Rx → Option (List Rx × Nat)
  | 0, _, _ => none
  | n + 1, i, acc => if barS s i then match wayS s g (i + 1) with
      | none => none
      | some (x, j) => waysL s g n j (acc ++ [x])
    else some (acc, i)
def waysS (s : ByteArray) (g : Nat → Option (Rx × Nat)) (i : Nat) : Option (Rx × Nat) := match wayS s g i with
  | none => none
  | some (x, j) => (waysL s g (s.size + 1) j [x]).map fun p => (mkN 3 p.1, p.2)
def par (s : ByteArray) : Nat → Nat → Option (Rx × Nat)
  | 0, i => waysS s (fun _ => none) i
  | r + 1, i => waysS s (par s r) i
def parseS (s : ByteArray) : Option Rx := if 40 < s.size then none else match par s 8 0 with
  | some (x, j) => if j < s.size then none else some x
  | none => none
end Go.Rex
set_option linter.unusedVariables false
set_option linter.unusedSimpArgs false
set_option maxHeartbeats 400000
namespace Go.Rex
open Go.X
def Tr : Bool → Rx → Prop
  | false, .set s => W4 s
  | false, .node op l => (op = 2 ∨ op = 3 ∧ cnt l ≠ 0 ∨ (op = 4 ∨ op = 5 ∨ op = 6) ∧ cnt l = 1) ∧ Tr true l
  | true, .nil => True
  | true, .cons x l => Tr false x ∧ Tr true l
  | true, .set _ => False
  | true, .node _ _ => False
  | false, .nil => False
  | false, .cons _ _ => False
theorem tr_wf : ∀ (x : Rx) (b : Bool), Tr b x → Wf x ∧ Wl x ∧ (b = true → Ls x)
  | .set s, true, h => h.elim
  | .set s, false, h => ⟨trivial, trivial, fun h => by cases h⟩
  | .node op l, true, h => h.elim
  | .node op l, false, h => by
    obtain ⟨h1, h2⟩ := h
    obtain ⟨a, b, c⟩ := tr_wf l true h2
    exact ⟨⟨a, fun e => by subst e; simp at h1; exact h1⟩, ⟨c rfl, b⟩, fun h => by cases h⟩
  | .nil, true, _ => ⟨trivial, trivial, fun _ => trivial⟩
  | .nil, false, h => h.elim
  | .cons x l, false, h => h.elim
  | .cons x l, true, h => by
    obtain ⟨h1, h2⟩ := h
    obtain ⟨a, b, c⟩ := tr_wf l true h2
    obtain ⟨a', b', _⟩ := tr_wf x false h1
    exact ⟨⟨a', a⟩, ⟨b', b, c rfl⟩, fun _ => c rfl⟩
theorem cnt_lst : ∀ l : List Rx, cnt (lstS l) = l.length
  | [] => rfl
  | x :: l => by simp [lstS, cnt, cnt_lst l]
theorem tr_lst : ∀ l : List Rx, (∀ x ∈ l, Tr false x) → Tr true (lstS l)
  | [], _ => trivial
  | x :: l, h => ⟨h x (by simp), tr_lst l fun y hy => h y (by simp [hy])⟩
theorem tr_mk {op : Nat} {l : List Rx} (h : ∀ x ∈ l, Tr false x) (ho : op = 2 ∨ op = 3 ∧ l ≠ []) : Tr false (mkN op l) := by
  match l, h, ho with
  | [], h, ho => exact ⟨by rcases ho with rfl | ⟨_, h⟩; exact .inl rfl; exact absurd rfl h, trivial⟩
  | [x], h, _ => exact h x (by simp)
  | x :: y :: l, h, ho => exact ⟨by rcases ho with rfl | ⟨rfl, _⟩; exact .inl rfl; exact .inr (.inl ⟨rfl, by simp [lstS, cnt]⟩), tr_lst _ h⟩
def GoodG (g : Nat → Option (Rx × Nat)) : Prop := ∀ i x j, g i = some (x, j) → Tr false x
theorem tr_only {op : Nat} {x : Rx} (h : Tr false x) (ho : op = 4 ∨ op = 5 ∨ op = 6) : Tr false (onlyS op x) := ⟨.inr (.inr ⟨ho, rfl⟩), h, trivial⟩
theorem factor_tr {s : ByteArray} {g : Nat → Option (Rx × Nat)} (hg : GoodG g) : GoodG (factorS s g) := by
  have ha : GoodG (atomS s g) := by
    intro i x j h
    unfold atomS at h
    split at h
    · cases hgi : g (i + 1) with
      | none => rw [hgi] at h; cases h
      | some q =>
        obtain ⟨y, k⟩ := q
        rw [hgi] at h
        have h' : (if k < s.size ∧ b8 s k = 41 then some (y, k + 1) else none) = some (x, j) := h
        split at h'
        · simp at h'; obtain ⟨rfl, _⟩ := h'; exact hg _ _ _ hgi
        · cases h'
    · split at h
      · cases hc : clsS s (i + 1) with
        | none => rw [hc] at h; cases h
        | some q => rw [hc] at h; simp at h; obtain ⟨rfl, _⟩ := h; exact (clsS_adv (t := q.1) (j := q.2) hc).2.2
      · split at h
        · simp at h; obtain ⟨rfl, _⟩ := h; exact W4.zero.inv
        · split at h
          · cases hc : signS s (i + 1) with
            | none => rw [hc] at h; cases h
            | some q => rw [hc] at h; simp at h; obtain ⟨rfl, _⟩ := h; exact W4.zero.bit _
          · split at h
            · cases h
            · simp at h; obtain ⟨rfl, _⟩ := h; exact W4.zero.bit _
  intro i x j h
  unfold factorS at h
  cases hat : atomS s g i with
  | none => rw [hat] at h; cases h
  | some q =>
    obtain ⟨y, k⟩ := q
    have h1 := ha _ _ _ hat
    rw [hat] at h
    simp only [Option.map_some, Option.some.injEq] at h
    unfold oftS at h
    split at h
    · split at h
      · simp at h; obtain ⟨rfl, _⟩ := h; exact tr_only h1 (.inl rfl)
      · split at h
        · simp at h; obtain ⟨rfl, _⟩ := h; exact tr_only h1 (.inr (.inl rfl))
        · split at h
          · simp at h; obtain ⟨rfl, _⟩ := h; exact tr_only h1 (.inr (.inr rfl))
          · simp at h; obtain ⟨rfl, _⟩ := h; exact h1
    · simp at h; obtain ⟨rfl, _⟩ := h; exact h1
theorem wayL_tr {s : ByteArray} {g : Nat → Option (Rx × Nat)} (hg : GoodG g) : ∀ {n i : Nat} {acc xs : List Rx} {j : Nat}, (∀ x ∈ acc, Tr false x) → wayL s g n i acc = some (xs, j) → ∀ x ∈ xs, Tr false x
  | 0, _, _, _, _, _, h => by simp [wayL] at h
  | n + 1, i, acc, xs, j, ha, h => by
    unfold wayL at h
    split at h
    · cases hf : factorS s g i with
      | none => rw [hf] at h; cases h
      | some q =>
        obtain ⟨x, k⟩ := q
        rw [hf] at h
        exact wayL_tr hg (n := n) (i := k) (fun y hy => by
          rcases List.mem_append.1 hy with h1 | h1
          · exact ha y h1
          · simp at h1; subst h1; exact factor_tr hg _ _ _ hf) h
    · simp at h; obtain ⟨rfl, _⟩ := h; exact ha
theorem way_tr {s : ByteArray} {g : Nat → Option (Rx × Nat)} (hg : GoodG g) : GoodG (wayS s g) := by
  intro i x j h
  unfold wayS at h
  cases hw : wayL s g (s.size + 1) i [] with
  | none => rw [hw] at h; cases h
  | some q =>
    rw [hw] at h
    simp at h
    obtain ⟨rfl, _⟩ := h
    exact tr_mk (wayL_tr hg (acc := []) (by simp) (xs := q.1) (j := q.2) hw) (.inl rfl)
theorem waysL_tr {s : ByteArray} {g : Nat → Option (Rx × Nat)} (hg : GoodG g) : ∀ {n i : Nat} {acc xs : List Rx} {j : Nat}, acc ≠ [] → (∀ x ∈ acc, Tr false x) → waysL s g n i acc = some (xs, j) → xs ≠ [] ∧ ∀ x ∈ xs, Tr false x
  | 0, _, _, _, _, _, _, h => by simp [waysL] at h
  | n + 1, i, acc, xs, j, hne, ha, h => by
    unfold waysL at h
    split at h
    · cases hf : wayS s g (i + 1) with
      | none => rw [hf] at h; cases h
      | some q =>
        obtain ⟨x, k⟩ := q
        rw [hf] at h
        exact waysL_tr hg (n := n) (i := k) (by simp) (fun y hy => by
          rcases List.mem_append.1 hy with h1 | h1
          · exact ha y h1
          · simp at h1; subst h1; exact way_tr hg _ _ _ hf) h
    · simp at h; obtain ⟨rfl, _⟩ := h; exact ⟨hne, ha⟩
theorem ways_tr {s : ByteArray} {g : Nat → Option (Rx × Nat)} (hg : GoodG g) : GoodG (waysS s g) := by
  intro i x j h
  unfold waysS at h
  cases hw : wayS s g i with
  | none => rw [hw] at h; cases h
  | some q =>
    obtain ⟨y, k⟩ := q
    rw [hw] at h
    have h1 := way_tr hg _ _ _ hw
    simp only at h
    cases hl : waysL s g (s.size + 1) k [y] with
    | none => rw [hl] at h; cases h
    | some q2 =>
      rw [hl] at h
      simp at h
      obtain ⟨rfl, _⟩ := h
      have h2 := waysL_tr hg (acc := [y]) (by simp) (by simpa using h1) (xs := q2.1) (j := q2.2) hl
      exact tr_mk h2.2 (.inr ⟨rfl, h2.1⟩)
theorem par_tr (s : ByteArray) : ∀ r, GoodG (par s r)
  | 0 => ways_tr fun _ _ _ h => by cases h
  | r + 1 => ways_tr (par_tr s r)
theorem parse_tr {s : ByteArray} {x : Rx} (h : parseS s = some x) : Tr false x := by
  unfold parseS at h
  split at h
  · cases h
  · cases hp : par s 8 0 with
    | none => rw [hp] at h; cases h
    | some q =>
      obtain ⟨y, j⟩ := q
      rw [hp] at h
      simp only at h
      split at h
      · cases h
      · cases h; exact par_tr s 8 _ _ _ hp
def kidsR : Rx → List Rx
  | .cons x l => x :: kidsR l
  | _ => []
theorem kids_len : ∀ l : Rx, (kidsR l).length = cnt l
  | .cons x l => by simp [kidsR, cnt, kids_len l]
  | .set _ => rfl
  | .node _ _ => rfl
  | .nil => rfl
theorem kids_tr : ∀ {l : Rx}, Tr true l → ∀ x ∈ kidsR l, Tr false x
  | .cons x l, h, y, hy => by
    simp only [kidsR, List.mem_cons] at hy
    rcases hy with rfl | hy
    · exact h.1
    · exact kids_tr h.2 y hy
  | .nil, _, y, hy => by simp [kidsR] at hy
  | .set _, h, _, _ => h.elim
  | .node _ _, h, _, _ => h.elim
theorem lst_kids : ∀ {l : Rx}, Tr true l → lstS (kidsR l) = l
  | .cons x l, h => by simp [kidsR, lstS, lst_kids h.2]
  | .nil, _ => rfl
  | .set _, h => h.elim
  | .node _ _, h => h.elim
def hiR : Rx → Nat
  | .set _ => 1
  | .node _ l => hiR l + 1
  | .nil => 0
  | .cons x l => max (hiR x) (hiR l)
theorem hiR_kid : ∀ {l : Rx} {x : Rx}, x ∈ kidsR l → hiR x ≤ hiR l
  | .cons y l, x, h => by
    simp only [kidsR, List.mem_cons] at h
    simp only [hiR]
    rcases h with rfl | h
    · omega
    · have := hiR_kid h; omega
  | .nil, _, h => by simp [kidsR] at h
  | .set _, _, h => by simp [kidsR] at h
  | .node _ _, _, h => by simp [kidsR] at h
theorem sz_cons : ∀ l : Rx, Tr true l → sz l = ((kidsR l).map sz).sum
  | .cons x l, h => by simp [kidsR, sz, sz_cons l h.2]
  | .nil, _ => rfl
  | .set _, h => h.elim
  | .node _ _, h => h.elim
section
variable (H : List Nat → Nat → Prop)
end
end Go.Rex
set_option linter.unusedVariables false
set_option linter.unusedSimpArgs false
set_option maxHeartbeats 400000
namespace Go.Rex
open Go.X
def SmallG (g : Nat → Option (Rx × Nat)) : Prop := ∀ i x j, g i = some (x, j) → sz x + 2 * i ≤ 2 * j
theorem sz_snoc : ∀ (l : List Rx) (x : Rx), sz (lstS (l ++ [x])) = sz (lstS l) + sz x
  | [], x => by simp [lstS, sz]
  | y :: l, x => by simp [lstS, sz, sz_snoc l x]; omega
theorem sz_mk {op : Nat} {l : List Rx} (ho : op = 2 ∨ op = 3) : sz (mkN op l) ≤ sz (lstS l) + (if op = 3 then 2 * (l.length - 1) else 0) := by
  match l with
  | [] => rcases ho with rfl | rfl <;> simp [mkN, sz, lstS, cnt]
  | [x] => rcases ho with rfl | rfl <;> simp [mkN, sz, lstS]
  | x :: y :: l => rcases ho with rfl | rfl <;> simp [mkN, sz, lstS, cnt, cnt_lst]
theorem factor_sz {s : ByteArray} {g : Nat → Option (Rx × Nat)} (hg : SmallG g) : SmallG (factorS s g) := by
  have ha : SmallG (atomS s g) := by
    intro i x j h
    unfold atomS at h
    split at h
    · cases hgi : g (i + 1) with
      | none => rw [hgi] at h; cases h
      | some q =>
        obtain ⟨y, k⟩ := q
        rw [hgi] at h
        have h' : (if k < s.size ∧ b8 s k = 41 then some (y, k + 1) else none) = some (x, j) := h
        split at h'
        · simp at h'; obtain ⟨rfl, rfl⟩ := h'; have := hg _ _ _ hgi; omega
        · cases h'
    · split at h
      · cases hc : clsS s (i + 1) with
        | none => rw [hc] at h; cases h
        | some q => rw [hc] at h; simp at h; obtain ⟨rfl, rfl⟩ := h; have := (clsS_adv (t := q.1) (j := q.2) hc).1; simp only [sz]; omega
      · split at h
        · simp at h; obtain ⟨rfl, rfl⟩ := h; simp only [sz]; omega
        · split at h
          · cases hc : signS s (i + 1) with
            | none => rw [hc] at h; cases h
            | some q => rw [hc] at h; simp at h; obtain ⟨rfl, rfl⟩ := h; have := (signS_adv (b := q.1) (j := q.2) hc).1; simp only [sz]; omega
          · split at h
            · cases h
            · simp at h; obtain ⟨rfl, rfl⟩ := h; simp only [sz]; omega
  intro i x j h
  unfold factorS at h
  cases hat : atomS s g i with
  | none => rw [hat] at h; cases h
  | some q =>
    obtain ⟨y, k⟩ := q
    have h1 := ha _ _ _ hat
    rw [hat] at h
    simp only [Option.map_some, Option.some.injEq] at h
    unfold oftS at h
    split at h
    · split at h
      · simp at h; obtain ⟨rfl, rfl⟩ := h; simp [onlyS, sz]; omega
      · split at h
        · simp at h; obtain ⟨rfl, rfl⟩ := h; simp [onlyS, sz]; omega
        · split at h
          · simp at h; obtain ⟨rfl, rfl⟩ := h; simp [onlyS, sz]; omega
          · simp at h; obtain ⟨rfl, rfl⟩ := h; exact h1
    · simp at h; obtain ⟨rfl, rfl⟩ := h; exact h1
theorem wayL_sz {s : ByteArray} {g : Nat → Option (Rx × Nat)} (hg : SmallG g) {i0 : Nat} : ∀ {n i : Nat} {acc xs : List Rx} {j : Nat}, sz (lstS acc) + 2 * i0 ≤ 2 * i → wayL s g n i acc = some (xs, j) → sz (lstS xs) + 2 * i0 ≤ 2 * j
  | 0, _, _, _, _, _, h => by simp [wayL] at h
  | n + 1, i, acc, xs, j, ha, h => by
    unfold wayL at h
    split at h
    · cases hf : factorS s g i with
      | none => rw [hf] at h; cases h
      | some q =>
        obtain ⟨x, k⟩ := q
        rw [hf] at h
        exact wayL_sz hg (n := n) (i := k) (by rw [sz_snoc]; have := factor_sz hg _ _ _ hf; omega) h
    · simp at h; obtain ⟨rfl, rfl⟩ := h; exact ha
theorem way_sz {s : ByteArray} {g : Nat → Option (Rx × Nat)} (hg : SmallG g) : SmallG (wayS s g) := by
  intro i x j h
  unfold wayS at h
  cases hw : wayL s g (s.size + 1) i [] with
  | none => rw [hw] at h; cases h
  | some q =>
    rw [hw] at h
    simp at h
    obtain ⟨rfl, rfl⟩ := h
    have h1 := wayL_sz hg (i0 := i) (by simp [lstS, sz]) (xs := q.1) (j := q.2) hw
    have h2 := sz_mk (op := 2) (l := q.1) (.inl rfl)
    simp at h2
    omega
theorem waysL_sz {s : ByteArray} {g : Nat → Option (Rx × Nat)} (hg : SmallG g) {i0 : Nat} : ∀ {n i : Nat} {acc xs : List Rx} {j : Nat}, acc ≠ [] → sz (lstS acc) + 2 * (acc.length - 1) + 2 * i0 ≤ 2 * i → waysL s g n i acc = some (xs, j) → sz (lstS xs) + 2 * (xs.length - 1) + 2 * i0 ≤ 2 * j
  | 0, _, _, _, _, _, _, h => by simp [waysL] at h
  | n + 1, i, acc, xs, j, hne, ha, h => by
    unfold waysL at h
    split at h
    · cases hf : wayS s g (i + 1) with
      | none => rw [hf] at h; cases h
      | some q =>
        obtain ⟨x, k⟩ := q
        rw [hf] at h
        have hl : 0 < acc.length := List.length_pos_iff.2 hne
        exact waysL_sz hg (n := n) (i := k) (by simp) (by rw [sz_snoc]; have := way_sz hg _ _ _ hf; simp; omega) h
    · simp at h; obtain ⟨rfl, rfl⟩ := h; exact ha
theorem ways_sz {s : ByteArray} {g : Nat → Option (Rx × Nat)} (hg : SmallG g) : SmallG (waysS s g) := by
  intro i x j h
  unfold waysS at h
  cases hw : wayS s g i with
  | none => rw [hw] at h; cases h
  | some q =>
    obtain ⟨y, k⟩ := q
    rw [hw] at h
    have h1 := way_sz hg _ _ _ hw
    simp only at h
    cases hl : waysL s g (s.size + 1) k [y] with
    | none => rw [hl] at h; cases h
    | some q2 =>
      rw [hl] at h
      simp at h
      obtain ⟨rfl, rfl⟩ := h
      have h2 := waysL_sz hg (i0 := i) (acc := [y]) (by simp) (by simpa [lstS, sz] using h1) (xs := q2.1) (j := q2.2) hl
      have h3 := sz_mk (op := 3) (l := q2.1) (.inr rfl)
      simp at h3
      omega
theorem par_sz (s : ByteArray) : ∀ r, SmallG (par s r)
  | 0 => ways_sz fun _ _ _ h => by cases h
  | r + 1 => ways_sz (par_sz s r)
theorem parse_sz {s : ByteArray} (hadv : ∀ x j, par s 8 0 = some (x, j) → j ≤ s.size) {x : Rx} (h : parseS s = some x) : sz x ≤ 80 := by
  unfold parseS at h
  split at h
  · cases h
  · cases hp : par s 8 0 with
    | none => rw [hp] at h; cases h
    | some q =>
      obtain ⟨y, j⟩ := q
      rw [hp] at h
      simp only at h
      split at h
      · cases h
      · cases h
        have := par_sz s 8 _ _ _ hp
        have := hadv _ _ hp
        omega
theorem kid_sz : ∀ {l : Rx} {x : Rx}, Tr true l → x ∈ kidsR l → sz x ≤ sz l
  | .cons y l, x, h, hx => by
    simp only [kidsR, List.mem_cons] at hx
    simp only [sz]
    rcases hx with rfl | hx
    · omega
    · have := kid_sz h.2 hx; omega
  | .nil, _, _, h => by simp [kidsR] at h
  | .set _, _, h, _ => h.elim
  | .node _ _, _, h, _ => h.elim
theorem sum_take {l : List Rx} {k : Nat} {x : Rx} (hx : l[k]? = some x) : ((l.take (k + 1)).map sz).sum = ((l.take k).map sz).sum + sz x := by
  have hk := (List.getElem?_eq_some_iff.1 hx).1
  rw [List.take_succ_eq_append_getElem hk, (List.getElem?_eq_some_iff.1 hx).2]
  simp
theorem sum_take_le (l : List Rx) : ∀ k, ((l.take k).map sz).sum ≤ (l.map sz).sum := by
  induction l with
  | nil => intro k; simp
  | cons y l ih =>
    intro k
    cases k with
    | zero => simp
    | succ k => simp only [List.take_succ_cons, List.map_cons, List.sum_cons]; have := ih k; omega
end Go.Rex
set_option linter.unusedVariables false
set_option linter.unusedSimpArgs false
namespace Go.X
open Go Go.RowKit
section
variable {P : Program} {n : Nat} {e : Env} {w : World} {C : World → Prop}
theorem Yld.indexArr {d : Option Tmp} {t len el sz : Nat} {x i : Operand} {ty : TypeId} {pos : String} {af : Array Edge} {g : Option (Nat × Bool)} (hT : P.underlying t = some (.array len el)) {z : Value} {by' : Nat} (hE : TI P el z sz by') {b o : Nat} {k : IntKind} {q : Nat}
    (hx : ev e x = some (.pointer (some ⟨b, o, none⟩))) (hi : ev e i = some (.int k (q : Int))) (h1 : q < len) :
    Yld P n C e ⟨d, .indexAddr t x i, ty, pos, af, g⟩ (.pointer (some ⟨b, o + q * sz, none⟩)) := by
  intro a ha w _
  have h2 : (0 : Int) ≤ q := by omega
  have h3 : (q : Int) < len := by omega
  have h4 : ¬ len ≤ q := by omega
  simp [execOp, ha.ev hx, ha.ev hi, Instr.indexAt, run_underlying hT, asIntOf, hE.sizeOf w, h2, h3, add_none, Instr.sureAddr, h4, h1]
end
end Go.X
set_option linter.unusedVariables false
set_option linter.unusedSimpArgs false
namespace Go.X
open Go Go.RowKit
section
variable {P : Program}
theorem run_eqItems_ints (d : Nat) {e : TypeId} {k : IntKind} (he : P.underlying e = some (.int k)) (c1 : P.cellsOf e = 1) (xs ys : Array Value) (f g : Nat → Int) : ∀ (is : List Nat) (w : World), (∀ i ∈ is, xs[i]? = some (.int k (f i))) → (∀ i ∈ is, ys[i]? = some (.int k (g i))) → (Op.eqItems (d + 1) e (P.cellsOf e) xs ys is).run P w = .ok (decide (∀ i ∈ is, f i = g i)) w
  | [], w, _, _ => by simp [Op.eqItems]
  | i :: is, w, hx, hy => by
    have hp : ∀ (zs : Array Value) (v : Value), zs[i]? = some v → (part e zs (i * P.cellsOf e)).run P w = .ok v w := fun zs v h => by
      rw [c1, Nat.mul_one]; simp [part, Go.X.Plain.of he rfl w, h]
    have ih := run_eqItems_ints d he c1 xs ys f g is w (fun j hj => hx j (by simp [hj])) (fun j hj => hy j (by simp [hj]))
    have ee : (Op.equalIn (d + 1) e (.int k (f i)) (.int k (g i))).run P w = .ok (decide (f i = g i)) w := by
      rw [run_equalIn_int w d e k k _ _ he]; rfl
    simp only [Op.eqItems, Sem.run_bind, hp xs _ (hx i (by simp)), hp ys _ (hy i (by simp)), Result.andThen_ok, ee]
    by_cases h : f i = g i
    · simp [h, ih]
    · simp [h]
def Arr (P : Program) (t : TypeId) (k : IntKind) (n : Nat) : Prop := P.eqGuardType P.depth t = false ∧ ∀ (ps qs : List Int) (w : World), ps.length = n → qs.length = n → (Op.equalIn 10000 t (.agg (ps.map (Value.int k)).toArray) (.agg (qs.map (Value.int k)).toArray)).run P w = .ok (decide (ps = qs)) w
theorem Arr.of {t e : TypeId} {k : IntKind} {n : Nat} (hg : P.eqGuardType P.depth t = false) (ht : P.underlying t = some (.array n e)) (he : P.underlying e = some (.int k)) (c1 : P.cellsOf e = 1) : Arr P t k n := by
  refine ⟨hg, fun ps qs w ha hb => ?_⟩
  obtain ⟨i, hi⟩ := info_of_underlying he
  have hat : ∀ (l : List Int), l.length = n → ∀ j ∈ List.range n, (l.map (Value.int k)).toArray[j]? = some (.int k (l.getD j 0)) := fun l hl j hj => by
    have hj' : j < l.length := by rw [hl]; exact List.mem_range.1 hj
    simp [hj']
  rw [run_equalIn_array w 9999 _ _ ht hi, run_eqItems_ints 9998 he c1 _ _ (fun j => ps.getD j 0) (fun j => qs.getD j 0) _ w (hat ps ha) (hat qs hb)]
  congr 1
  rw [decide_eq_decide]
  constructor
  · intro h
    apply List.ext_getElem (by omega)
    intro j h1 h2
    have := h j (List.mem_range.2 (by omega))
    simpa [h1, h2] using this
  · rintro rfl _ _; rfl
end
section
variable {P : Program} {n : Nat} {e : Env} {C : World → Prop}
theorem Yld.eqArr {d : Option Tmp} {t m : Nat} {k : IntKind} {x y : Operand} {t' ty : TypeId} {pos : String} {af : Array Edge} {g : Option (Nat × Bool)} (hP : Arr P t k m) {ps qs : List Int} {va vb : Array Value} (hx : ev e x = some (.agg va)) (hy : ev e y = some (.agg vb)) (ea : va = (ps.map (Value.int k)).toArray) (eb : vb = (qs.map (Value.int k)).toArray) (la : ps.length = m) (lb : qs.length = m) :
    Yld P n C e ⟨d, .binOp .eql t x y t', ty, pos, af, g⟩ (.bool (decide (ps = qs))) := by
  intro ac ha w _
  subst ea; subst eb
  simp only [execOp, ha.ev hx, ha.ev hy, Sem.run_bind, run_eqGuard_agg w .eql t x y _ _ hP.1, Result.andThen_ok, run_eql_struct, hP.2 ps qs w la lb, Sem.run_pure]
theorem Yld.neqArr {d : Option Tmp} {t m : Nat} {k : IntKind} {x y : Operand} {t' ty : TypeId} {pos : String} {af : Array Edge} {g : Option (Nat × Bool)} (hP : Arr P t k m) {ps qs : List Int} {va vb : Array Value} (hx : ev e x = some (.agg va)) (hy : ev e y = some (.agg vb)) (ea : va = (ps.map (Value.int k)).toArray) (eb : vb = (qs.map (Value.int k)).toArray) (la : ps.length = m) (lb : qs.length = m) :
    Yld P n C e ⟨d, .binOp .neq t x y t', ty, pos, af, g⟩ (.bool (!decide (ps = qs))) := by
  intro ac ha w _
  subst ea; subst eb
  simp only [execOp, ha.ev hx, ha.ev hy, Sem.run_bind, run_eqGuard_agg w .neq t x y _ _ hP.1, Result.andThen_ok, run_neq_struct, hP.2 ps qs w la lb, Sem.run_pure]
end
theorem checkKey_str {P : Program} {kt : TypeId} (h : P.underlying kt = some .string) (n : Nat) (b : Bool) (k : ByteArray) (w : World) : (Instr.checkKey b (n + 1) kt (.string k)).run P w = .ok () w := by
  simp only [Instr.checkKey, Sem.run_bind, run_underlying h, Result.andThen_ok, Sem.run_pure]
theorem KeyLaw.str {P : Program} {kt : TypeId} (h : P.underlying kt = some .string) : KeyLaw P kt Value.string where
  check b k w := checkKey_str h 9999 b k w
  find k es l w he := by
    have key : ∀ (es : List MapEntry) (l : List (ByteArray × Value)) (i : Nat), es.map (fun e => (e.key, e.val)) = l.map (fun p => (Value.string p.1, p.2)) → Instr.findNow .string (.string k) es i = some ((placeM k l).map fun p => (p.1 + i, p.2)) := by
      intro es
      induction es with
      | nil => intro l i h; cases l with | nil => rfl | cons p l => simp at h
      | cons e es ih =>
        intro l i h
        cases l with
        | nil => simp at h
        | cons p l =>
          simp only [List.map_cons, List.cons.injEq, Prod.mk.injEq] at h
          obtain ⟨⟨h1, h2⟩, h3⟩ := h
          have hb : (k == p.1) = decide (k = p.1) := by rw [beq_toListBytes]; exact beqS k p.1
          simp only [Instr.findNow, h1, Instr.sameNow, hb, placeM]
          by_cases hk : k = p.1
          · simp [hk, h2]
          · simp only [hk, decide_false, Bool.false_eq_true, if_neg hk, if_false, ih l (i + 1) h3, Option.map_map]
            congr 1
            cases placeM k l with
            | none => rfl
            | some q => simp; omega
    simp only [Instr.findKey, Sem.run_bind, run_underlying h, Result.andThen_ok, key es l 0 he]
    cases placeM k l <;> simp
  same k := by
    have hb : ∀ a : ByteArray, (a == a) = true := fun a => by rw [beq_toListBytes]; simp
    unfold Instr.sameBits; exact hb k
end Go.X
namespace Go.Proofs.YthbjfhhiajihfaaGreat
open Go Go.X
theorem mixed : Tryz.prog.follows .mixedOrders = true := by kernel_rfl
theorem i3 : TI Tryz.prog 3 (.int .i64 0) 1 8 := TI.mk' (by kernel_rfl)
theorem p3 : Plain Tryz.prog 3 := Plain.of Tryz.underlying3 rfl
theorem u4 : Tryz.prog.underlying 4 = some .bool := Tryz.underlying4
theorem i4 : TI Tryz.prog 4 (.bool false) 1 1 := TI.mk' (by kernel_rfl)
theorem p4 : Plain Tryz.prog 4 := Plain.of Tryz.underlying4 rfl
theorem i5 : TI Tryz.prog 5 (.int .u8 0) 1 1 := TI.mk' (by kernel_rfl)
theorem u9 : Tryz.prog.underlying 9 = some .string := Tryz.underlying9
theorem i9 : TI Tryz.prog 9 (.string ByteArray.empty) 1 16 := TI.mk' (by kernel_rfl)
theorem p9 : Plain Tryz.prog 9 := Plain.of Tryz.underlying9 rfl
theorem u10 : Tryz.prog.underlying 10 = some .string := Tryz.underlying10
theorem u24 : SlT Tryz.prog 24 135 := Tryz.underlying24
theorem p24 : Plain Tryz.prog 24 := Plain.of Tryz.underlying24 rfl
theorem p25 : Plain Tryz.prog 25 := Plain.of Tryz.underlying25 rfl
theorem i27 : TI Tryz.prog 27 (.agg #[.bool false, .float .f64 0, .float .f64 0]) 3 24 := TI.mk' (by kernel_rfl)
theorem a27 : Agg Tryz.prog 27 3 := Agg.of (d := (Tryz.prog.underlying 27).getD .bool) (by kernel_rfl) (by kernel_rfl) i27
theorem u28 : SlT Tryz.prog 28 9 := Tryz.underlying28
theorem p28 : Plain Tryz.prog 28 := Plain.of Tryz.underlying28 rfl
theorem i30 : TI Tryz.prog 30 (.agg #[.slice none 0 0, .slice none 0 0, .bool false, .float .f64 0, .float .f64 0, .slice none 0 0]) 6 96 := TI.mk' (by kernel_rfl)
theorem a30 : Agg Tryz.prog 30 6 := Agg.of (d := (Tryz.prog.underlying 30).getD .bool) (by kernel_rfl) (by kernel_rfl) i30
theorem u33 : SlT Tryz.prog 33 79 := Tryz.underlying33
theorem p33 : Plain Tryz.prog 33 := Plain.of Tryz.underlying33 rfl
theorem i35 : TI Tryz.prog 35 (.agg #[.int .i64 0, .slice none 0 0, .float .f64 0]) 3 40 := TI.mk' (by kernel_rfl)
theorem a35 : Agg Tryz.prog 35 3 := Agg.of (d := (Tryz.prog.underlying 35).getD .bool) (by kernel_rfl) (by kernel_rfl) i35
theorem u37 : SlT Tryz.prog 37 3 := Tryz.underlying37
theorem i37 : TI Tryz.prog 37 (.slice none 0 0) 1 24 := TI.mk' (by kernel_rfl)
theorem p37 : Plain Tryz.prog 37 := Plain.of Tryz.underlying37 rfl
theorem i46 : TI Tryz.prog 46 (.agg #[.slice none 0 0, .slice none 0 0, .int .i64 0, .float .f64 0, .float .f64 0, .slice none 0 0]) 6 96 := TI.mk' (by kernel_rfl)
theorem a46 : Agg Tryz.prog 46 6 := Agg.of (d := (Tryz.prog.underlying 46).getD .bool) (by kernel_rfl) (by kernel_rfl) i46
theorem i64 : TI Tryz.prog 64 (.pointer none) 1 8 := TI.mk' (by kernel_rfl)
theorem i66 : TI Tryz.prog 66 (.int .u64 0) 1 8 := TI.mk' (by kernel_rfl)
theorem p66 : Plain Tryz.prog 66 := Plain.of Tryz.underlying66 rfl
theorem i79 : TI Tryz.prog 79 (.agg #[.string ByteArray.empty, .string ByteArray.empty]) 2 32 := TI.mk' (by kernel_rfl)
theorem a79 : Agg Tryz.prog 79 2 := Agg.of (d := (Tryz.prog.underlying 79).getD .bool) (by kernel_rfl) (by kernel_rfl) i79
theorem p130 : Plain Tryz.prog 130 := Plain.of Tryz.underlying130 rfl
theorem p131 : Plain Tryz.prog 131 := Plain.of Tryz.underlying131 rfl
theorem i135 : TI Tryz.prog 135 (.agg #[.int .i64 0, .string ByteArray.empty, .string ByteArray.empty]) 3 40 := TI.mk' (by kernel_rfl)
theorem a135 : Agg Tryz.prog 135 3 := Agg.of (d := (Tryz.prog.underlying 135).getD .bool) (by kernel_rfl) (by kernel_rfl) i135
theorem u151 : SlT Tryz.prog 151 5 := Tryz.underlying151
theorem p172 : Plain Tryz.prog 172 := Plain.of Tryz.underlying172 rfl
theorem i221 : TI Tryz.prog 221 (.agg #[.int .u64 0, .int .u64 0, .int .u64 0, .int .u64 0]) 4 32 := TI.mk' (by kernel_rfl)
theorem a221 : Agg Tryz.prog 221 4 := Agg.of (d := (Tryz.prog.underlying 221).getD .bool) (by kernel_rfl) (by kernel_rfl) i221
theorem u222 : SlT Tryz.prog 222 224 := Tryz.underlying222
theorem p222 : Plain Tryz.prog 222 := Plain.of Tryz.underlying222 rfl
theorem i224 : TI Tryz.prog 224 (.agg #[.int .i64 0, .int .u64 0, .int .u64 0, .int .u64 0, .int .u64 0, .slice none 0 0]) 6 64 := TI.mk' (by kernel_rfl)
theorem a224 : Agg Tryz.prog 224 6 := Agg.of (d := (Tryz.prog.underlying 224).getD .bool) (by kernel_rfl) (by kernel_rfl) i224
theorem u254 : SlT Tryz.prog 254 301 := Tryz.underlying254
theorem p254 : Plain Tryz.prog 254 := Plain.of Tryz.underlying254 rfl
theorem u266 : SlT Tryz.prog 266 37 := Tryz.underlying266
theorem i301 : TI Tryz.prog 301 (.agg #[.int .i64 0, .int .u64 0, .int .u64 0, .int .u64 0, .int .u64 0, .int .i64 0, .int .i64 0]) 7 56 := TI.mk' (by kernel_rfl)
theorem a301 : Agg Tryz.prog 301 7 := Agg.of (d := (Tryz.prog.underlying 301).getD .bool) (by kernel_rfl) (by kernel_rfl) i301
theorem key3 : KeyLaw Tryz.prog 3 (Value.int .i64) := KeyLaw.int Tryz.underlying3
theorem key9 : KeyLaw Tryz.prog 9 Value.string := KeyLaw.str Tryz.underlying9
theorem arr221 : Arr Tryz.prog 221 .u64 4 := Arr.of (by kernel_rfl) Tryz.underlying221 Tryz.underlying66 (by kernel_rfl)
theorem fo27_0 : FO Tryz.prog 27 0 0 := fun a w => by kernel_rfl
theorem fo27_1 : FO Tryz.prog 27 1 1 := fun a w => by kernel_rfl
theorem fo27_2 : FO Tryz.prog 27 2 2 := fun a w => by kernel_rfl
theorem fo30_0 : FO Tryz.prog 30 0 0 := fun a w => by kernel_rfl
theorem fo30_1 : FO Tryz.prog 30 1 1 := fun a w => by kernel_rfl
theorem fo30_2 : FO Tryz.prog 30 2 2 := fun a w => by kernel_rfl
theorem fo30_3 : FO Tryz.prog 30 3 5 := fun a w => by kernel_rfl
theorem fo35_0 : FO Tryz.prog 35 0 0 := fun a w => by kernel_rfl
theorem fo35_1 : FO Tryz.prog 35 1 1 := fun a w => by kernel_rfl
theorem fo35_2 : FO Tryz.prog 35 2 2 := fun a w => by kernel_rfl
theorem fo79_0 : FO Tryz.prog 79 0 0 := fun a w => by kernel_rfl
theorem fo79_1 : FO Tryz.prog 79 1 1 := fun a w => by kernel_rfl
theorem fo133_0 : FO Tryz.prog 133 0 0 := fun a w => by kernel_rfl
theorem fo133_1 : FO Tryz.prog 133 1 6 := fun a w => by kernel_rfl
theorem fo133_2 : FO Tryz.prog 133 2 7 := fun a w => by kernel_rfl
theorem fo135_0 : FO Tryz.prog 135 0 0 := fun a w => by kernel_rfl
theorem fo135_1 : FO Tryz.prog 135 1 1 := fun a w => by kernel_rfl
theorem fo135_2 : FO Tryz.prog 135 2 2 := fun a w => by kernel_rfl
theorem fo224_0 : FO Tryz.prog 224 0 0 := fun a w => by kernel_rfl
theorem fo224_1 : FO Tryz.prog 224 1 1 := fun a w => by kernel_rfl
theorem fo224_2 : FO Tryz.prog 224 2 5 := fun a w => by kernel_rfl
theorem fo301_0 : FO Tryz.prog 301 0 0 := fun a w => by kernel_rfl
theorem fo301_1 : FO Tryz.prog 301 1 1 := fun a w => by kernel_rfl
theorem fo301_2 : FO Tryz.prog 301 2 5 := fun a w => by kernel_rfl
theorem fo301_3 : FO Tryz.prog 301 3 6 := fun a w => by kernel_rfl
theorem fo308_0 : FO Tryz.prog 308 0 0 := fun a w => by kernel_rfl
theorem fo308_1 : FO Tryz.prog 308 1 1 := fun a w => by kernel_rfl
theorem fo308_2 : FO Tryz.prog 308 2 2 := fun a w => by kernel_rfl
theorem e2 : Enters Tryz.prog 2 := enters_of Tryz.func2 (by kernel_rfl) rfl
theorem e3 : Enters Tryz.prog 3 := enters_of Tryz.func3 (by kernel_rfl) rfl
theorem e4 : Enters Tryz.prog 4 := enters_of Tryz.func4 (by kernel_rfl) rfl
theorem e5 : Enters Tryz.prog 5 := enters_of Tryz.func5 (by kernel_rfl) rfl
theorem e7 : Enters Tryz.prog 7 := enters_of Tryz.func7 (by kernel_rfl) rfl
theorem e9 : Enters Tryz.prog 9 := enters_of Tryz.func9 (by kernel_rfl) rfl
theorem e18 : Enters Tryz.prog 18 := enters_of Tryz.func18 (by kernel_rfl) rfl
theorem e19 : Enters Tryz.prog 19 := enters_of Tryz.func19 (by kernel_rfl) rfl
theorem e20 : Enters Tryz.prog 20 := enters_of Tryz.func20 (by kernel_rfl) rfl
theorem e21 : Enters Tryz.prog 21 := enters_of Tryz.func21 (by kernel_rfl) rfl
theorem e22 : Enters Tryz.prog 22 := enters_of Tryz.func22 (by kernel_rfl) rfl
theorem e23 : Enters Tryz.prog 23 := enters_of Tryz.func23 (by kernel_rfl) rfl
theorem e24 : Enters Tryz.prog 24 := enters_of Tryz.func24 (by kernel_rfl) rfl
theorem e25 : Enters Tryz.prog 25 := enters_of Tryz.func25 (by kernel_rfl) rfl
theorem e30 : Enters Tryz.prog 30 := enters_of Tryz.func30 (by kernel_rfl) rfl
theorem e38 : Enters Tryz.prog 38 := enters_of Tryz.func38 (by kernel_rfl) rfl
theorem e74 : Enters Tryz.prog 74 := enters_of Tryz.func74 (by kernel_rfl) rfl
theorem e75 : Enters Tryz.prog 75 := enters_of Tryz.func75 (by kernel_rfl) rfl
theorem e76 : Enters Tryz.prog 76 := enters_of Tryz.func76 (by kernel_rfl) rfl
theorem e77 : Enters Tryz.prog 77 := enters_of Tryz.func77 (by kernel_rfl) rfl
theorem e78 : Enters Tryz.prog 78 := enters_of Tryz.func78 (by kernel_rfl) rfl
theorem e82 : Enters Tryz.prog 82 := enters_of Tryz.func82 (by kernel_rfl) rfl
theorem e101 : Enters Tryz.prog 101 := enters_of Tryz.func101 (by kernel_rfl) rfl
theorem e104 : Enters Tryz.prog 104 := enters_of Tryz.func104 (by kernel_rfl) rfl
theorem e105 : Enters Tryz.prog 105 := enters_of Tryz.func105 (by kernel_rfl) rfl
theorem e123 : Enters Tryz.prog 123 := enters_of Tryz.func123 (by kernel_rfl) rfl
theorem e136 : Enters Tryz.prog 136 := enters_of Tryz.func136 (by kernel_rfl) rfl
theorem e137 : Enters Tryz.prog 137 := enters_of Tryz.func137 (by kernel_rfl) rfl
theorem e141 : Enters Tryz.prog 141 := enters_of Tryz.func141 (by kernel_rfl) rfl
theorem e142 : Enters Tryz.prog 142 := enters_of Tryz.func142 (by kernel_rfl) rfl
theorem e143 : Enters Tryz.prog 143 := enters_of Tryz.func143 (by kernel_rfl) rfl
theorem e144 : Enters Tryz.prog 144 := enters_of Tryz.func144 (by kernel_rfl) rfl
theorem e145 : Enters Tryz.prog 145 := enters_of Tryz.func145 (by kernel_rfl) rfl
theorem e146 : Enters Tryz.prog 146 := enters_of Tryz.func146 (by kernel_rfl) rfl
theorem e148 : Enters Tryz.prog 148 := enters_of Tryz.func148 (by kernel_rfl) rfl
theorem e152 : Enters Tryz.prog 152 := enters_of Tryz.func152 (by kernel_rfl) rfl
theorem e155 : Enters Tryz.prog 155 := enters_of Tryz.func155 (by kernel_rfl) rfl
theorem e156 : Enters Tryz.prog 156 := enters_of Tryz.func156 (by kernel_rfl) rfl
theorem e157 : Enters Tryz.prog 157 := enters_of Tryz.func157 (by kernel_rfl) rfl
theorem e160 : Enters Tryz.prog 160 := enters_of Tryz.func160 (by kernel_rfl) rfl
theorem e170 : Enters Tryz.prog 170 := enters_of Tryz.func170 (by kernel_rfl) rfl
theorem e173 : Enters Tryz.prog 173 := enters_of Tryz.func173 (by kernel_rfl) rfl
theorem e186 : Enters Tryz.prog 186 := enters_of Tryz.func186 (by kernel_rfl) rfl
theorem e187 : Enters Tryz.prog 187 := enters_of Tryz.func187 (by kernel_rfl) rfl
theorem e188 : Enters Tryz.prog 188 := enters_of Tryz.func188 (by kernel_rfl) rfl
theorem e192 : Enters Tryz.prog 192 := enters_of Tryz.func192 (by kernel_rfl) rfl
theorem e195 : Enters Tryz.prog 195 := enters_of Tryz.func195 (by kernel_rfl) rfl
theorem e196 : Enters Tryz.prog 196 := enters_of Tryz.func196 (by kernel_rfl) rfl
theorem e197 : Enters Tryz.prog 197 := enters_of Tryz.func197 (by kernel_rfl) rfl
theorem e198 : Enters Tryz.prog 198 := enters_of Tryz.func198 (by kernel_rfl) rfl
theorem e201 : Enters Tryz.prog 201 := enters_of Tryz.func201 (by kernel_rfl) rfl
theorem e202 : Enters Tryz.prog 202 := enters_of Tryz.func202 (by kernel_rfl) rfl
theorem e203 : Enters Tryz.prog 203 := enters_of Tryz.func203 (by kernel_rfl) rfl
theorem e210 : Enters Tryz.prog 210 := enters_of Tryz.func210 (by kernel_rfl) rfl
theorem e211 : Enters Tryz.prog 211 := enters_of Tryz.func211 (by kernel_rfl) rfl
theorem e212 : Enters Tryz.prog 212 := enters_of Tryz.func212 (by kernel_rfl) rfl
theorem e218 : Enters Tryz.prog 218 := enters_of Tryz.func218 (by kernel_rfl) rfl
theorem e219 : Enters Tryz.prog 219 := enters_of Tryz.func219 (by kernel_rfl) rfl
theorem e221 : Enters Tryz.prog 221 := enters_of Tryz.func221 (by kernel_rfl) rfl
theorem e229 : Enters Tryz.prog 229 := enters_of Tryz.func229 (by kernel_rfl) rfl
theorem e230 : Enters Tryz.prog 230 := enters_of Tryz.func230 (by kernel_rfl) rfl
theorem e231 : Enters Tryz.prog 231 := enters_of Tryz.func231 (by kernel_rfl) rfl
theorem e232 : Enters Tryz.prog 232 := enters_of Tryz.func232 (by kernel_rfl) rfl
theorem e236 : Enters Tryz.prog 236 := enters_of Tryz.func236 (by kernel_rfl) rfl
theorem e237 : Enters Tryz.prog 237 := enters_of Tryz.func237 (by kernel_rfl) rfl
theorem e238 : Enters Tryz.prog 238 := enters_of Tryz.func238 (by kernel_rfl) rfl
theorem e239 : Enters Tryz.prog 239 := enters_of Tryz.func239 (by kernel_rfl) rfl
theorem e251 : Enters Tryz.prog 251 := enters_of Tryz.func251 (by kernel_rfl) rfl
theorem e252 : Enters Tryz.prog 252 := enters_of Tryz.func252 (by kernel_rfl) rfl
theorem e257 : Enters Tryz.prog 257 := enters_of Tryz.func257 (by kernel_rfl) rfl
theorem e258 : Enters Tryz.prog 258 := enters_of Tryz.func258 (by kernel_rfl) rfl
theorem e259 : Enters Tryz.prog 259 := enters_of Tryz.func259 (by kernel_rfl) rfl
theorem e260 : Enters Tryz.prog 260 := enters_of Tryz.func260 (by kernel_rfl) rfl
theorem e266 : Enters Tryz.prog 266 := enters_of Tryz.func266 (by kernel_rfl) rfl
theorem e269 : Enters Tryz.prog 269 := enters_of Tryz.func269 (by kernel_rfl) rfl
theorem e283 : Enters Tryz.prog 283 := enters_of Tryz.func283 (by kernel_rfl) rfl
theorem e284 : Enters Tryz.prog 284 := enters_of Tryz.func284 (by kernel_rfl) rfl
theorem e285 : Enters Tryz.prog 285 := enters_of Tryz.func285 (by kernel_rfl) rfl
theorem e286 : Enters Tryz.prog 286 := enters_of Tryz.func286 (by kernel_rfl) rfl
theorem e287 : Enters Tryz.prog 287 := enters_of Tryz.func287 (by kernel_rfl) rfl
theorem e288 : Enters Tryz.prog 288 := enters_of Tryz.func288 (by kernel_rfl) rfl
theorem e292 : Enters Tryz.prog 292 := enters_of Tryz.func292 (by kernel_rfl) rfl
theorem e293 : Enters Tryz.prog 293 := enters_of Tryz.func293 (by kernel_rfl) rfl
theorem e301 : Enters Tryz.prog 301 := enters_of Tryz.func301 (by kernel_rfl) rfl
theorem e302 : Enters Tryz.prog 302 := enters_of Tryz.func302 (by kernel_rfl) rfl
theorem e303 : Enters Tryz.prog 303 := enters_of Tryz.func303 (by kernel_rfl) rfl
theorem e304 : Enters Tryz.prog 304 := enters_of Tryz.func304 (by kernel_rfl) rfl
theorem e305 : Enters Tryz.prog 305 := enters_of Tryz.func305 (by kernel_rfl) rfl
theorem e308 : Enters Tryz.prog 308 := enters_of Tryz.func308 (by kernel_rfl) rfl
theorem e309 : Enters Tryz.prog 309 := enters_of Tryz.func309 (by kernel_rfl) rfl
theorem e310 : Enters Tryz.prog 310 := enters_of Tryz.func310 (by kernel_rfl) rfl
theorem e311 : Enters Tryz.prog 311 := enters_of Tryz.func311 (by kernel_rfl) rfl
theorem e312 : Enters Tryz.prog 312 := enters_of Tryz.func312 (by kernel_rfl) rfl
theorem e319 : Enters Tryz.prog 319 := enters_of Tryz.func319 (by kernel_rfl) rfl
theorem e320 : Enters Tryz.prog 320 := enters_of Tryz.func320 (by kernel_rfl) rfl
theorem e322 : Enters Tryz.prog 322 := enters_of Tryz.func322 (by kernel_rfl) rfl
theorem e323 : Enters Tryz.prog 323 := enters_of Tryz.func323 (by kernel_rfl) rfl
theorem e324 : Enters Tryz.prog 324 := enters_of Tryz.func324 (by kernel_rfl) rfl
theorem e325 : Enters Tryz.prog 325 := enters_of Tryz.func325 (by kernel_rfl) rfl
theorem e326 : Enters Tryz.prog 326 := enters_of Tryz.func326 (by kernel_rfl) rfl
theorem e327 : Enters Tryz.prog 327 := enters_of Tryz.func327 (by kernel_rfl) rfl
theorem e328 : Enters Tryz.prog 328 := enters_of Tryz.func328 (by kernel_rfl) rfl
theorem x95 : ∀ (b : Int) (w : World), (callFunc 95 #[.int .u64 b]).run Tryz.prog w = .ok (.value (.float .f64 b.toNat)) w := fun b w => by kernel_rfl
theorem x169 : ∀ (b : Nat) (w : World), (callFunc 169 #[.float .f64 b]).run Tryz.prog w = .ok (.value (.int .u64 b)) w := fun b w => by kernel_rfl
end Go.Proofs.YthbjfhhiajihfaaGreat
namespace Go.Proofs
open Go.Shelf
def Tryz.lays213_ren : Go.Shelf.Ren := ⟨fun | 213 => 270 | 265 => 294 | n => n, fun | 9 => 9 | 3 => 3 | n => n, fun | n => n⟩
def Tryz.lays106_ren : Go.Shelf.Ren := ⟨fun | 106 => 232 | 213 => 270 | 265 => 294 | n => n, fun | 9 => 9 | 3 => 3 | n => n, fun | n => n⟩
theorem Tryz.lays106 : Go.Proofs.Lays.n106 Tryz.prog Tryz.lays106_ren := {
  mixed := by kernel_rfl
  f106 := Tryz.func232.trans (congrArg some (by kernel_rfl))
  f213 := Tryz.func270.trans (congrArg some (by kernel_rfl))
  f265 := Tryz.func294.trans (congrArg some (by kernel_rfl))
  t3 := Tryz.underlying3
  a3 := Tryz.isAgg3
  z3 := Tryz.sizeOf3
  v3 := Tryz.zeroValue3
  t9 := Tryz.underlying9
  a9 := Tryz.isAgg9
  z9 := Tryz.sizeOf9
  v9 := Tryz.zeroValue9 }
open Go.RowKit in
theorem Tryz.strings_Compare (a b : ByteArray) (w : World) :
    Calls Tryz.prog 232 #[.string a, .string b] w fun e w' => e = .returned (.int .i64 (Lib.compareBytes a.data.toList b.data.toList)) ∧ w' = w := Any.strings_Compare Tryz.lays106 a b w
def Tryz.lays137_ren : Go.Shelf.Ren := ⟨fun | 137 => 327 | 217 => 329 | 266 => 330 | n => n, fun | 9 => 9 | 5 => 5 | 3 => 3 | n => n, fun | n => n⟩
theorem Tryz.lays137 : Go.Proofs.Lays.n137 Tryz.prog Tryz.lays137_ren := {
  mixed := by kernel_rfl
  f137 := Tryz.func327.trans (congrArg some (by kernel_rfl))
  f217 := Tryz.func329.trans (congrArg some (by kernel_rfl))
  f266 := Tryz.func330.trans (congrArg some (by kernel_rfl))
  t3 := Tryz.underlying3
  a3 := Tryz.isAgg3
  z3 := Tryz.sizeOf3
  v3 := Tryz.zeroValue3
  t5 := Tryz.underlying5
  a5 := Tryz.isAgg5
  z5 := Tryz.sizeOf5
  v5 := Tryz.zeroValue5
  t9 := Tryz.underlying9
  a9 := Tryz.isAgg9
  z9 := Tryz.sizeOf9
  v9 := Tryz.zeroValue9 }
open Go.RowKit in
theorem Tryz.strings_IndexByte (s : ByteArray) (c : Int) (w : World) :
    Calls Tryz.prog 327 #[.string s, .int .u8 c] w fun e w' => e = .returned (.int .i64 (Lib.indexByte s.data.toList c.toNat.toUInt8)) ∧ w' = w := Any.strings_IndexByte Tryz.lays137 s c w
def Tryz.lays215_ren : Go.Shelf.Ren := ⟨fun | 215 => 213 | n => n, fun | 3 => 3 | 4 => 4 | n => n, fun | n => n⟩
def Tryz.lays122_ren : Go.Shelf.Ren := ⟨fun | 122 => 160 | 215 => 213 | n => n, fun | 3 => 3 | 4 => 4 | n => n, fun | n => n⟩
theorem Tryz.lays122 : Go.Proofs.Lays.n122 Tryz.prog Tryz.lays122_ren := {
  mixed := by kernel_rfl
  f122 := Tryz.func160.trans (congrArg some (by kernel_rfl))
  f215 := Tryz.func213.trans (congrArg some (by kernel_rfl))
  t3 := Tryz.underlying3
  a3 := Tryz.isAgg3
  z3 := Tryz.sizeOf3
  v3 := Tryz.zeroValue3
  t4 := Tryz.underlying4
  a4 := Tryz.isAgg4
  z4 := Tryz.sizeOf4
  v4 := Tryz.zeroValue4 }
open Go.RowKit in
theorem Tryz.cmp_Compare_int (x y : Int) (w : World) :
    Calls Tryz.prog 160 #[.int .i64 x, .int .i64 y] w fun e w' => e = .returned (.int .i64 (Lib.compareInt x y)) ∧ w' = w := Any.cmp_Compare_int Tryz.lays122 x y w
def Tryz.lays189_ren : Go.Shelf.Ren := ⟨fun | 189 => 145 | 125 => 200 | 257 => 199 | 128 => 249 | 129 => 250 | 294 => 240 | 295 => 241 | 296 => 242 | 297 => 243 | 298 => 244 | 299 => 245 | 216 => 246 | 300 => 247 | 301 => 248 | 328 => 273 | 329 => 274 | 330 => 275 | 331 => 276 | 332 => 277 | 215 => 213 | 343 => 296 | n => n, fun | 28 => 37 | 3 => 3 | 46 => 248 | 0 => 0 | 51 => 291 | 53 => 66 | 4 => 4 | 183 => 284 | 182 => 283 | 131 => 164 | 5 => 5 | 9 => 9 | 218 => 310 | 222 => 314 | 228 => 330 | 229 => 331 | n => n, fun | n => n⟩
theorem Tryz.lays189 : Go.Proofs.Lays.n189 Tryz.prog Tryz.lays189_ren := {
  mixed := by kernel_rfl
  f125 := Tryz.func200.trans (congrArg some (by kernel_rfl))
  f128 := Tryz.func249.trans (congrArg some (by kernel_rfl))
  f129 := Tryz.func250.trans (congrArg some (by kernel_rfl))
  f189 := Tryz.func145.trans (congrArg some (by kernel_rfl))
  f215 := Tryz.func213.trans (congrArg some (by kernel_rfl))
  f216 := Tryz.func246.trans (congrArg some (by kernel_rfl))
  f257 := Tryz.func199.trans (congrArg some (by kernel_rfl))
  f294 := Tryz.func240.trans (congrArg some (by kernel_rfl))
  f295 := Tryz.func241.trans (congrArg some (by kernel_rfl))
  f296 := Tryz.func242.trans (congrArg some (by kernel_rfl))
  f297 := Tryz.func243.trans (congrArg some (by kernel_rfl))
  f298 := Tryz.func244.trans (congrArg some (by kernel_rfl))
  f299 := Tryz.func245.trans (congrArg some (by kernel_rfl))
  f300 := Tryz.func247.trans (congrArg some (by kernel_rfl))
  f301 := Tryz.func248.trans (congrArg some (by kernel_rfl))
  f328 := Tryz.func273.trans (congrArg some (by kernel_rfl))
  f329 := Tryz.func274.trans (congrArg some (by kernel_rfl))
  f330 := Tryz.func275.trans (congrArg some (by kernel_rfl))
  f331 := Tryz.func276.trans (congrArg some (by kernel_rfl))
  f332 := Tryz.func277.trans (congrArg some (by kernel_rfl))
  f343 := Tryz.func296.trans (congrArg some (by kernel_rfl))
  t0 := Tryz.underlying0
  a0 := Tryz.isAgg0
  z0 := Tryz.sizeOf0
  v0 := Tryz.zeroValue0
  t3 := Tryz.underlying3
  a3 := Tryz.isAgg3
  z3 := Tryz.sizeOf3
  v3 := Tryz.zeroValue3
  t4 := Tryz.underlying4
  a4 := Tryz.isAgg4
  z4 := Tryz.sizeOf4
  v4 := Tryz.zeroValue4
  t5 := Tryz.underlying5
  a5 := Tryz.isAgg5
  z5 := Tryz.sizeOf5
  v5 := Tryz.zeroValue5
  t9 := Tryz.underlying9
  a9 := Tryz.isAgg9
  z9 := Tryz.sizeOf9
  v9 := Tryz.zeroValue9
  t28 := Tryz.underlying37
  a28 := Tryz.isAgg37
  z28 := Tryz.sizeOf37
  v28 := Tryz.zeroValue37
  t46 := Tryz.underlying248
  a46 := Tryz.isAgg248
  z46 := Tryz.sizeOf248
  v46 := Tryz.zeroValue248
  t51 := Tryz.underlying291
  a51 := Tryz.isAgg291
  z51 := Tryz.sizeOf291
  v51 := Tryz.zeroValue291
  t53 := Tryz.underlying66
  a53 := Tryz.isAgg66
  z53 := Tryz.sizeOf66
  v53 := Tryz.zeroValue66
  t131 := Tryz.underlying164
  a131 := Tryz.isAgg164
  z131 := Tryz.sizeOf164
  v131 := Tryz.zeroValue164
  t182 := Tryz.underlying283
  a182 := Tryz.isAgg283
  z182 := Tryz.sizeOf283
  v182 := Tryz.zeroValue283
  t183 := Tryz.underlying284
  a183 := Tryz.isAgg284
  z183 := Tryz.sizeOf284
  v183 := Tryz.zeroValue284
  t218 := Tryz.underlying310
  a218 := Tryz.isAgg310
  z218 := Tryz.sizeOf310
  v218 := Tryz.zeroValue310
  t222 := Tryz.underlying314
  a222 := Tryz.isAgg314
  z222 := Tryz.sizeOf314
  v222 := Tryz.zeroValue314
  t228 := Tryz.underlying330
  a228 := Tryz.isAgg330
  z228 := Tryz.sizeOf330
  v228 := Tryz.zeroValue330
  t229 := Tryz.underlying331
  a229 := Tryz.isAgg331
  z229 := Tryz.sizeOf331
  v229 := Tryz.zeroValue331 }
open Go.Sort Go.RowKit in
theorem Tryz.slices_Sort_int (blk off cap : Nat) (zs : List Int) (w : World) (hH : Holds (Value.int .i64) w blk off zs.toArray) (hblk : blk < w.heap.size) (hsz : zs.length < 4611686018427387904) :
    Calls Tryz.prog 145 #[.slice (some ⟨blk, off, none⟩) zs.length cap] w fun e w' =>
      e = .returned (.tuple #[]) ∧ ∃ n os, w' = grow (putRow (Value.int .i64) (Sort.ahead w n) blk off (zs.mergeSort fun x y => decide (x ≤ y)).toArray) os := Any.slices_Sort_int Tryz.lays189 blk off cap zs w hH hblk hsz
def Tryz.lays107_ren : Go.Shelf.Ren := ⟨fun | 107 => 252 | 108 => 278 | n => n, fun | 28 => 37 | 3 => 3 | 4 => 4 | 0 => 0 | n => n, fun | n => n⟩
theorem Tryz.lays107 : Go.Proofs.Lays.n107 Tryz.prog Tryz.lays107_ren := {
  mixed := by kernel_rfl
  f107 := Tryz.func252.trans (congrArg some (by kernel_rfl))
  f108 := Tryz.func278.trans (congrArg some (by kernel_rfl))
  t0 := Tryz.underlying0
  a0 := Tryz.isAgg0
  z0 := Tryz.sizeOf0
  v0 := Tryz.zeroValue0
  t3 := Tryz.underlying3
  a3 := Tryz.isAgg3
  z3 := Tryz.sizeOf3
  v3 := Tryz.zeroValue3
  t4 := Tryz.underlying4
  a4 := Tryz.isAgg4
  z4 := Tryz.sizeOf4
  v4 := Tryz.zeroValue4
  t28 := Tryz.underlying37
  a28 := Tryz.isAgg37
  z28 := Tryz.sizeOf37
  v28 := Tryz.zeroValue37 }
open Go.Lib in
theorem Tryz.slices_Contains_int (b off n c : Nat) (zs : List Int) (x : Int) (w : World) (hz : n ≤ zs.length) (hbig : n ≤ 9223372036854775807) (hc : ∀ j, j < zs.length → w.cell? ⟨b, off + j, none⟩ = some (.int .i64 (zs.getD j 0))) :
    Calls Tryz.prog 252 #[.slice (some ⟨b, off, none⟩) n c, .int .i64 x] w fun e w' => e = .returned (.bool ((zs.take n).contains x)) ∧ w' = w := Any.slices_Contains_int Tryz.lays107 b off n c zs x w hz hbig hc
open Go.Lib in
theorem Tryz.slices_Contains_int_empty (a : Option Addr) (c : Nat) (x : Int) (w : World) :
    Calls Tryz.prog 252 #[.slice a 0 c, .int .i64 x] w fun e w' => e = .returned (.bool false) ∧ w' = w := Any.slices_Contains_int_empty Tryz.lays107 a c x w
def Tryz.laysNm220_ren : Go.Shelf.Ren := ⟨fun | 20 => 146 | n => n, fun | 22 => 37 | 3 => 3 | 4 => 4 | 0 => 0 | n => n, fun | n => n⟩
theorem Tryz.laysNm220 : Go.Proofs.Lays2.n20 Tryz.prog Tryz.laysNm220_ren := {
  mixed := by kernel_rfl
  f20 := Tryz.func146.trans (congrArg some (by kernel_rfl))
  t0 := Tryz.underlying0
  a0 := Tryz.isAgg0
  z0 := Tryz.sizeOf0
  v0 := Tryz.zeroValue0
  t3 := Tryz.underlying3
  a3 := Tryz.isAgg3
  z3 := Tryz.sizeOf3
  v3 := Tryz.zeroValue3
  t4 := Tryz.underlying4
  a4 := Tryz.isAgg4
  z4 := Tryz.sizeOf4
  v4 := Tryz.zeroValue4
  t22 := Tryz.underlying37
  a22 := Tryz.isAgg37
  z22 := Tryz.sizeOf37
  v22 := Tryz.zeroValue37
  i3 := by kernel_rfl }
open Go.RowKit Go.Lib Go.Sort in
theorem Tryz.slices_Compact_int (blk off cap : Nat) (zs : List Int) (w : World) (hH : Holds (Value.int .i64) w blk off zs.toArray) (hsz : zs.length ≤ 9223372036854775807) (hcap : zs.length ≤ cap) :
    Calls Tryz.prog 146 #[.slice (some ⟨blk, off, none⟩) zs.length cap] w fun e w' => e = .returned (.slice (some ⟨blk, off, none⟩) (Lib.compact zs).length cap) ∧ ∃ q, w' = putRow (Value.int .i64) (Sort.ahead w q) blk off (Lib.compact zs ++ List.replicate (zs.length - (Lib.compact zs).length) 0).toArray := Any.slices_Compact_int Tryz.laysNm220 blk off cap zs w hH hsz hcap
open Go.RowKit Go.Lib Go.Sort in
theorem Tryz.slices_Compact_int_empty (a : Option Addr) (cap : Nat) (w : World) :
    Calls Tryz.prog 146 #[.slice a 0 cap] w fun e w' => e = .returned (.slice a 0 cap) ∧ w' = w := Any.slices_Compact_int_empty Tryz.laysNm220 a cap w
open Go.RowKit Go.Sort in
theorem Tryz.slices_Sort_int_none (p : Option Addr) (cap : Nat) (w : World) :
    Calls Tryz.prog 145 #[.slice p 0 cap] w fun e w' => e = .returned (.tuple #[]) ∧ w' = w := Any.slices_Sort_int_none Tryz.lays189 p cap w
end Go.Proofs
set_option linter.unusedVariables false
set_option linter.unusedSimpArgs false
set_option maxHeartbeats 400000
set_option maxRecDepth 100000
namespace Go.Proofs.YthbjfhhiajihfaaGreat
open Go Go.X
@[irreducible] def letS (c : Int) : Bool := decide (97 ≤ c ∧ c ≤ 122 ∨ 65 ≤ c ∧ c ≤ 90 ∨ c = 95)
theorem letter_ok (c : Int) (w : World) : Fx Tryz.prog 266 [.int .u8 c] w (fun v w' => v = .bool (letS c) ∧ w = w') := by
  refine enter Tryz.func266 rfl rfl rfl _ (Pick.sub (l := [0]) (.cons rfl .nil)) ?_
  refine RK.seq ?_
  refine RK.region ?_
  refine RL.p rfl rfl ?_
  refine RL.done ?_
  refine RK.seq ?_
  refine RK.region ?_
  iterate 3 refine RL.p rfl rfl ?_
  first | refine RL.splitD (d := 5) rfl rfl (fun h5 => ?_) (fun h5 => ?_) | refine RL.splitN (d := 5) rfl rfl (fun h5 => ?_) (fun h5 => ?_) | refine RL.split (d := 5) rfl rfl (fun h5 => ?_) (fun h5 => ?_)
  · iterate 2 refine RL.q (.yes rfl rfl rfl) rfl rfl (Yld.pure rfl) ?_
    iterate 2 refine RL.p rfl rfl ?_
    first | refine RL.splitD (d := 9) rfl rfl (fun h9 => ?_) (fun h9 => ?_) | refine RL.splitN (d := 9) rfl rfl (fun h9 => ?_) (fun h9 => ?_) | refine RL.split (d := 9) rfl rfl (fun h9 => ?_) (fun h9 => ?_)
    · iterate 6 refine RL.no (.no rfl rfl rfl rfl) rfl rfl ?_
      iterate 2 refine RL.p rfl rfl ?_
      iterate 2 refine RL.no (.no rfl rfl rfl rfl) rfl rfl ?_
      iterate 2 refine RL.p rfl rfl ?_
      refine RL.done ?_
      refine RK.ret_of Tryz.func266 (res1 rfl rfl) ?_ _
      exact ⟨_, rfl, congrArg _ (by rw [Bool.eq_iff_iff]; simp [letS]; omega), rfl⟩
    · iterate 3 refine RL.q (.yes rfl rfl rfl) rfl rfl (Yld.pure rfl) ?_
      first | refine RL.splitD (d := 12) rfl rfl (fun h12 => ?_) (fun h12 => ?_) | refine RL.splitN (d := 12) rfl rfl (fun h12 => ?_) (fun h12 => ?_) | refine RL.split (d := 12) rfl rfl (fun h12 => ?_) (fun h12 => ?_)
      · iterate 3 refine RL.q (.yes rfl rfl rfl) rfl rfl (Yld.pure rfl) ?_
        iterate 2 refine RL.p rfl rfl ?_
        first | refine RL.splitD (d := 17) rfl rfl (fun h17 => ?_) (fun h17 => ?_) | refine RL.splitN (d := 17) rfl rfl (fun h17 => ?_) (fun h17 => ?_) | refine RL.split (d := 17) rfl rfl (fun h17 => ?_) (fun h17 => ?_)
        · iterate 2 refine RL.no (.no rfl rfl rfl rfl) rfl rfl ?_
          iterate 2 refine RL.p rfl rfl ?_
          refine RL.done ?_
          refine RK.ret_of Tryz.func266 (res1 rfl rfl) ?_ _
          exact ⟨_, rfl, congrArg _ (by rw [Bool.eq_iff_iff]; simp [letS]; omega), rfl⟩
        · iterate 2 refine RL.q (.yes rfl rfl rfl) rfl rfl (Yld.pure rfl) ?_
          iterate 2 refine RL.p rfl rfl ?_
          refine RL.done ?_
          refine RK.ret_of Tryz.func266 (res1 rfl rfl) ?_ _
          exact ⟨_, rfl, congrArg _ (by rw [Bool.eq_iff_iff]; simp [letS]; omega), rfl⟩
      · iterate 2 refine RL.no (.no rfl rfl rfl rfl) rfl rfl ?_
        refine RL.q (.yes rfl rfl rfl) rfl rfl (Yld.pure rfl) ?_
        iterate 2 refine RL.p rfl rfl ?_
        iterate 2 refine RL.q (.yes rfl rfl rfl) rfl rfl (Yld.pure rfl) ?_
        iterate 2 refine RL.p rfl rfl ?_
        refine RL.done ?_
        refine RK.ret_of Tryz.func266 (res1 rfl rfl) ?_ _
        exact ⟨_, rfl, congrArg _ (by rw [Bool.eq_iff_iff]; simp [letS]; omega), rfl⟩
  · iterate 2 refine RL.no (.no rfl rfl rfl rfl) rfl rfl ?_
    iterate 2 refine RL.p rfl rfl ?_
    iterate 3 refine RL.q (.yes rfl rfl rfl) rfl rfl (Yld.pure rfl) ?_
    first | refine RL.splitD (d := 12) rfl rfl (fun h12 => ?_) (fun h12 => ?_) | refine RL.splitN (d := 12) rfl rfl (fun h12 => ?_) (fun h12 => ?_) | refine RL.split (d := 12) rfl rfl (fun h12 => ?_) (fun h12 => ?_)
    · iterate 3 refine RL.q (.yes rfl rfl rfl) rfl rfl (Yld.pure rfl) ?_
      iterate 2 refine RL.p rfl rfl ?_
      first | refine RL.splitD (d := 17) rfl rfl (fun h17 => ?_) (fun h17 => ?_) | refine RL.splitN (d := 17) rfl rfl (fun h17 => ?_) (fun h17 => ?_) | refine RL.split (d := 17) rfl rfl (fun h17 => ?_) (fun h17 => ?_)
      · iterate 2 refine RL.no (.no rfl rfl rfl rfl) rfl rfl ?_
        iterate 2 refine RL.p rfl rfl ?_
        refine RL.done ?_
        refine RK.ret_of Tryz.func266 (res1 rfl rfl) ?_ _
        exact ⟨_, rfl, congrArg _ (by rw [Bool.eq_iff_iff]; simp [letS]; omega), rfl⟩
      · iterate 2 refine RL.q (.yes rfl rfl rfl) rfl rfl (Yld.pure rfl) ?_
        iterate 2 refine RL.p rfl rfl ?_
        refine RL.done ?_
        refine RK.ret_of Tryz.func266 (res1 rfl rfl) ?_ _
        exact ⟨_, rfl, congrArg _ (by rw [Bool.eq_iff_iff]; simp [letS]; omega), rfl⟩
    · iterate 2 refine RL.no (.no rfl rfl rfl rfl) rfl rfl ?_
      refine RL.q (.yes rfl rfl rfl) rfl rfl (Yld.pure rfl) ?_
      iterate 2 refine RL.p rfl rfl ?_
      iterate 2 refine RL.q (.yes rfl rfl rfl) rfl rfl (Yld.pure rfl) ?_
      iterate 2 refine RL.p rfl rfl ?_
      refine RL.done ?_
      refine RK.ret_of Tryz.func266 (res1 rfl rfl) ?_ _
      exact ⟨_, rfl, congrArg _ (by rw [Bool.eq_iff_iff]; simp [letS]; omega), rfl⟩
@[irreducible] def valS (s : ByteArray) : Bool := decide (1 ≤ s.size ∧ s.size ≤ 24)
@[irreducible] def chS (c : Int) : Bool := letS c || decide (48 ≤ c ∧ c ≤ 57)
@[irreducible] def nameS (s : ByteArray) : Bool := decide (1 ≤ s.size ∧ s.size ≤ 12) && letS (bt s 0).toNat && (List.range s.size).all fun i => chS (bt s i).toNat
theorem name_no1 {s : ByteArray} (h : ¬ (1 ≤ s.size ∧ s.size ≤ 12)) : nameS s = false := by simp [nameS, h]
theorem name_no2 {s : ByteArray} (h : letS (bt s 0).toNat = false) : nameS s = false := by simp [nameS, h]
theorem name_no3 {s : ByteArray} {i : Nat} (hi : i < s.size) (h : chS (bt s i).toNat = false) : nameS s = false := by
  simp only [nameS, Bool.and_eq_false_iff]
  refine .inr ?_
  rw [List.all_eq_false]
  exact ⟨i, List.mem_range.2 hi, by simp [h]⟩
theorem name_yes {s : ByteArray} (h1 : 1 ≤ s.size) (h2 : s.size ≤ 12) (h3 : letS (bt s 0).toNat = true) (h : ∀ i, i < s.size → chS (bt s i).toNat = true) : nameS s = true := by
  simp only [nameS, Bool.and_eq_true, decide_eq_true_eq, List.all_eq_true, List.mem_range]
  exact ⟨⟨⟨h1, h2⟩, h3⟩, h⟩
theorem name_ok (s : ByteArray) (w : World) : Fx Tryz.prog 219 [.string s] w (fun v w' => v = .bool (nameS s) ∧ w = w') := by
  refine enter Tryz.func219 rfl rfl rfl _ (Pick.sub (l := [0]) (.cons rfl .nil)) ?_
  refine RK.seq ?_
  refine RK.region ?_
  refine RL.p rfl rfl ?_
  refine RL.done ?_
  iterate 2 refine RK.seq ?_
  refine RK.region ?_
  refine RL.p rfl rfl ?_
  refine RL.q (.free rfl) rfl rfl (Yld.lenStr u9 rfl) ?_
  iterate 2 refine RL.p rfl rfl ?_
  first | refine RL.splitD (d := 7) rfl rfl (fun h7 => ?_) (fun h7 => ?_) | refine RL.splitN (d := 7) rfl rfl (fun h7 => ?_) (fun h7 => ?_) | refine RL.split (d := 7) rfl rfl (fun h7 => ?_) (fun h7 => ?_)
  · iterate 3 refine RL.no (.no rfl rfl rfl rfl) rfl rfl ?_
    iterate 2 refine RL.p rfl rfl ?_
    iterate 4 refine RL.no (.no rfl rfl rfl rfl) rfl rfl ?_
    refine RL.p rfl rfl ?_
    refine RL.done ?_
    refine RK.condT rfl ?_
    refine RK.seq ?_
    refine RK.region ?_
    refine RL.p rfl rfl ?_
    refine RL.done ?_
    refine RK.ret_of Tryz.func219 (res1 rfl rfl) ?_ _
    exact ⟨_, rfl, congrArg _ (by first
        | exact (name_no1 (by omega)).symm
        | exact (name_no3 (i := k) (by omega) (by simp at h28; simp [chS, h28]; omega)).symm
        | exact (name_yes (by omega) (by omega) (by simpa using h17) fun i hi => hall i (by omega)).symm
        | exact (name_no2 (by simpa using h17)).symm), rfl⟩
  · refine RL.q (.yes rfl rfl rfl) rfl rfl (Yld.pure rfl) ?_
    refine RL.q (.yes rfl rfl rfl) rfl rfl (Yld.lenStr u9 rfl) ?_
    refine RL.q (.yes rfl rfl rfl) rfl rfl (Yld.pure rfl) ?_
    iterate 2 refine RL.p rfl rfl ?_
    first | refine RL.splitD (d := 12) rfl rfl (fun h12 => ?_) (fun h12 => ?_) | refine RL.splitN (d := 12) rfl rfl (fun h12 => ?_) (fun h12 => ?_) | refine RL.split (d := 12) rfl rfl (fun h12 => ?_) (fun h12 => ?_)
    · iterate 4 refine RL.no (.no rfl rfl rfl rfl) rfl rfl ?_
      refine RL.p rfl rfl ?_
      refine RL.done ?_
      refine RK.condT rfl ?_
      refine RK.seq ?_
      refine RK.region ?_
      refine RL.p rfl rfl ?_
      refine RL.done ?_
      refine RK.ret_of Tryz.func219 (res1 rfl rfl) ?_ _
      exact ⟨_, rfl, congrArg _ (by first
          | exact (name_no1 (by omega)).symm
          | exact (name_no3 (i := k) (by omega) (by simp at h28; simp [chS, h28]; omega)).symm
          | exact (name_yes (by omega) (by omega) (by simpa using h17) fun i hi => hall i (by omega)).symm
          | exact (name_no2 (by simpa using h17)).symm), rfl⟩
    · refine RL.q (.yes rfl rfl rfl) rfl rfl (Yld.pure rfl) ?_
      refine RL.q (.yes rfl rfl rfl) rfl rfl (Yld.idxStr u9 rfl rfl (by omega) (by omega)) ?_
      refine RL.op (.yes rfl rfl rfl) rfl rfl (Does.call rfl e266 (letter_ok _ _)) ?_
      rintro _ _ ⟨rfl, rfl⟩
      refine RL.q (.yes rfl rfl rfl) rfl rfl (Yld.pure rfl) ?_
      refine RL.p rfl rfl ?_
      refine RL.done ?_
      first | refine RK.condD rfl (fun h17 => ?_) (fun h17 => ?_) | refine RK.condN rfl (fun h17 => ?_) (fun h17 => ?_) | refine RK.cond rfl (fun h17 => ?_) (fun h17 => ?_)
      · refine RK.seq ?_
        refine RK.region ?_
        refine RL.p rfl rfl ?_
        refine RL.done ?_
        refine RK.ret_of Tryz.func219 (res1 rfl rfl) ?_ _
        exact ⟨_, rfl, congrArg _ (by first
            | exact (name_no1 (by omega)).symm
            | exact (name_no3 (i := k) (by omega) (by simp at h28; simp [chS, h28]; omega)).symm
            | exact (name_yes (by omega) (by omega) (by simpa using h17) fun i hi => hall i (by omega)).symm
            | exact (name_no2 (by simpa using h17)).symm), rfl⟩
      · refine RK.skip ?_
        iterate 2 refine RK.seq ?_
        refine RK.region ?_
        refine RL.p rfl rfl ?_
        refine RL.q (.free rfl) rfl rfl (Yld.lenStr u9 rfl) ?_
        refine RL.p rfl rfl ?_
        refine RL.done ?_
        refine RK.block ?_
        refine RK.loop (fun k : Nat => [(0, .string s), (19, .int .i64 s.size), (20, .int .i64 k)]) (fun k w' => w = w' ∧ k ≤ s.size ∧ ∀ i, i < k → chS (bt s i).toNat = true) (fun k => s.size - k) 0 ⟨rfl, rfl, rfl, trivial⟩ ⟨rfl, by omega, fun i hi => by omega⟩ (fun k w' hI ih => ?_)
        obtain ⟨rfl, hk, hall⟩ := hI
        refine RK.seq ?_
        refine RK.region ?_
        refine RL.p rfl rfl ?_
        refine RL.done ?_
        refine RK.seq ?_
        first | refine RK.condD rfl (fun h21 => ?_) (fun h21 => ?_) | refine RK.condN rfl (fun h21 => ?_) (fun h21 => ?_) | refine RK.cond rfl (fun h21 => ?_) (fun h21 => ?_)
        · refine RK.skip ?_
          refine RK.seq ?_
          refine RK.block ?_
          refine RK.seq ?_
          refine RK.region ?_
          iterate 2 refine RL.p rfl rfl ?_
          refine RL.done ?_
          refine RK.seq ?_
          refine RK.region ?_
          iterate 2 refine RL.p rfl rfl ?_
          refine RL.q (.free rfl) rfl rfl (Yld.idxStrN u9 rfl rfl (by omega)) ?_
          refine RL.op (.free rfl) rfl rfl (Does.call rfl e266 (letter_ok _ _)) ?_
          rintro _ _ ⟨rfl, rfl⟩
          iterate 2 refine RL.p rfl rfl ?_
          first | refine RL.splitD (d := 28) rfl rfl (fun h28 => ?_) (fun h28 => ?_) | refine RL.splitN (d := 28) rfl rfl (fun h28 => ?_) (fun h28 => ?_) | refine RL.split (d := 28) rfl rfl (fun h28 => ?_) (fun h28 => ?_)
          · iterate 2 refine RL.q (.yes rfl rfl rfl) rfl rfl (Yld.pure rfl) ?_
            refine RL.q (.yes rfl rfl rfl) rfl rfl (Yld.idxStrN u9 rfl rfl (by omega)) ?_
            iterate 2 refine RL.q (.yes rfl rfl rfl) rfl rfl (Yld.pure rfl) ?_
            first | refine RL.splitD (d := 33) rfl rfl (fun h33 => ?_) (fun h33 => ?_) | refine RL.splitN (d := 33) rfl rfl (fun h33 => ?_) (fun h33 => ?_) | refine RL.split (d := 33) rfl rfl (fun h33 => ?_) (fun h33 => ?_)
            · iterate 4 refine RL.no (.no rfl rfl rfl rfl) rfl rfl ?_
              refine RL.q (.yes rfl rfl rfl) rfl rfl (Yld.pure rfl) ?_
              refine RL.p rfl rfl ?_
              refine RL.done ?_
              refine RK.condT rfl ?_
              refine RK.seq ?_
              refine RK.region ?_
              refine RL.p rfl rfl ?_
              refine RL.done ?_
              refine RK.ret_of Tryz.func219 (res1 rfl rfl) ?_ _
              exact ⟨_, rfl, congrArg _ (by first
                  | exact (name_no1 (by omega)).symm
                  | exact (name_no3 (i := k) (by omega) (by simp at h28; simp [chS, h28]; omega)).symm
                  | exact (name_yes (by omega) (by omega) (by simpa using h17) fun i hi => hall i (by omega)).symm
                  | exact (name_no2 (by simpa using h17)).symm), rfl⟩
            · iterate 2 refine RL.q (.yes rfl rfl rfl) rfl rfl (Yld.pure rfl) ?_
              refine RL.q (.yes rfl rfl rfl) rfl rfl (Yld.idxStrN u9 rfl rfl (by omega)) ?_
              iterate 2 refine RL.q (.yes rfl rfl rfl) rfl rfl (Yld.pure rfl) ?_
              refine RL.p rfl rfl ?_
              refine RL.done ?_
              first | refine RK.condD rfl (fun h39 => ?_) (fun h39 => ?_) | refine RK.condN rfl (fun h39 => ?_) (fun h39 => ?_) | refine RK.cond rfl (fun h39 => ?_) (fun h39 => ?_)
              · refine RK.seq ?_
                refine RK.region ?_
                refine RL.p rfl rfl ?_
                refine RL.done ?_
                refine RK.ret_of Tryz.func219 (res1 rfl rfl) ?_ _
                exact ⟨_, rfl, congrArg _ (by first
                    | exact (name_no1 (by omega)).symm
                    | exact (name_no3 (i := k) (by omega) (by simp at h28; simp [chS, h28]; omega)).symm
                    | exact (name_yes (by omega) (by omega) (by simpa using h17) fun i hi => hall i (by omega)).symm
                    | exact (name_no2 (by simpa using h17)).symm), rfl⟩
              · refine RK.skip ?_
                refine RK.inBlock ?_
                refine RK.region ?_
                iterate 2 refine RL.p rfl rfl ?_
                refine RL.re (d := 20) rfl rfl (succ_i64 (by omega)) ?_
                refine RL.done ?_
                exact RK.back (ih (k + 1) _ ⟨rfl, by omega, fun i hi => by by_cases e : i = k; (subst e; simp at h28; simp [chS, h28]; try omega); exact hall i (by omega)⟩ (by omega)) ⟨rfl, rfl, rfl, trivial⟩
          · iterate 10 refine RL.no (.no rfl rfl rfl rfl) rfl rfl ?_
            refine RL.p rfl rfl ?_
            refine RL.done ?_
            refine RK.condF rfl ?_
            refine RK.skip ?_
            refine RK.inBlock ?_
            refine RK.region ?_
            iterate 2 refine RL.p rfl rfl ?_
            refine RL.re (d := 20) rfl rfl (succ_i64 (by omega)) ?_
            refine RL.done ?_
            exact RK.back (ih (k + 1) _ ⟨rfl, by omega, fun i hi => by by_cases e : i = k; (subst e; simp at h28; simp [chS, h28]; try omega); exact hall i (by omega)⟩ (by omega)) ⟨rfl, rfl, rfl, trivial⟩
        · refine RK.exit rfl ?_
          refine RK.seq ?_
          refine RK.region ?_
          refine RL.p rfl rfl ?_
          refine RL.done ?_
          refine RK.ret_of Tryz.func219 (res1 rfl rfl) ?_ _
          exact ⟨_, rfl, congrArg _ (by first
              | exact (name_no1 (by omega)).symm
              | exact (name_no3 (i := k) (by omega) (by simp at h28; simp [chS, h28]; omega)).symm
              | exact (name_yes (by omega) (by omega) (by simpa using h17) fun i hi => hall i (by omega)).symm
              | exact (name_no2 (by simpa using h17)).symm), rfl⟩
@[irreducible] def nanS (b : Nat) : Bool := Ieee.double.order b b != some .eq
theorem no_ok (b : Nat) (w : World) : Fx Tryz.prog 221 [.float .f64 b] w (fun v w' => v = .bool (nanS b) ∧ w = w') := by
  refine enter Tryz.func221 rfl rfl rfl _ (Pick.sub (l := [0]) (.cons rfl .nil)) ?_
  refine RK.seq ?_
  refine RK.region ?_
  refine RL.p rfl rfl ?_
  refine RL.done ?_
  refine RK.seq ?_
  refine RK.region ?_
  iterate 4 refine RL.p rfl rfl ?_
  refine RL.done ?_
  refine RK.ret_of Tryz.func221 (res1 rfl rfl) ?_ _
  exact ⟨_, rfl, by unfold nanS; rfl, rfl⟩
def bitsS (b : Nat) : Int := if nanS b then 9221120237041090561 else b
theorem bits_ok (b : Nat) (w : World) : Fx Tryz.prog 173 [.float .f64 b] w (fun v w' => v = .int .u64 (bitsS b) ∧ w = w') := by
  refine enter Tryz.func173 rfl rfl rfl _ (Pick.sub (l := [0]) (.cons rfl .nil)) ?_
  refine RK.seq ?_
  refine RK.region ?_
  refine RL.p rfl rfl ?_
  refine RL.done ?_
  iterate 2 refine RK.seq ?_
  refine RK.region ?_
  refine RL.p rfl rfl ?_
  refine RL.op (.free rfl) rfl rfl (Does.call rfl e221 (no_ok b _)) ?_
  rintro _ _ ⟨rfl, rfl⟩
  refine RL.done ?_
  first | refine RK.condD rfl (fun h4 => ?_) (fun h4 => ?_) | refine RK.condN rfl (fun h4 => ?_) (fun h4 => ?_) | refine RK.cond rfl (fun h4 => ?_) (fun h4 => ?_)
  · refine RK.seq ?_
    refine RK.region ?_
    refine RL.p rfl rfl ?_
    refine RL.done ?_
    refine RK.ret_of Tryz.func173 (res1 rfl rfl) ?_ _
    exact ⟨_, rfl, by simp_all [bitsS], rfl⟩
  · refine RK.skip ?_
    refine RK.seq ?_
    refine RK.region ?_
    refine RL.p rfl rfl ?_
    refine RL.q (.free rfl) rfl rfl (Yld.callx rfl (fun w => x169 _ w)) ?_
    refine RL.p rfl rfl ?_
    refine RL.done ?_
    refine RK.ret_of Tryz.func173 (res1 rfl rfl) ?_ _
    exact ⟨_, rfl, by simp_all [bitsS], rfl⟩
end Go.Proofs.YthbjfhhiajihfaaGreat
set_option linter.unusedVariables false
set_option linter.unusedSimpArgs false
set_option maxHeartbeats 400000
set_option maxRecDepth 100000
namespace Go.Proofs.YthbjfhhiajihfaaGreat
open Go Go.X
structure Lab where
  name : ByteArray
  value : ByteArray
  deriving DecidableEq, Inhabited
def labC (l : Lab) : List Value := [.string l.name, .string l.value]
theorem labC_len (l : Lab) : (labC l).length = 2 := rfl
abbrev SlL (M : Nat → Prop) (w : World) (v : Value) (ls : List Lab) : Prop := Sl M w v 2 ls.length (ls.flatMap labC)
@[irreducible] def okAt (ls : List Lab) (i : Nat) : Bool := match ls[i]? with
  | none => true
  | some x => nameS x.name && valS x.value && match i with
    | 0 => true
    | j + 1 => match ls[j]? with
      | none => true
      | some y => slt y.name x.name
@[irreducible] def isS (ls : List Lab) : Bool := decide (1 ≤ ls.length ∧ ls.length ≤ 6) && (List.range ls.length).all (okAt ls)
end Go.Proofs.YthbjfhhiajihfaaGreat
set_option linter.unusedVariables false
set_option linter.unusedSimpArgs false
set_option maxHeartbeats 400000
set_option maxRecDepth 100000
namespace Go.Proofs.YthbjfhhiajihfaaGreat
open Go Go.X
theorem allOne_ints (xs : List Int) : (xs.map (Value.int .i64)).all (·.oneCell') = true := by simp [Value.oneCell']
theorem cloneI_ok (M : Nat → Prop) (xs : List Int) (v : Value) (w : World) (hv : Sl M w v 1 xs.length (xs.map (.int .i64))) (hb : xs.length * 8 ≤ 140737488355328) :
    Fx Tryz.prog 144 [v] w (fun u w' => Row w' 3 1 u xs.length (xs.map (.int .i64)) ∧ Fresh w.heap.size u ∧ Grow w w') := by
  obtain ⟨ad, c, b, o, rfl, hf⟩ := hv.open
  refine enter Tryz.func144 rfl rfl rfl _ (Pick.sub (l := [0]) (.cons rfl .nil)) ?_
  refine RK.seq ?_
  refine RK.region ?_
  refine RL.p rfl rfl ?_
  refine RL.done ?_
  iterate 2 refine RK.seq ?_
  refine RK.region ?_
  refine RL.p rfl rfl ?_
  refine RL.q (.free rfl) rfl rfl (Yld.eqNil u37 rfl rfl) ?_
  refine RL.done ?_
  first | refine RK.condD rfl (fun h4 => ?_) (fun h4 => ?_) | refine RK.condN rfl (fun h4 => ?_) (fun h4 => ?_) | refine RK.cond rfl (fun h4 => ?_) (fun h4 => ?_)
  · refine RK.seq ?_
    refine RK.region ?_
    refine RL.p rfl rfl ?_
    refine RL.done ?_
    refine RK.ret_of Tryz.func144 (res1 rfl rfl) ?_ _
    exact ⟨_, rfl, by cases ad with | none => (have h0 : xs.length = 0 := by (rcases Nat.eq_zero_or_pos xs.length with h | h; exact h; exact absurd (hf h).1 (by simp))); have : xs = [] := List.eq_nil_of_length_eq_zero h0; subst this; exact ⟨Row.nil _ _ _, fun b hb => by simp [Value.ownBlock] at hb, Mod.refl _ _⟩ | some a => simp at h4⟩
  · refine RK.skip ?_
    refine RK.seq ?_
    refine RK.region ?_
    refine RL.op (.free rfl) rfl rfl (Does.slice0 u37 i3) ?_
    rintro _ w1 ⟨b1, rfl, hn1⟩
    refine RL.p rfl rfl ?_
    refine RL.op (.free rfl) rfl rfl (Does.append u37 i3 rfl rfl rfl rfl rfl (Row.new hn1 1 0 rfl (by omega)) ((hv.mod (Mod.any' hn1.grow)).noM) (allOne_ints xs) (by omega)) ?_
    rintro u w2 ⟨hr, hm, hu⟩
    refine RL.p rfl rfl ?_
    refine RL.done ?_
    refine RK.ret_of Tryz.func144 (res1 rfl rfl) ?_ _
    exact ⟨_, rfl, by simpa using hr, fun b hb => by rcases hu with hu | hu <;> rw [hu] at hb <;> simp [Value.ownBlock] at hb <;> (have := hn1.at_; have := hn1.size; omega), hn1.grow.then hm (fun x hx e => by simp [Value.ownBlock] at e; have := hn1.at_; omega)⟩
end Go.Proofs.YthbjfhhiajihfaaGreat
set_option linter.unusedVariables false
set_option linter.unusedSimpArgs false
set_option maxHeartbeats 400000
set_option maxRecDepth 100000
namespace Go.Proofs.YthbjfhhiajihfaaGreat
open Go Go.X
abbrev ints (xs : List Int) : List Value := xs.map (Value.int .i64)
theorem compact_le (xs : List Int) : (Lib.compact xs).length ≤ xs.length := by
  unfold Lib.compact Lib.compactUpTo
  rw [List.length_map]
  exact Nat.le_trans (List.length_filter_le _ _) (by simp)
def sortI (xs : List Int) : List Int := xs.mergeSort fun x y => decide (x ≤ y)
theorem sortI_len (xs : List Int) : (sortI xs).length = xs.length := by simp [sortI]
theorem sort_ok (xs : List Int) (v : Value) (w : World) (hv : Row w 3 1 v xs.length (ints xs)) (hb : xs.length < 4611686018427387904) :
    Fx Tryz.prog 145 [v] w (fun u w' => u = .tuple #[] ∧ Row w' 3 1 v xs.length (ints (sortI xs)) ∧ Mod (fun b => v.ownBlock = some b) w w') := by
  rcases hv.2 with ⟨rfl, h0⟩ | ⟨g, cap, cur, rfl, _, hg, hn, hcap, hcs, htk⟩
  · have : xs = [] := List.eq_nil_of_length_eq_zero h0
    subst this
    refine Calls.mono (Tryz.slices_Sort_int_none none 0 w) ?_
    rintro e w' ⟨rfl, rfl⟩
    exact ⟨_, rfl, rfl, by simpa [sortI] using Row.nil w' _ _, Mod.refl _ _⟩
  · rw [Nat.mul_one] at htk
    refine Calls.mono (Tryz.slices_Sort_int g 0 cap xs w (holds_of_blockI hg htk) (Array.getElem?_eq_some_iff.1 hg).1 hb) ?_
    rintro e w' ⟨rfl, n, os, rfl⟩
    exact ⟨_, rfl, rfl, ownsRow_sortedI (by simp) (Nat.zero_le _) hg hn hcap hcs, Mod.grownBy (grownBy_sortedI _) (fun k h => by cases h; rfl)⟩
theorem compact_ok (xs : List Int) (v : Value) (w : World) (hv : Row w 3 1 v xs.length (ints xs)) :
    Fx Tryz.prog 146 [v] w (fun u w' => Row w' 3 1 u (Lib.compact xs).length (ints (Lib.compact xs)) ∧ u.ownBlock = v.ownBlock ∧ Mod (fun b => v.ownBlock = some b) w w') := by
  rcases hv.2 with ⟨rfl, h0⟩ | ⟨g, cap, cur, rfl, _, hg, hn, hcap, hcs, htk⟩
  · have : xs = [] := List.eq_nil_of_length_eq_zero h0
    subst this
    refine Calls.mono (Tryz.slices_Compact_int_empty none 0 w) ?_
    rintro e w' ⟨rfl, rfl⟩
    exact ⟨_, rfl, Row.nil w' _ _, rfl, Mod.refl _ _⟩
  · rw [Nat.mul_one] at htk
    refine Calls.mono (Tryz.slices_Compact_int g 0 cap xs w (holds_of_blockI hg htk) (by simp only [maxLen] at hcap; omega) hn) ?_
    rintro e w' ⟨rfl, q, rfl⟩
    have hle : (Lib.compact xs).length ≤ xs.length := compact_le xs
    have hh := heap_sortedI (n := q) (os := #[]) (Lib.compact xs ++ List.replicate (xs.length - (Lib.compact xs).length) 0).toArray hg
    have hgb := grownBy_sortedI (w := w) (g := g) (n := q) (os := #[]) (Lib.compact xs ++ List.replicate (xs.length - (Lib.compact xs).length) 0).toArray
    simp only [Sort.grow_empty] at hh hgb
    refine ⟨_, rfl, ⟨by simp, .inr ⟨g, cap, _, rfl, Nat.zero_le _, hh, by omega, hcap, by simp [Sort.putCells, hcs], ?_⟩⟩, rfl, Mod.grownBy hgb (fun k h => by cases h; rfl)⟩
    have := take_putCellsI cur (Lib.compact xs ++ List.replicate (xs.length - (Lib.compact xs).length) 0) (by simp; omega)
    have h2 := congrArg (List.take (Lib.compact xs).length) this
    rw [List.take_take, Nat.min_eq_left (by simp)] at h2
    rw [Nat.mul_one, h2]
    simp
theorem growNil_ok (m : Nat) (w : World) (hb : m * 8 ≤ 140737488355328) :
    Fx Tryz.prog 218 [.slice none 0 0, .int .i64 m] w (fun u w' => Row w' 3 1 u 0 [] ∧ Fresh w.heap.size u ∧ Grow w w') := by
  refine enter Tryz.func218 rfl rfl rfl _ (Pick.sub (l := [0, 1]) (.cons rfl (.cons rfl .nil))) ?_
  refine RK.seq ?_
  refine RK.region ?_
  refine RL.p rfl rfl ?_
  refine RL.done ?_
  iterate 2 refine RK.seq ?_
  refine RK.region ?_
  iterate 2 refine RL.p rfl rfl ?_
  refine RL.done ?_
  refine RK.condF (hcF rfl (decide_eq_false (by omega))) ?_
  refine RK.skip ?_
  iterate 2 refine RK.seq ?_
  refine RK.region ?_
  iterate 2 refine RL.p rfl rfl ?_
  refine RL.q (.free rfl) rfl rfl (Yld.capSl u37 rfl) ?_
  refine RL.p rfl rfl ?_
  refine RL.q (.free rfl) rfl rfl (Yld.lenSl u37 rfl) ?_
  refine RL.p rfl rfl ?_
  refine RL.re (d := 13) rfl rfl (sub_i64 (z := 0) (by omega) (by omega) (by omega)) ?_
  refine RL.p rfl rfl ?_
  refine RL.re (d := 14) rfl rfl (sub_i64 (z := (m : Int)) (by omega) (by omega) (by omega)) ?_
  refine RL.p rfl rfl ?_
  refine RL.done ?_
  refine RK.seq ?_
  refine RK.region ?_
  iterate 2 refine RL.p rfl rfl ?_
  refine RL.done ?_
  first | refine RK.condD rfl (fun h16 => ?_) (fun h16 => ?_) | refine RK.condN rfl (fun h16 => ?_) (fun h16 => ?_) | refine RK.cond rfl (fun h16 => ?_) (fun h16 => ?_)
  · refine RK.region ?_
    iterate 2 refine RL.p rfl rfl ?_
    refine RL.q (.free rfl) rfl rfl (Yld.capSl u37 rfl) ?_
    refine RL.q (.free rfl) rfl rfl (Yld.sliceHi u37 i3 (m := 0) rfl rfl (by omega)) ?_
    refine RL.p rfl rfl ?_
    refine RL.op (.free rfl) rfl rfl (Does.appendZ u37 Tryz.underlying3 i3 rfl rfl (m := m) (c := 0) rfl rfl (by omega) hb) ?_
    rintro _ w1 ⟨b1, cap1, cur1, rfl, hb1, hh1, hc1, hm1, hs1, hg1⟩
    refine RL.p rfl rfl ?_
    refine RL.q (.free rfl) rfl rfl (Yld.lenSl u37 rfl) ?_
    refine RL.q (.free rfl) rfl rfl (Yld.sliceHi u37 i3 (m := 0) rfl rfl (by omega)) ?_
    refine RL.p rfl rfl ?_
    refine RL.done ?_
    refine RK.seq ?_
    refine RK.region ?_
    iterate 2 refine RL.p rfl rfl ?_
    refine RL.done ?_
    refine RK.ret_of Tryz.func218 (res1 rfl rfl) ?_ _
    exact ⟨_, rfl, ⟨by simp, .inr ⟨b1, cap1, cur1, rfl, Nat.zero_le _, hh1, by omega, hm1, hs1, by simp⟩⟩, fun b hb => by simp [Value.ownBlock] at hb; omega, hg1⟩
  · refine RK.skip ?_
    refine RK.seq ?_
    refine RK.region ?_
    iterate 2 refine RL.p rfl rfl ?_
    refine RL.done ?_
    refine RK.ret_of Tryz.func218 (res1 rfl rfl) ?_ _
    exact ⟨_, rfl, Row.nil _ _ _, fun b hb => by simp [Value.ownBlock] at hb, Mod.refl _ _⟩
def total (pr : List (Value × List Int)) : Nat := (pr.map fun p => p.2.length).sum
theorem total_take {pr : List (Value × List Int)} {k : Nat} {p : Value × List Int} (h : pr[k]? = some p) : total (pr.take (k + 1)) = total (pr.take k) + p.2.length := by
  have hk : k < pr.length := (List.getElem?_eq_some_iff.1 h).1
  rw [List.take_succ_eq_append_getElem hk]
  have : pr[k] = p := (List.getElem?_eq_some_iff.1 h).2
  simp [total, this]
theorem total_le (pr : List (Value × List Int)) (k : Nat) : total (pr.take k) ≤ total pr := by
  have : total pr = total (pr.take k) + total (pr.drop k) := by
    unfold total
    rw [← List.sum_append, ← List.map_append, List.take_append_drop]
  omega
theorem concat_ok (M : Nat → Prop) (pr : List (Value × List Int)) (v : Value) (w : World) (hv : Sl M w v 1 pr.length (pr.map (·.1))) (hs : ∀ p ∈ pr, Sl M w p.1 1 p.2.length (ints p.2)) (hb : total pr * 8 ≤ 140737488355328) :
    Fx Tryz.prog 170 [v] w (fun u w' => Row w' 3 1 u (pr.flatMap (·.2)).length (ints (pr.flatMap (·.2))) ∧ Fresh w.heap.size u ∧ Grow w w') := by
  obtain ⟨ad, c, b, o, rfl, hf⟩ := hv.open
  refine enter Tryz.func170 rfl rfl rfl _ (Pick.sub (l := [0]) (.cons rfl .nil)) ?_
  refine RK.seq ?_
  refine RK.region ?_
  refine RL.p rfl rfl ?_
  refine RL.done ?_
  refine RK.seq ?_
  refine RK.region ?_
  refine RL.p rfl rfl ?_
  refine RL.done ?_
  iterate 2 refine RK.seq ?_
  refine RK.region ?_
  refine RL.p rfl rfl ?_
  refine RL.q (.free rfl) rfl rfl (Yld.lenSl u266 rfl) ?_
  refine RL.p rfl rfl ?_
  refine RL.done ?_
  refine RK.block ?_
  refine RK.loop (fun k : Nat => [(0, .slice ad pr.length c), (9, .slice ad pr.length c), (10, .int .i64 pr.length), (11, .int .i64 k), (3, .int .i64 (total (pr.take k)))]) (fun k w' => w = w' ∧ k ≤ pr.length) (fun k => pr.length - k) 0 ⟨rfl, rfl, rfl, rfl, rfl, trivial⟩ ⟨rfl, by omega⟩ (fun k w' hI ih => ?_)
  obtain ⟨rfl, hk⟩ := hI
  refine RK.seq ?_
  refine RK.region ?_
  refine RL.p rfl rfl ?_
  refine RL.done ?_
  refine RK.seq ?_
  first | refine RK.condD rfl (fun h12 => ?_) (fun h12 => ?_) | refine RK.condN rfl (fun h12 => ?_) (fun h12 => ?_) | refine RK.cond rfl (fun h12 => ?_) (fun h12 => ?_)
  · obtain ⟨p, hp⟩ : ∃ p, pr[k]? = some p := ⟨pr[k]'(by omega), List.getElem?_eq_getElem (by omega)⟩
    obtain ⟨rfl, hbM, hc⟩ := hf (by omega)
    have hsp := hs p (List.mem_of_getElem? hp)
    obtain ⟨adp, cp, hpv⟩ := hsp.shape
    have ht := total_take hp
    have htl := total_le pr (k + 1)
    refine RK.skip ?_
    refine RK.seq ?_
    refine RK.block ?_
    refine RK.seq ?_
    refine RK.region ?_
    refine RL.q (.free rfl) rfl rfl (Yld.indexAddrN u266 i37 rfl rfl (by omega)) ?_
    refine RL.q (.free rfl) rfl rfl (Yld.load p37 rfl (at1 (by have := hc k p.1 (by simp [hp]); rw [hpv] at this; simpa using this))) ?_
    refine RL.p rfl rfl ?_
    refine RL.done ?_
    refine RK.seq ?_
    refine RK.region ?_
    iterate 2 refine RL.p rfl rfl ?_
    refine RL.q (.free rfl) rfl rfl (Yld.lenSl u37 rfl) ?_
    refine RL.p rfl rfl ?_
    refine RL.re (d := 18) rfl rfl (add_i64 (z := ((total (pr.take (k + 1)) : Nat) : Int)) (by rw [ht]; simp) (by omega) (by omega)) ?_
    refine RL.p rfl rfl ?_
    refine RL.done ?_
    refine RK.seq ?_
    refine RK.region ?_
    iterate 2 refine RL.p rfl rfl ?_
    refine RL.done ?_
    refine RK.condF (hcF rfl (decide_eq_false (by omega))) ?_
    refine RK.skip ?_
    refine RK.inBlock ?_
    refine RK.region ?_
    refine RL.p rfl rfl ?_
    refine RL.re (d := 22) rfl rfl (succ_i64 (by have := hv.big; omega)) ?_
    refine RL.p rfl rfl ?_
    refine RL.done ?_
    exact RK.back (ih (k + 1) _ ⟨rfl, by omega⟩ (by omega)) ⟨rfl, rfl, rfl, rfl, rfl, trivial⟩
  · have ek : pr.take k = pr := List.take_of_length_le (by omega)
    rw [ek]
    refine RK.exit rfl ?_
    refine RK.seq ?_
    refine RK.region ?_
    refine RL.p rfl rfl ?_
    refine RL.op (.free rfl) rfl rfl (Does.call rfl e218 (growNil_ok (total pr) _ hb)) ?_
    rintro u0 w1 ⟨hr1, hf1, hg1⟩
    refine RL.p rfl rfl ?_
    refine RL.done ?_
    iterate 2 refine RK.seq ?_
    refine RK.region ?_
    refine RL.p rfl rfl ?_
    refine RL.q (.free rfl) rfl rfl (Yld.lenSl u266 rfl) ?_
    refine RL.p rfl rfl ?_
    refine RL.done ?_
    refine RK.block ?_
    refine RK.loop (fun (s : Nat × Value) => [(25, .slice ad pr.length c), (26, .int .i64 pr.length), (27, .int .i64 s.1), (6, s.2)]) (fun s w' => Row w' 3 1 s.2 ((pr.take s.1).flatMap (·.2)).length (ints ((pr.take s.1).flatMap (·.2))) ∧ Fresh w.heap.size s.2 ∧ Grow w w' ∧ s.1 ≤ pr.length) (fun s => pr.length - s.1) (0, u0) ⟨rfl, rfl, rfl, rfl, trivial⟩ ⟨by simpa using hr1, hf1, hg1, by omega⟩ (fun s w' hI ih => ?_)
    obtain ⟨k2, u⟩ := s
    obtain ⟨hr, hfr, hg, hk2⟩ := hI
    simp only at hr hfr hk2
    refine RK.seq ?_
    refine RK.region ?_
    refine RL.p rfl rfl ?_
    refine RL.done ?_
    refine RK.seq ?_
    first | refine RK.condD rfl (fun h28 => ?_) (fun h28 => ?_) | refine RK.condN rfl (fun h28 => ?_) (fun h28 => ?_) | refine RK.cond rfl (fun h28 => ?_) (fun h28 => ?_)
    · obtain ⟨p, hp⟩ : ∃ p, pr[k2]? = some p := ⟨pr[k2]'(by omega), List.getElem?_eq_getElem (by omega)⟩
      obtain ⟨rfl, hbM, hc⟩ := hf (by omega)
      have hsp := hs p (List.mem_of_getElem? hp)
      have ht := total_take hp
      have htl := total_le pr (k2 + 1)
      have e1 : ((pr.take k2).flatMap (·.2)).length = total (pr.take k2) := by simp [total, List.length_flatMap]
      have e2 : (pr.take (k2 + 1)).flatMap (·.2) = (pr.take k2).flatMap (·.2) ++ p.2 := by rw [List.take_succ_eq_append_getElem (by omega)]; simp [(List.getElem?_eq_some_iff.1 hp).2]
      refine RK.skip ?_
      refine RK.seq ?_
      refine RK.block ?_
      refine RK.seq ?_
      refine RK.region ?_
      refine RL.q (.free rfl) rfl rfl (Yld.indexAddrN u266 i37 rfl rfl (by omega)) ?_
      refine RL.q (.free rfl) rfl rfl (Yld.load p37 rfl (at1 (hg.cell (by have := hc k2 p.1 (by simp [hp]); simpa using this) (fun h => h)))) ?_
      refine RL.p rfl rfl ?_
      refine RL.done ?_
      refine RK.region ?_
      iterate 2 refine RL.p rfl rfl ?_
      refine RL.op (.free rfl) rfl rfl (Does.append u37 i3 rfl rfl rfl rfl rfl (hr) ((hsp.mod (Mod.any' hg)).noM) (allOne_ints _) (by rw [e1]; omega)) ?_
      rintro u2 w2 ⟨hr2, hm2, hu2⟩
      refine RL.p rfl rfl ?_
      refine RL.done ?_
      refine RK.inBlock ?_
      refine RK.region ?_
      refine RL.p rfl rfl ?_
      refine RL.re (d := 34) rfl rfl (succ_i64 (by have := hv.big; omega)) ?_
      refine RL.p rfl rfl ?_
      refine RL.done ?_
      exact RK.back (ih (k2 + 1, u2) _ ⟨by rw [e2]; simpa using hr2, fun b hb => by rcases hu2 with h | h <;> rw [h] at hb; exact hfr b hb; (cases hb; exact hg.size), hg.then hm2 (fun x hx e => by have := hfr x e; omega), by simp; omega⟩ (by simp; omega)) ⟨rfl, rfl, rfl, rfl, trivial⟩
    · have ek2 : pr.take k2 = pr := List.take_of_length_le (by omega)
      rw [ek2] at hr
      refine RK.exit rfl ?_
      refine RK.seq ?_
      refine RK.region ?_
      iterate 2 refine RL.p rfl rfl ?_
      refine RL.done ?_
      refine RK.ret_of Tryz.func170 (res1 rfl rfl) ?_ _
      exact ⟨_, rfl, hr, hfr, hg⟩
end Go.Proofs.YthbjfhhiajihfaaGreat
set_option linter.unusedVariables false
set_option linter.unusedSimpArgs false
set_option maxHeartbeats 400000
set_option maxRecDepth 100000
namespace Go.Proofs.YthbjfhhiajihfaaGreat
open Go Go.X
def mkRow (xs : List Int) : List Int := Lib.compact (sortI xs)
theorem mkRow_le (xs : List Int) : (mkRow xs).length ≤ xs.length := by
  have := compact_le (sortI xs)
  rw [sortI_len] at this
  exact this
theorem make_ok (M : Nat → Prop) (xs : List Int) (v : Value) (w : World) (hv : Sl M w v 1 xs.length (ints xs)) (hb : xs.length * 8 ≤ 140737488355328) :
    Fx Tryz.prog 78 [v] w (fun u w' => Row w' 3 1 u (mkRow xs).length (ints (mkRow xs)) ∧ Fresh w.heap.size u ∧ Grow w w') := by
  refine enter Tryz.func78 rfl rfl rfl _ (Pick.sub (l := [0]) (.cons rfl .nil)) ?_
  refine RK.seq ?_
  refine RK.region ?_
  refine RL.p rfl rfl ?_
  refine RL.done ?_
  refine RK.seq ?_
  refine RK.region ?_
  refine RL.p rfl rfl ?_
  refine RL.op (.free rfl) rfl rfl (Does.call rfl e144 (cloneI_ok M xs v _ hv hb)) ?_
  rintro u1 w1 ⟨hr1, hf1, hg1⟩
  refine RL.p rfl rfl ?_
  refine RL.done ?_
  refine RK.seq ?_
  refine RK.region ?_
  refine RL.p rfl rfl ?_
  refine RL.op (.free rfl) rfl rfl (Does.call rfl e145 (sort_ok xs u1 _ hr1 (by omega))) ?_
  rintro _ w2 ⟨rfl, hr2, hm2⟩
  refine RL.done ?_
  refine RK.seq ?_
  refine RK.region ?_
  refine RL.p rfl rfl ?_
  refine RL.op (.free rfl) rfl rfl (Does.call rfl e146 (compact_ok (sortI xs) u1 _ (by rw [sortI_len]; exact hr2))) ?_
  rintro u3 w3 ⟨hr3, hu3, hm3⟩
  refine RL.p rfl rfl ?_
  refine RL.done ?_
  refine RK.ret_of Tryz.func78 (res1 rfl rfl) ?_ _
  exact ⟨_, rfl, hr3, fun b hb => hf1 b (by rw [← hu3]; exact hb), (hg1.then hm2 (fun x hx e => by have := hf1 x e; omega)).then hm3 (fun x hx e => by have := hf1 x e; omega)⟩
theorem or_ok (M : Nat → Prop) (xs ys : List Int) (va vb : Value) (w : World) (ha : Sl M w va 1 xs.length (ints xs)) (hbv : Sl M w vb 1 ys.length (ints ys)) (hb : (xs.length + ys.length) * 8 ≤ 140737488355328) :
    Fx Tryz.prog 123 [va, vb] w (fun u w' => Row w' 3 1 u (mkRow (xs ++ ys)).length (ints (mkRow (xs ++ ys))) ∧ Fresh w.heap.size u ∧ Grow w w') := by
  obtain ⟨ad, c, rfl⟩ := ha.shape
  obtain ⟨ad', c', rfl⟩ := hbv.shape
  refine enter Tryz.func123 rfl rfl rfl _ (Pick.sub (l := [0, 1]) (.cons rfl (.cons rfl .nil))) ?_
  refine RK.seq ?_
  refine RK.region ?_
  refine RL.p rfl rfl ?_
  refine RL.done ?_
  refine RK.seq ?_
  refine RK.region ?_
  iterate 2 refine RL.p rfl rfl ?_
  refine RL.op (.free rfl) rfl rfl (Does.bslice (el := 37) ([.slice ad xs.length c, .slice ad' ys.length c']) rfl (fun w => by kernel_rfl)) ?_
  rintro _ w1 ⟨b1, rfl, hn1⟩
  refine RL.op (.free rfl) rfl rfl (Does.call rfl e170 (concat_ok No [(.slice ad xs.length c, xs), (.slice ad' ys.length c', ys)] _ _ (Sl.new hn1 1 2 rfl (by omega) (fun h => h)) (by intro p hp; simp at hp; rcases hp with rfl | rfl; exact (ha.mod (Mod.any' hn1.grow)).noM; exact (hbv.mod (Mod.any' hn1.grow)).noM) (by simp [total]; omega))) ?_
  rintro u2 w2 ⟨hr2, hf2, hg2⟩
  simp only [List.flatMap_cons, List.flatMap_nil, List.append_nil] at hr2
  refine RL.op (.free rfl) rfl rfl (Does.call rfl e78 (make_ok No (xs ++ ys) u2 _ (Sl.own hr2 (fun _ _ h => h)) (by simp; omega))) ?_
  rintro u3 w3 ⟨hr3, hf3, hg3⟩
  refine RL.p rfl rfl ?_
  refine RL.done ?_
  refine RK.ret_of Tryz.func123 (res1 rfl rfl) ?_ _
  exact ⟨_, rfl, hr3, fun b hb => by have := hf3 b hb; have := hg2.size; have := hn1.grow.size; omega, (hn1.grow.trans hg2).trans hg3⟩
theorem put_ok (M : Nat → Prop) (xs : List Int) (x : Int) (v : Value) (w : World) (hv : Sl M w v 1 xs.length (ints xs)) (hb : (xs.length + 1) * 8 ≤ 140737488355328) :
    Fx Tryz.prog 77 [v, .int .i64 x] w (fun u w' => Row w' 3 1 u (mkRow (xs ++ [x])).length (ints (mkRow (xs ++ [x]))) ∧ Fresh w.heap.size u ∧ Grow w w') := by
  refine enter Tryz.func77 rfl rfl rfl _ (Pick.sub (l := [0, 1]) (.cons rfl (.cons rfl .nil))) ?_
  refine RK.seq ?_
  refine RK.region ?_
  refine RL.p rfl rfl ?_
  refine RL.done ?_
  refine RK.seq ?_
  refine RK.region ?_
  iterate 2 refine RL.p rfl rfl ?_
  refine RL.op (.free rfl) rfl rfl (Does.slice1 u37 i3 rfl rfl rfl rfl rfl) ?_
  rintro _ w1 ⟨b1, rfl, hn1⟩
  refine RL.op (.free rfl) rfl rfl (Does.call rfl e123 (or_ok No xs [x] v _ _ (hv.mod (Mod.any' hn1.grow)).noM (Sl.new hn1 1 1 rfl (by omega) (fun h => h)) (by simpa using hb))) ?_
  rintro u2 w2 ⟨hr2, hf2, hg2⟩
  refine RL.p rfl rfl ?_
  refine RL.done ?_
  refine RK.ret_of Tryz.func77 (res1 rfl rfl) ?_ _
  exact ⟨_, rfl, hr2, fun b hb => by have := hf2 b hb; have := hn1.grow.size; omega, hn1.grow.trans hg2⟩
end Go.Proofs.YthbjfhhiajihfaaGreat
set_option linter.unusedVariables false
set_option linter.unusedSimpArgs false
set_option maxHeartbeats 400000
set_option maxRecDepth 100000
namespace Go.Proofs.YthbjfhhiajihfaaGreat
open Go Go.X
def canS (b : Nat) : Nat := if nanS b then 9221120237041090561 else b
theorem nan_ok (w : World) : Fx Tryz.prog 38 [] w (fun u w' => u = .float .f64 9221120237041090561 ∧ w = w') := by
  refine enter Tryz.func38 rfl rfl rfl _ (Pick.sub (l := []) .nil) ?_
  refine RK.seq ?_
  refine RK.region ?_
  refine RL.p rfl rfl ?_
  refine RL.done ?_
  refine RK.seq ?_
  refine RK.region ?_
  refine RL.q (.free rfl) rfl rfl (Yld.callx rfl (fun w => x95 _ w)) ?_
  refine RL.p rfl rfl ?_
  refine RL.done ?_
  refine RK.ret_of Tryz.func38 (res1 rfl rfl) ?_ _
  exact ⟨_, rfl, rfl, rfl⟩
end Go.Proofs.YthbjfhhiajihfaaGreat
set_option linter.unusedVariables false
set_option linter.unusedSimpArgs false
set_option maxHeartbeats 1000000
set_option maxRecDepth 100000
namespace Go.Proofs.YthbjfhhiajihfaaGreat
open Go Go.X Go.Rex
theorem setAt_of : ∀ {l : List Value} {i : Nat} {v : Value}, i < l.length → SetAt l i v (l.set i v)
  | u :: l, 0, v, _ => .z
  | u :: l, i + 1, v, h => .s (setAt_of (by simpa using h))
abbrev PA (w : World) (p : Nat) (s : ByteArray) (i : Nat) (bad : Bool) : Prop := Blk w p 308 [.string s, .int .i64 (i : Int), .bool bad]
theorem over_ok (w : World) (p : Nat) (s : ByteArray) (i : Nat) (bad : Bool) (h : PA w p s i bad) : Fx Tryz.prog 308 [pp p] w (fun u w' => u = .bool (bad || decide (s.size ≤ i)) ∧ Grow w w') := by
  refine enter Tryz.func308 rfl rfl rfl _ (Pick.sub (l := [0]) (.cons rfl .nil)) ?_
  refine RK.seq ?_
  refine RK.region ?_
  refine RL.p rfl rfl ?_
  refine RL.done ?_
  refine RK.seq ?_
  refine RK.drawM No [(0, false), (1, false), (2, false), (3, false), (4, false), (5, false), (6, false), (7, false), (8, false), (9, false), (10, false), (11, false), (12, false), (13, false), (14, false), (15, false), (16, false)] [] mixed (by kernel_rfl) ?_
  iterate 2 refine DL.p rfl rfl rfl ?_
  refine DL.qf rfl (.free rfl) rfl rfl (Yld.fieldAddr fo308_2 rfl) ?_
  refine DL.q rfl (.free rfl) rfl rfl rfl (Yld.load p4 rfl (atM (h.cell rfl) (fun h => h))) (Mod.drew _ _) ?_
  refine DL.p rfl rfl rfl ?_
  first | refine DL.splitD (d := 7) rfl rfl (fun h7 => ?_) (fun h7 => ?_) | refine DL.splitN (d := 7) rfl rfl (fun h7 => ?_) (fun h7 => ?_) | refine DL.split (d := 7) rfl rfl (fun h7 => ?_) (fun h7 => ?_)
  · iterate 10 refine DL.no rfl (.no rfl rfl rfl rfl) rfl rfl ?_
    iterate 2 refine DL.p rfl rfl rfl ?_
    refine DL.done ?_
    refine RK.ret_of Tryz.func308 (res1 rfl rfl) ?_ _
    exact ⟨_, rfl, by simp_all, Mod.drew _ _⟩
  · iterate 2 refine DL.qf rfl (.yes rfl rfl rfl) rfl rfl (Yld.pure rfl) ?_
    refine DL.qf rfl (.yes rfl rfl rfl) rfl rfl (Yld.fieldAddr fo308_1 rfl) ?_
    refine DL.q rfl (.yes rfl rfl rfl) rfl rfl rfl (Yld.load p3 rfl (atM (h.cell rfl) (fun h => h))) (Mod.drew _ _) ?_
    iterate 2 refine DL.qf rfl (.yes rfl rfl rfl) rfl rfl (Yld.pure rfl) ?_
    refine DL.qf rfl (.yes rfl rfl rfl) rfl rfl (Yld.fieldAddr fo308_0 rfl) ?_
    refine DL.q rfl (.yes rfl rfl rfl) rfl rfl rfl (Yld.load p9 rfl (atM (h.cell rfl) (fun h => h))) (Mod.drew _ _) ?_
    refine DL.q rfl (.yes rfl rfl rfl) rfl rfl rfl (Yld.lenStr u9 rfl) (Mod.drew _ _) ?_
    refine DL.qf rfl (.yes rfl rfl rfl) rfl rfl (Yld.pure rfl) ?_
    iterate 2 refine DL.p rfl rfl rfl ?_
    refine DL.done ?_
    refine RK.ret_of Tryz.func308 (res1 rfl rfl) ?_ _
    exact ⟨_, rfl, by simp_all, Mod.drew _ _⟩
def seesS (s : ByteArray) (i : Nat) (bad : Bool) (c : Nat) : Bool := !bad && decide (i < s.size ∧ b8 s i = c)
theorem sees_ok (w : World) (p : Nat) (s : ByteArray) (i : Nat) (bad : Bool) (h : PA w p s i bad) (c : Nat) : Fx Tryz.prog 309 [pp p, .int .u8 (c : Int)] w (fun u w' => u = .bool (seesS s i bad c) ∧ Grow w w') := by
  refine enter Tryz.func309 rfl rfl rfl _ (Pick.sub (l := [0, 1]) (.cons rfl (.cons rfl .nil))) ?_
  refine RK.seq ?_
  refine RK.region ?_
  refine RL.p rfl rfl ?_
  refine RL.done ?_
  refine RK.seq ?_
  refine RK.drawM No [(0, false), (1, true), (2, false), (3, false), (4, false), (5, false), (6, false), (7, false), (8, false), (9, false), (10, false), (11, false), (12, false), (13, false), (14, false), (15, false), (16, false)] [] mixed (by kernel_rfl) ?_
  refine DL.p rfl rfl rfl ?_
  refine DL.op rfl (.free rfl) rfl rfl (Does.call rfl e308 (over_ok _ p s i bad (h.mod (Mod.drew No _) (fun h => h)))) ?_
  rintro _ w2 ⟨rfl, hg2⟩
  have hgd : Grow w w2 := (Mod.drew _ _).trans hg2
  refine ⟨hgd, ?_⟩
  iterate 2 refine DL.p rfl rfl rfl ?_
  first | refine DL.splitD (d := 8) rfl rfl (fun h8 => ?_) (fun h8 => ?_) | refine DL.splitN (d := 8) rfl rfl (fun h8 => ?_) (fun h8 => ?_) | refine DL.split (d := 8) rfl rfl (fun h8 => ?_) (fun h8 => ?_)
  · have h9 : bad = false ∧ i < s.size := by simpa using h8
    iterate 2 refine DL.qf rfl (.yes rfl rfl rfl) rfl rfl (Yld.pure rfl) ?_
    refine DL.qf rfl (.yes rfl rfl rfl) rfl rfl (Yld.fieldAddr fo308_0 rfl) ?_
    refine DL.q rfl (.yes rfl rfl rfl) rfl rfl rfl (Yld.load p9 rfl (atM (h.cell rfl) (fun h => h))) (hgd) ?_
    iterate 2 refine DL.qf rfl (.yes rfl rfl rfl) rfl rfl (Yld.pure rfl) ?_
    refine DL.qf rfl (.yes rfl rfl rfl) rfl rfl (Yld.fieldAddr fo308_1 rfl) ?_
    refine DL.q rfl (.yes rfl rfl rfl) rfl rfl rfl (Yld.load p3 rfl (atM (h.cell rfl) (fun h => h))) (hgd) ?_
    refine DL.qf rfl (.yes rfl rfl rfl) rfl rfl (Yld.idxStrN u9 rfl rfl (h9.2)) ?_
    iterate 2 refine DL.qf rfl (.yes rfl rfl rfl) rfl rfl (Yld.pure rfl) ?_
    iterate 2 refine DL.p rfl rfl rfl ?_
    refine DL.done ?_
    refine RK.ret_of Tryz.func309 (res1 rfl rfl) ?_ _
    exact ⟨_, rfl, by unfold seesS b8; simp [h9]; omega, hgd⟩
  · iterate 11 refine DL.no rfl (.no rfl rfl rfl rfl) rfl rfl ?_
    iterate 2 refine DL.p rfl rfl rfl ?_
    refine DL.done ?_
    refine RK.ret_of Tryz.func309 (res1 rfl rfl) ?_ _
    exact ⟨_, rfl, by unfold seesS; simp at h8; cases bad with | true => rfl | false => (simp at h8 ⊢; intro h; omega), hgd⟩
theorem next_ok (w : World) (p : Nat) (s : ByteArray) (i : Nat) (bad : Bool) (h : PA w p s i bad) (hi : i ≤ 1000) (c : Nat) : Fx Tryz.prog 293 [pp p, .int .u8 (c : Int)] w (fun u w' => u = .bool (seesS s i bad c) ∧ PA w' p s (if seesS s i bad c then i + 1 else i) bad ∧ Mod (· = p) w w') := by
  refine enter Tryz.func293 rfl rfl rfl _ (Pick.sub (l := [0, 1]) (.cons rfl (.cons rfl .nil))) ?_
  refine RK.seq ?_
  refine RK.region ?_
  refine RL.p rfl rfl ?_
  refine RL.done ?_
  iterate 2 refine RK.seq ?_
  refine RK.region ?_
  iterate 2 refine RL.p rfl rfl ?_
  refine RL.op (.free rfl) rfl rfl (Does.call rfl e309 (sees_ok _ p s i bad h c)) ?_
  rintro _ w2 ⟨rfl, hg2⟩
  have h2 := h.mod hg2 (fun h => h)
  refine RL.p rfl rfl ?_
  refine RL.done ?_
  first | refine RK.condD rfl (fun h8 => ?_) (fun h8 => ?_) | refine RK.condN rfl (fun h8 => ?_) (fun h8 => ?_) | refine RK.cond rfl (fun h8 => ?_) (fun h8 => ?_)
  · have h9 : seesS s i bad c = false := by simpa using h8
    refine RK.seq ?_
    refine RK.region ?_
    refine RL.p rfl rfl ?_
    refine RL.done ?_
    refine RK.ret_of Tryz.func293 (res1 rfl rfl) ?_ _
    exact ⟨_, rfl, by rw [h9], by rw [h9]; exact h2, Mod.any' hg2⟩
  · have h9 : seesS s i bad c = true := by simpa using h8
    refine RK.skip ?_
    refine RK.seq ?_
    refine RK.region ?_
    iterate 2 refine RL.p rfl rfl ?_
    refine RL.q (.free rfl) rfl rfl (Yld.fieldAddr fo308_1 rfl) ?_
    refine RL.q (.free rfl) rfl rfl (Yld.load p3 rfl (at1 (h2.cell rfl))) ?_
    refine RL.p rfl rfl ?_
    refine RL.re (d := 13) rfl rfl (succ_i64 (by omega)) ?_
    refine RL.p rfl rfl ?_
    refine RL.q (.free rfl) rfl rfl (Yld.fieldAddr fo308_1 rfl) ?_
    refine RL.op' (.free rfl) rfl (Does.store i3 rfl rfl rfl h2 (.s .z)) ?_
    rintro _ w3 ⟨hb3, hm3, _⟩
    refine RL.done ?_
    refine RK.seq ?_
    refine RK.region ?_
    refine RL.p rfl rfl ?_
    refine RL.done ?_
    refine RK.ret_of Tryz.func293 (res1 rfl rfl) ?_ _
    exact ⟨_, rfl, by rw [h9], by rw [h9]; exact hb3, (Mod.any' hg2).trans hm3⟩
theorem byte_no (w : World) (p : Nat) (s : ByteArray) (i : Nat) (bad : Bool) (h : PA w p s i bad) (hn : bad = true ∨ s.size ≤ i) : Fx Tryz.prog 322 [pp p] w (fun u w' => u = .int .u8 ((0 : Nat) : Int) ∧ PA w' p s i true ∧ Mod (· = p) w w') := by
  refine enter Tryz.func322 rfl rfl rfl _ (Pick.sub (l := [0]) (.cons rfl .nil)) ?_
  refine RK.seq ?_
  refine RK.region ?_
  refine RL.p rfl rfl ?_
  refine RL.done ?_
  iterate 2 refine RK.seq ?_
  refine RK.region ?_
  refine RL.p rfl rfl ?_
  refine RL.op (.free rfl) rfl rfl (Does.call rfl e308 (over_ok _ p s i bad h)) ?_
  rintro _ w2 ⟨rfl, hg2⟩
  have h2 := h.mod hg2 (fun h => h)
  refine RL.done ?_
  refine RK.condT (hcT rfl (by simpa using hn)) ?_
  refine RK.seq ?_
  refine RK.region ?_
  iterate 2 refine RL.p rfl rfl ?_
  refine RL.q (.free rfl) rfl rfl (Yld.fieldAddr fo308_2 rfl) ?_
  refine RL.op' (.free rfl) rfl (Does.store i4 rfl rfl rfl h2 (.s (.s .z))) ?_
  rintro _ w3 ⟨hb3, hm3, _⟩
  refine RL.done ?_
  refine RK.seq ?_
  refine RK.region ?_
  refine RL.p rfl rfl ?_
  refine RL.done ?_
  refine RK.ret_of Tryz.func322 (res1 rfl rfl) ?_ _
  exact ⟨_, rfl, rfl, hb3, (Mod.any' hg2).trans hm3⟩
theorem byte_yes (w : World) (p : Nat) (s : ByteArray) (i : Nat) (h : PA w p s i false) (hi : i < s.size) (hb : i ≤ 1000) : Fx Tryz.prog 322 [pp p] w (fun u w' => u = .int .u8 (b8 s i : Int) ∧ PA w' p s (i + 1) false ∧ Mod (· = p) w w') := by
  refine enter Tryz.func322 rfl rfl rfl _ (Pick.sub (l := [0]) (.cons rfl .nil)) ?_
  refine RK.seq ?_
  refine RK.region ?_
  refine RL.p rfl rfl ?_
  refine RL.done ?_
  iterate 2 refine RK.seq ?_
  refine RK.region ?_
  refine RL.p rfl rfl ?_
  refine RL.op (.free rfl) rfl rfl (Does.call rfl e308 (over_ok _ p s i false h)) ?_
  rintro _ w2 ⟨rfl, hg2⟩
  have h2 := h.mod hg2 (fun h => h)
  refine RL.done ?_
  refine RK.condF (hcF rfl (by simp; omega)) ?_
  refine RK.skip ?_
  refine RK.seq ?_
  refine RK.region ?_
  iterate 2 refine RL.p rfl rfl ?_
  refine RL.q (.free rfl) rfl rfl (Yld.fieldAddr fo308_1 rfl) ?_
  refine RL.q (.free rfl) rfl rfl (Yld.load p3 rfl (at1 (h2.cell rfl))) ?_
  refine RL.p rfl rfl ?_
  refine RL.re (d := 12) rfl rfl (succ_i64 (by omega)) ?_
  refine RL.p rfl rfl ?_
  refine RL.q (.free rfl) rfl rfl (Yld.fieldAddr fo308_1 rfl) ?_
  refine RL.op' (.free rfl) rfl (Does.store i3 rfl rfl rfl h2 (.s .z)) ?_
  rintro _ w3 ⟨hb3, hm3, _⟩
  have h3 : PA w3 p s (i + 1) false := hb3
  refine RL.done ?_
  refine RK.seq ?_
  refine RK.drawM No [(0, false), (1, false), (2, false), (3, false), (4, false), (5, false), (6, false), (7, false), (8, false), (9, false), (10, false)] [] mixed (by kernel_rfl) ?_
  iterate 2 refine DL.p rfl rfl rfl ?_
  refine DL.qf rfl (.free rfl) rfl rfl (Yld.fieldAddr fo308_0 rfl) ?_
  refine DL.q rfl (.free rfl) rfl rfl rfl (Yld.load p9 rfl (atM (h3.cell rfl) (fun h => h))) (Mod.drew _ _) ?_
  iterate 2 refine DL.p rfl rfl rfl ?_
  refine DL.qf rfl (.free rfl) rfl rfl (Yld.fieldAddr fo308_1 rfl) ?_
  refine DL.q rfl (.free rfl) rfl rfl rfl (Yld.load p3 rfl (atM (h3.cell rfl) (fun h => h))) (Mod.drew _ _) ?_
  refine DL.p rfl rfl rfl ?_
  refine DL.re (d := 23) rfl rfl (sub_i64 (z := (i : Int)) (by omega) (by omega) (by omega)) ?_
  refine DL.qf rfl (.free rfl) rfl rfl (Yld.idxStrN u9 rfl rfl (hi)) ?_
  refine DL.p rfl rfl rfl ?_
  refine DL.done ?_
  refine RK.ret_of Tryz.func322 (res1 rfl rfl) ?_ _
  exact ⟨_, rfl, rfl, h3.mod (Mod.drew No _) (fun h => h), ((Mod.any' hg2).trans hm3).trans (Mod.drew _ _)⟩
theorem idx_neg (l : List UInt8) (c : UInt8) : (Lib.indexByte l c < 0 ↔ c ∉ l) ∧ -1 ≤ Lib.indexByte l c := by
  induction l with
  | nil => simp [Lib.indexByte]
  | cons b l ih =>
    unfold Lib.indexByte
    by_cases e : b = c
    · subst e; simp
    · rw [if_neg (by simpa using e)]
      obtain ⟨h1, h2⟩ := ih
      by_cases e2 : Lib.indexByte l c = -1
      · rw [if_pos (by simpa using e2)]
        have : c ∉ l := h1.1 (by omega)
        simp [this, Ne.symm e]
      · rw [if_neg (by simpa using e2)]
        have h3 : ¬ Lib.indexByte l c < 0 := by omega
        have h4 : c ∈ l := Classical.byContradiction fun h => h3 (h1.2 h)
        refine ⟨⟨fun h => by omega, fun h => absurd (List.mem_cons_of_mem _ h4) h⟩, by omega⟩
theorem indexByte_ok (w : World) (t : ByteArray) (c : Nat) (hc : c < 256) : Fx Tryz.prog 327 [.string t, .int .u8 (c : Int)] w (fun u w' => ∃ z : Int, u = .int .i64 z ∧ (z < 0 ↔ ¬ ∃ b ∈ t.data.toList, b.toNat = c) ∧ w = w') := by
  refine Calls.mono (Tryz.strings_IndexByte t (c : Int) w) ?_
  rintro e w' ⟨rfl, rfl⟩
  refine ⟨_, rfl, _, rfl, ?_, rfl⟩
  rw [(idx_neg _ _).1]
  have : ((c : Int).toNat.toUInt8).toNat = c := by simp; omega
  constructor
  · rintro h ⟨b, hb, e⟩
    exact h (by rw [show (c : Int).toNat.toUInt8 = b from UInt8.toNat_inj.1 (by omega)]; exact hb)
  · intro h hm
    exact h ⟨_, hm, this⟩
end Go.Proofs.YthbjfhhiajihfaaGreat
