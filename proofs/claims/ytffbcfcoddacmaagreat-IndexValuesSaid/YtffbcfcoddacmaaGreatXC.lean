/- What arguments hold: lists within structs, structs of a few fields. Nothing is assumed. -/
import Derived.Test.YtffbcfcoddacmaaGreatXB
set_option linter.unusedVariables false
namespace Go.X
open Go Go.RowKit Go.WideShapes Go.ChangeShapes
section
variable {H : Type} {enc : TypeId × Value → H} {P : Program} {W : World} {base : Nat} {sp : Nat → Bool} {held : Bool}
theorem trod_list {α : Type} (f : α → List Value) (Q : α → Prop) {sz : Nat} (hf : ∀ x, (f x).length = sz) {t e : TypeId} {m0 : Nat} {cs0 : List Value} {y : DataW H × List MemPlace} (ht : P.underlying t = some (.slice e)) (hc : P.cellsOf e = sz) (hsz : 0 < sz) (hd : DataW.trod enc P W 0 sp held m0 t cs0 = some y)
    (hel : ∀ (m : Nat) (cs : List Value) (y : DataW H × List MemPlace), DataW.trod enc P W 0 sp held m e cs = some y → ∃ x, cs = f x ∧ Q x) : ∃ (v : Value) (xs : List α), cs0 = [v] ∧ Sl No W v sz xs.length (xs.flatMap f) ∧ (∀ x ∈ xs, Q x) ∧ xs.length ≤ maxLen := by
  rcases DataW.trod_slice ht hd with ⟨h0, _⟩ | ⟨a', len, cap, elems, rest, n, _, hcs, _, _, hl, hm, hlen, hall, _⟩
  · subst h0
    exact ⟨_, [], rfl, Sl.nil _ _ _ _ _, by simp, by simp⟩
  · subst hcs
    rw [hc] at hall
    have key : ∀ i, i < len → ∃ x, Q x ∧ ∀ j u, (f x)[j]? = some u → W.cell? (a'.add (i * sz) |>.add j) = some u := by
      intro i hi
      have h1 := hall i hi
      rw [List.getElem?_eq_getElem (by omega)] at h1
      rw [Option.bind_eq_some_iff] at h1
      obtain ⟨cs, h2, h3⟩ := h1
      obtain ⟨x, rfl, hQ⟩ := hel n cs _ h3
      refine ⟨x, hQ, fun j u hj => ?_⟩
      have hj' : j < sz := by have := (List.getElem?_eq_some_iff.1 hj).1; rwa [hf] at this
      rw [(World.cells?_some h2).2.2 j hj', hj]
    have build : ∀ k, k ≤ len → ∃ xs : List α, xs.length = k ∧ (∀ x ∈ xs, Q x) ∧ ∀ i x, xs[i]? = some x → ∀ j u, (f x)[j]? = some u → W.cell? (a'.add (i * sz) |>.add j) = some u := by
      intro k
      induction k with
      | zero => intro _; exact ⟨[], rfl, by simp, by simp⟩
      | succ k ih =>
        intro hk
        obtain ⟨xs, h1, h2, h3⟩ := ih (by omega)
        obtain ⟨x, hQ, hx⟩ := key k (by omega)
        refine ⟨xs ++ [x], by simp [h1], fun y hy => ?_, fun i y hy => ?_⟩
        · rcases List.mem_append.1 hy with h | h
          · exact h2 y h
          · simp at h; subst h; exact hQ
        · by_cases hi : i < xs.length
          · rw [List.getElem?_append_left hi] at hy; exact h3 i y hy
          · have : i = k := by
              have := (List.getElem?_eq_some_iff.1 hy).1
              simp at this; omega
            subst this
            rw [List.getElem?_append_right (by omega), h1] at hy
            simp at hy; subst hy
            exact hx
    obtain ⟨xs, h1, h2, h3⟩ := build len (Nat.le_refl _)
    refine ⟨_, xs, rfl, ⟨flat_len f sz hf xs, by simp only [maxLen] at hm; omega, some a', cap, by rw [h1], fun hn => ?_⟩, h2, by omega⟩
    obtain ⟨b, o, spot⟩ := a'
    obtain ⟨x0, hx0⟩ : ∃ x, xs[0]? = some x := ⟨xs[0]'hn, List.getElem?_eq_getElem hn⟩
    have hu0 : 0 < (f x0).length := by rw [hf]; exact hsz
    have h4 := h3 0 x0 hx0 0 _ (List.getElem?_eq_getElem hu0)
    have hspot : spot = none := by simpa [Addr.add] using World.cell?_spot h4
    subst hspot
    refine ⟨b, o, rfl, fun h => h, fun j u hj => ?_⟩
    have hjl := (List.getElem?_eq_some_iff.1 hj).1
    rw [flat_len f sz hf] at hjl
    have hdm : j / sz * sz + j % sz = j := by rw [Nat.mul_comm]; exact Nat.div_add_mod j sz
    have hq : j / sz < xs.length := Nat.div_lt_of_lt_mul (by rw [Nat.mul_comm]; exact hjl)
    have hr : j % sz < sz := Nat.mod_lt _ hsz
    have hx := List.getElem?_eq_getElem hq
    have h5 := flat_get f sz hf xs (j / sz) (j % sz) _ hx hr
    rw [hdm, hj] at h5
    have h6 := h3 (j / sz) _ hx (j % sz) u h5.symm
    rw [add_none, add_none, Nat.add_assoc, hdm] at h6
    exact h6
theorem trod_bool {s m : Nat} {cs : List Value} {y : DataW H × List MemPlace} (hs : P.underlying s = some .bool) (h : DataW.trod enc P W base sp held m s cs = some y) : ∃ b : Bool, cs = [.bool b] := by
  cases m with
  | zero => simp [DataW.trod] at h
  | succ n =>
    unfold DataW.trod at h
    rw [hs] at h
    split at h <;> simp_all
theorem trod_int {s m : Nat} {k : IntKind} {cs : List Value} {y : DataW H × List MemPlace} (hs : P.underlying s = some (.int k)) (h : DataW.trod enc P W base sp held m s cs = some y) : ∃ b : Int, cs = [.int k b] ∧ (Lit.int k b).wf = true := by
  cases m with
  | zero => simp [DataW.trod] at h
  | succ n =>
    unfold DataW.trod at h
    rw [hs] at h
    split at h <;> simp_all
theorem trod_fields {t m : Nat} {fs : Array Field} {cs : List Value} {y : DataW H × List MemPlace} (ht : P.underlying t = some (.struct fs)) (h : DataW.trod enc P W base sp held m t cs = some y) : cs.length = P.cellsOf t ∧ ∀ (i : Nat) (f : Field), fs[i]? = some f → ∃ n y', DataW.trod enc P W base sp held n f.type ((cs.drop f.offset).take (P.cellsOf f.type)) = some y' := by
  obtain ⟨xs, n, _, _, hl, hxl, hx⟩ := DataW.trod_struct ht h
  refine ⟨hl, fun i f hf => ?_⟩
  have h1 := hx i f hf
  have hi : i < fs.size := (Array.getElem?_eq_some_iff.1 hf).1
  rw [List.getElem?_eq_getElem (by omega)] at h1
  exact ⟨n, _, h1⟩
theorem trod_3 {t m t0 t1 t2 : Nat} {fs : Array Field} {cs : List Value} {y : DataW H × List MemPlace} (ht : P.underlying t = some (.struct fs)) (hfs : fs.toList.map (fun f => (f.type, f.offset)) = [(t0, 0), (t1, 1), (t2, 2)]) (c0 : P.cellsOf t0 = 1) (c1 : P.cellsOf t1 = 1) (c2 : P.cellsOf t2 = 1) (ct : P.cellsOf t = 3)
    (h : DataW.trod enc P W base sp held m t cs = some y) : ∃ a b c, cs = [a, b, c] ∧ (∃ n y', DataW.trod enc P W base sp held n t0 [a] = some y') ∧ (∃ n y', DataW.trod enc P W base sp held n t1 [b] = some y') ∧ ∃ n y', DataW.trod enc P W base sp held n t2 [c] = some y' := by
  obtain ⟨hl, hx⟩ := trod_fields ht h
  have hsz : fs.toList.length = 3 := by have := congrArg List.length hfs; simpa using this
  obtain ⟨fl⟩ := fs
  match fl, hsz with
  | [f0, f1, f2], _ =>
    simp only [List.map_cons, List.map_nil, List.cons.injEq, Prod.mk.injEq, and_true] at hfs
    obtain ⟨⟨e0, o0⟩, ⟨e1, o1⟩, e2, o2⟩ := hfs
    rw [ct] at hl
    match cs, hl with
    | [a, b, c], _ =>
      have h0 := hx 0 f0 rfl
      have h1 := hx 1 f1 rfl
      have h2 := hx 2 f2 rfl
      rw [e0, o0, c0] at h0
      rw [e1, o1, c1] at h1
      rw [e2, o2, c2] at h2
      exact ⟨a, b, c, rfl, h0, h1, h2⟩
theorem trod_4 {t m t0 t1 t2 t3 : Nat} {fs : Array Field} {cs : List Value} {y : DataW H × List MemPlace} (ht : P.underlying t = some (.struct fs)) (hfs : fs.toList.map (fun f => (f.type, f.offset)) = [(t0, 0), (t1, 1), (t2, 2), (t3, 3)]) (c0 : P.cellsOf t0 = 1) (c1 : P.cellsOf t1 = 1) (c2 : P.cellsOf t2 = 1) (c3 : P.cellsOf t3 = 1) (ct : P.cellsOf t = 4)
    (h : DataW.trod enc P W base sp held m t cs = some y) : ∃ a b c d, cs = [a, b, c, d] ∧ (∃ n y', DataW.trod enc P W base sp held n t0 [a] = some y') ∧ (∃ n y', DataW.trod enc P W base sp held n t1 [b] = some y') ∧ (∃ n y', DataW.trod enc P W base sp held n t2 [c] = some y') ∧ ∃ n y', DataW.trod enc P W base sp held n t3 [d] = some y' := by
  obtain ⟨hl, hx⟩ := trod_fields ht h
  have hsz : fs.toList.length = 4 := by have := congrArg List.length hfs; simpa using this
  obtain ⟨fl⟩ := fs
  match fl, hsz with
  | [f0, f1, f2, f3], _ =>
    simp only [List.map_cons, List.map_nil, List.cons.injEq, Prod.mk.injEq, and_true] at hfs
    obtain ⟨⟨e0, o0⟩, ⟨e1, o1⟩, ⟨e2, o2⟩, e3, o3⟩ := hfs
    rw [ct] at hl
    match cs, hl with
    | [a, b, c, d], _ =>
      have h0 := hx 0 f0 rfl
      have h1 := hx 1 f1 rfl
      have h2 := hx 2 f2 rfl
      have h3 := hx 3 f3 rfl
      rw [e0, o0, c0] at h0
      rw [e1, o1, c1] at h1
      rw [e2, o2, c2] at h2
      rw [e3, o3, c3] at h3
      exact ⟨a, b, c, d, rfl, h0, h1, h2, h3⟩
end
end Go.X
