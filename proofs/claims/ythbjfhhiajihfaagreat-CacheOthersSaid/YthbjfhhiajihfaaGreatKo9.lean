/- What the claim stands on, part 9. Of own lemmas only those that it reaches. -/
import Derived.Test.YthbjfhhiajihfaaGreatKo8
set_option linter.unusedVariables false
namespace Go.X
open Go Go.RowKit Go.WideShapes Go.ChangeShapes
section
variable {H : Type} {enc : TypeId × Value → H} {P : Program} {W : World} {base : Nat} {sp : Nat → Bool} {held : Bool}
theorem trod_list {α : Type} (f : α → List Value) (Q : α → Prop) {sz : Nat} (hf : ∀ x, (f x).length = sz) {t e : TypeId} {m0 : Nat} {cs0 : List Value} {y : DataW H × List MemPlace} (ht : P.underlying t = some (.slice e)) (hc : P.cellsOf e = sz) (hsz : 0 < sz) (hd : DataW.trod enc P W 0 sp held m0 t cs0 = some y)
    (hel : ∀ (m : Nat) (cs : List Value) (y : DataW H × List MemPlace), DataW.trod enc P W 0 sp held m e cs = some y → ∃ x, cs = f x ∧ Q x) : ∃ (v : Value) (xs : List α), cs0 = [v] ∧ Sl No W v sz xs.length (xs.flatMap f) ∧ (∀ x ∈ xs, Q x) ∧ xs.length ≤ maxLen := by
  rcases DataW.trod_slice ht hd with ⟨h0, _⟩ | ⟨a', len, cap, elems, rest, n, _, hcs, _, _, hl, hm, hlen, hall, _⟩
  · subst h0
    exact ⟨_, [], rfl, Sl.nil _ _ _ _ _, by simp, by simp⟩
  · subst hcs
    rw [hc] at hall
    have key : ∀ i, i < len → ∃ x, Q x ∧ ∀ j u, (f x)[j]? = some u → W.cell? (a'.add (i * sz) |>.add j) = some u := by
      intro i hi
      have h1 := hall i hi
      rw [List.getElem?_eq_getElem (by omega)] at h1
      rw [Option.bind_eq_some_iff] at h1
      obtain ⟨cs, h2, h3⟩ := h1
      obtain ⟨x, rfl, hQ⟩ := hel n cs _ h3
      refine ⟨x, hQ, fun j u hj => ?_⟩
      have hj' : j < sz := by have := (List.getElem?_eq_some_iff.1 hj).1; rwa [hf] at this
      rw [(World.cells?_some h2).2.2 j hj', hj]
    have build : ∀ k, k ≤ len → ∃ xs : List α, xs.length = k ∧ (∀ x ∈ xs, Q x) ∧ ∀ i x, xs[i]? = some x → ∀ j u, (f x)[j]? = some u → W.cell? (a'.add (i * sz) |>.add j) = some u := by
      intro k
      induction k with
      | zero => intro _; exact ⟨[], rfl, by simp, by simp⟩
      | succ k ih =>
        intro hk
        obtain ⟨xs, h1, h2, h3⟩ := ih (by omega)
        obtain ⟨x, hQ, hx⟩ := key k (by omega)
        refine ⟨xs ++ [x], by simp [h1], fun y hy => ?_, fun i y hy => ?_⟩
        · rcases List.mem_append.1 hy with h | h
          · exact h2 y h
          · simp at h; subst h; exact hQ
        · by_cases hi : i < xs.length
          · rw [List.getElem?_append_left hi] at hy; exact h3 i y hy
          · have : i = k := by
              have := (List.getElem?_eq_some_iff.1 hy).1
              simp at this; omega
            subst this
            rw [List.getElem?_append_right (by omega), h1] at hy
            simp at hy; subst hy
            exact hx
    obtain ⟨xs, h1, h2, h3⟩ := build len (Nat.le_refl _)
    refine ⟨_, xs, rfl, ⟨flat_len f sz hf xs, by simp only [maxLen] at hm; omega, some a', cap, by rw [h1], fun hn => ?_⟩, h2, by omega⟩
    obtain ⟨b, o, spot⟩ := a'
    obtain ⟨x0, hx0⟩ : ∃ x, xs[0]? = some x := ⟨xs[0]'hn, List.getElem?_eq_getElem hn⟩
    have hu0 : 0 < (f x0).length := by rw [hf]; exact hsz
    have h4 := h3 0 x0 hx0 0 _ (List.getElem?_eq_getElem hu0)
    have hspot : spot = none := by simpa [Addr.add] using World.cell?_spot h4
    subst hspot
    refine ⟨b, o, rfl, fun h => h, fun j u hj => ?_⟩
    have hjl := (List.getElem?_eq_some_iff.1 hj).1
    rw [flat_len f sz hf] at hjl
    have hdm : j / sz * sz + j % sz = j := by rw [Nat.mul_comm]; exact Nat.div_add_mod j sz
    have hq : j / sz < xs.length := Nat.div_lt_of_lt_mul (by rw [Nat.mul_comm]; exact hjl)
    have hr : j % sz < sz := Nat.mod_lt _ hsz
    have hx := List.getElem?_eq_getElem hq
    have h5 := flat_get f sz hf xs (j / sz) (j % sz) _ hx hr
    rw [hdm, hj] at h5
    have h6 := h3 (j / sz) _ hx (j % sz) u h5.symm
    rw [add_none, add_none, Nat.add_assoc, hdm] at h6
    exact h6
theorem trod_int {s m : Nat} {k : IntKind} {cs : List Value} {y : DataW H × List MemPlace} (hs : P.underlying s = some (.int k)) (h : DataW.trod enc P W base sp held m s cs = some y) : ∃ b : Int, cs = [.int k b] ∧ (Lit.int k b).wf = true := by
  cases m with
  | zero => simp [DataW.trod] at h
  | succ n =>
    unfold DataW.trod at h
    rw [hs] at h
    split at h <;> simp_all
theorem trod_fields {t m : Nat} {fs : Array Field} {cs : List Value} {y : DataW H × List MemPlace} (ht : P.underlying t = some (.struct fs)) (h : DataW.trod enc P W base sp held m t cs = some y) : cs.length = P.cellsOf t ∧ ∀ (i : Nat) (f : Field), fs[i]? = some f → ∃ n y', DataW.trod enc P W base sp held n f.type ((cs.drop f.offset).take (P.cellsOf f.type)) = some y' := by
  obtain ⟨xs, n, _, _, hl, hxl, hx⟩ := DataW.trod_struct ht h
  refine ⟨hl, fun i f hf => ?_⟩
  have h1 := hx i f hf
  have hi : i < fs.size := (Array.getElem?_eq_some_iff.1 hf).1
  rw [List.getElem?_eq_getElem (by omega)] at h1
  exact ⟨n, _, h1⟩
theorem trod_3 {t m t0 t1 t2 : Nat} {fs : Array Field} {cs : List Value} {y : DataW H × List MemPlace} (ht : P.underlying t = some (.struct fs)) (hfs : fs.toList.map (fun f => (f.type, f.offset)) = [(t0, 0), (t1, 1), (t2, 2)]) (c0 : P.cellsOf t0 = 1) (c1 : P.cellsOf t1 = 1) (c2 : P.cellsOf t2 = 1) (ct : P.cellsOf t = 3)
    (h : DataW.trod enc P W base sp held m t cs = some y) : ∃ a b c, cs = [a, b, c] ∧ (∃ n y', DataW.trod enc P W base sp held n t0 [a] = some y') ∧ (∃ n y', DataW.trod enc P W base sp held n t1 [b] = some y') ∧ ∃ n y', DataW.trod enc P W base sp held n t2 [c] = some y' := by
  obtain ⟨hl, hx⟩ := trod_fields ht h
  have hsz : fs.toList.length = 3 := by have := congrArg List.length hfs; simpa using this
  obtain ⟨fl⟩ := fs
  match fl, hsz with
  | [f0, f1, f2], _ =>
    simp only [List.map_cons, List.map_nil, List.cons.injEq, Prod.mk.injEq, and_true] at hfs
    obtain ⟨⟨e0, o0⟩, ⟨e1, o1⟩, e2, o2⟩ := hfs
    rw [ct] at hl
    match cs, hl with
    | [a, b, c], _ =>
      have h0 := hx 0 f0 rfl
      have h1 := hx 1 f1 rfl
      have h2 := hx 2 f2 rfl
      rw [e0, o0, c0] at h0
      rw [e1, o1, c1] at h1
      rw [e2, o2, c2] at h2
      exact ⟨a, b, c, rfl, h0, h1, h2⟩
theorem trod_4 {t m t0 t1 t2 t3 : Nat} {fs : Array Field} {cs : List Value} {y : DataW H × List MemPlace} (ht : P.underlying t = some (.struct fs)) (hfs : fs.toList.map (fun f => (f.type, f.offset)) = [(t0, 0), (t1, 1), (t2, 2), (t3, 3)]) (c0 : P.cellsOf t0 = 1) (c1 : P.cellsOf t1 = 1) (c2 : P.cellsOf t2 = 1) (c3 : P.cellsOf t3 = 1) (ct : P.cellsOf t = 4)
    (h : DataW.trod enc P W base sp held m t cs = some y) : ∃ a b c d, cs = [a, b, c, d] ∧ (∃ n y', DataW.trod enc P W base sp held n t0 [a] = some y') ∧ (∃ n y', DataW.trod enc P W base sp held n t1 [b] = some y') ∧ (∃ n y', DataW.trod enc P W base sp held n t2 [c] = some y') ∧ ∃ n y', DataW.trod enc P W base sp held n t3 [d] = some y' := by
  obtain ⟨hl, hx⟩ := trod_fields ht h
  have hsz : fs.toList.length = 4 := by have := congrArg List.length hfs; simpa using this
  obtain ⟨fl⟩ := fs
  match fl, hsz with
  | [f0, f1, f2, f3], _ =>
    simp only [List.map_cons, List.map_nil, List.cons.injEq, Prod.mk.injEq, and_true] at hfs
    obtain ⟨⟨e0, o0⟩, ⟨e1, o1⟩, ⟨e2, o2⟩, e3, o3⟩ := hfs
    rw [ct] at hl
    match cs, hl with
    | [a, b, c, d], _ =>
      have h0 := hx 0 f0 rfl
      have h1 := hx 1 f1 rfl
      have h2 := hx 2 f2 rfl
      have h3 := hx 3 f3 rfl
      rw [e0, o0, c0] at h0
      rw [e1, o1, c1] at h1
      rw [e2, o2, c2] at h2
      rw [e3, o3, c3] at h3
      exact ⟨a, b, c, d, rfl, h0, h1, h2, h3⟩
end
end Go.X
set_option linter.unusedVariables false
namespace Go.X
open Go Go.RowKit Go.WideShapes Go.ChangeShapes
section
variable {H : Type} {enc : TypeId × Value → H} {P : Program} {W : World} {base : Nat} {sp : Nat → Bool} {held : Bool}
theorem trod_r6 {t m t0 t1 t2 t3 : Nat} {fs : Array Field} {cs : List Value} {y : DataW H × List MemPlace} (ht : P.underlying t = some (.struct fs)) (hfs : fs.toList.map (fun f => (f.type, f.offset)) = [(t0, 0), (t1, 1), (t2, 2), (t3, 5)]) (c0 : P.cellsOf t0 = 1) (c1 : P.cellsOf t1 = 1) (c2 : P.cellsOf t2 = 3) (c3 : P.cellsOf t3 = 1) (ct : P.cellsOf t = 6)
    (h : DataW.trod enc P W base sp held m t cs = some y) : ∃ a b c d e f, cs = [a, b, c, d, e, f] ∧ (∃ n y', DataW.trod enc P W base sp held n t0 [a] = some y') ∧ (∃ n y', DataW.trod enc P W base sp held n t1 [b] = some y') ∧ (∃ n y', DataW.trod enc P W base sp held n t2 [c, d, e] = some y') ∧ ∃ n y', DataW.trod enc P W base sp held n t3 [f] = some y' := by
  obtain ⟨hl, hx⟩ := trod_fields ht h
  have hsz : fs.toList.length = 4 := by have := congrArg List.length hfs; simpa using this
  obtain ⟨fl⟩ := fs
  match fl, hsz with
  | [f0, f1, f2, f3], _ =>
    simp only [List.map_cons, List.map_nil, List.cons.injEq, Prod.mk.injEq, and_true] at hfs
    obtain ⟨⟨e0, o0⟩, ⟨e1, o1⟩, ⟨e2, o2⟩, e3, o3⟩ := hfs
    rw [ct] at hl
    match cs, hl with
    | [a, b, c, d, e, f], _ =>
      have h0 := hx 0 f0 rfl
      have h1 := hx 1 f1 rfl
      have h2 := hx 2 f2 rfl
      have h3 := hx 3 f3 rfl
      rw [e0, o0, c0] at h0
      rw [e1, o1, c1] at h1
      rw [e2, o2, c2] at h2
      rw [e3, o3, c3] at h3
      exact ⟨a, b, c, d, e, f, rfl, h0, h1, h2, h3⟩
end
end Go.X
namespace Go.Proofs.YthbjfhhiajihfaaGreat.cacheOthers
open Go.ChangeShapes Go.WideShapes Go.ChangeAt Go.RowKit Go.X
set_option linter.unusedVariables false
theorem own : ownKnob Tryz.prog.godebug = none := by kernel_rfl
theorem laidOut : laidOutB Tryz.prog = true := by kernel_rfl
theorem params_ok : ∀ t ∈ Tryz.f5.params.toList, Tryz.prog.readableRec t = true ∧ t < Tryz.prog.types.size := by
  rw [Tryz.params5]
  intro t ht
  simp only [List.mem_cons, List.not_mem_nil, or_false] at ht
  rcases ht with rfl | rfl | rfl | rfl | rfl | rfl <;> exact ⟨by kernel_rfl, of_decide_eq_true (by kernel_rfl)⟩
set_option maxRecDepth 100000 in
theorem lifted (os : Os) (started : os.Started) (H : Type) (enc : TypeId × Value → H) :
    ReturnsInHanded {} Tryz.checked os 5 .any (Rows.cacheOthersSpec.pre6 enc Tryz.prog Tryz.f5 Rows.cacheOthersRow.domain false) (Rows.cacheOthersSpec.post enc Tryz.prog Tryz.f5 false true false false) := by
  refine returnsInHanded_of_change (C := Tryz.checked) own started (by kernel_rfl) Tryz.func5
    (ChangeSpec.witness6 (enc := enc) (C := Tryz.checked) false ⟨#[], #[.agg #[.slice none 0 0, .slice none 0 0, .int .i64 0, .float .f64 0, .float .f64 0, .slice none 0 0], .slice none 0 0, .int .i64 0, .slice none 0 0, .slice none 0 0, .float .f64 0], []⟩ 8 (by kernel_rfl) (by kernel_rfl) (by kernel_rfl) (by kernel_rfl)) ?_
  intro W base args ds gs before hval0 hW hcnd _
  have hval : ∀ (j : Nat) t v, Tryz.f5.params[j]? = some t → args[j]? = some v → Value.okWide Tryz.prog W .any base t v := hval0
  have hW' := hW
  obtain ⟨p, q, hA0, hV, rfl, hfz, hnd⟩ := hW
  have hlt : ∀ x ∈ p, x.block < W.heap.size := fun x hx => hW'.lt x (List.mem_append_left _ hx)
  have hA : DataW.TrodAll enc Tryz.prog W 0 (fun _ => true) true Tryz.f5.params.toList args.toList ds p := hA0
  have hA1 := hA
  rw [Tryz.params5] at hA hval
  obtain ⟨v0, vs0, d0, ds0, p0, q0, hargs, rfl, rfl, h0, r0⟩ := trodAll_cons hA
  obtain ⟨v1, vs1, d1, ds1, p1, q1, rfl, rfl, rfl, h1, r1⟩ := trodAll_cons r0
  obtain ⟨v2, vs2, d2, ds2, p2, q2, rfl, rfl, rfl, h2, r2⟩ := trodAll_cons r1
  obtain ⟨v3, vs3, d3, ds3, p3, q3, rfl, rfl, rfl, h3, r3⟩ := trodAll_cons r2
  obtain ⟨v4, vs4, d4, ds4, p4, q4, rfl, rfl, rfl, h4, r4⟩ := trodAll_cons r3
  obtain ⟨v5, vs5, d5, ds5, p5, q5, rfl, rfl, rfl, h5, r5⟩ := trodAll_cons r4
  obtain ⟨rfl, rfl, rfl⟩ := trodAll_nil r5
  obtain rfl : args = #[v0, v1, v2, v3, v4, v5] := by cases args; simp_all
  obtain ⟨rfl, rfl⟩ := trodVars_none hV
  have hv0 := hval 0 46 v0 rfl rfl
  have hv1 := hval 1 47 v1 rfl rfl
  have hv2 := hval 2 3 v2 rfl rfl
  have hv3 := hval 3 37 v3 rfl rfl
  have hv4 := hval 4 37 v4 rfl rfl
  have hv5 := hval 5 25 v5 rfl rfl
  clear hval0 hval
  simp only [List.append_nil] at hW' hlt
  have dmO : ∀ (m : Nat) (cs : List Value) (y : DataW H × List MemPlace), DataW.trod enc Tryz.prog W 0 (fun _ => true) true m 196 cs = some y → ∃ d : Dm, cs = dmC d ∧ True := fun m cs y h => by
    obtain ⟨a, b, c, rfl, ⟨_, _, ha⟩, ⟨_, _, hb⟩, _, _, hc⟩ := trod_3 Tryz.underlying196 (t0 := 3) (t1 := 3) (t2 := 3) rfl (by kernel_rfl) (by kernel_rfl) (by kernel_rfl) (by kernel_rfl) h
    obtain ⟨x, hx, _⟩ := trod_i64 Tryz.underlying3 ha
    obtain ⟨y, hy, _⟩ := trod_i64 Tryz.underlying3 hb
    obtain ⟨z, hz, _⟩ := trod_i64 Tryz.underlying3 hc
    obtain rfl : a = .int .i64 x := by simpa using hx
    obtain rfl : b = .int .i64 y := by simpa using hy
    obtain rfl : c = .int .i64 z := by simpa using hz
    exact ⟨⟨x, y, z⟩, rfl, trivial⟩
  have bnO : ∀ (m : Nat) (cs : List Value) (y : DataW H × List MemPlace), DataW.trod enc Tryz.prog W 0 (fun _ => true) true m 44 cs = some y → ∃ d : Bn, cs = bnC d := fun m cs y h => by
    obtain ⟨a, b, c, rfl, ⟨_, _, ha⟩, ⟨_, _, hb⟩, _, _, hc⟩ := trod_3 Tryz.underlying44 (t0 := 3) (t1 := 25) (t2 := 25) rfl (by kernel_rfl) (by kernel_rfl) (by kernel_rfl) (by kernel_rfl) h
    obtain ⟨x, hx, _⟩ := trod_i64 Tryz.underlying3 ha
    obtain ⟨y, hy, _⟩ := trod_f64 Tryz.underlying25 hb
    obtain ⟨z, hz, _⟩ := trod_f64 Tryz.underlying25 hc
    obtain rfl : a = .int .i64 x := by simpa using hx
    obtain rfl : b = .float .f64 y := by simpa using hy
    obtain rfl : c = .float .f64 z := by simpa using hz
    exact ⟨⟨x, y, z⟩, rfl⟩
  have rdO : ∀ (m : Nat) (cs : List Value) (y : DataW H × List MemPlace), DataW.trod enc Tryz.prog W 0 (fun _ => true) true m 46 cs = some y → ∃ d : Rd, cs = rdC d ∧ d.Ok W := fun m cs y h => by
    obtain ⟨a, b, c, d, e, f, rfl, ⟨_, _, ha⟩, ⟨_, _, hb⟩, ⟨_, _, hc⟩, _, _, hf⟩ := trod_r6 Tryz.underlying46 (t0 := 42) (t1 := 42) (t2 := 44) (t3 := 37) rfl (by kernel_rfl) (by kernel_rfl) (by kernel_rfl) (by kernel_rfl) (by kernel_rfl) h
    obtain ⟨va, xa, hva, hsa, _, _⟩ := trod_list dmC (fun _ => True) dmC_len Tryz.underlying42 (by kernel_rfl) (by omega) ha dmO
    obtain ⟨vb, xb, hvb, hsb, _, _⟩ := trod_list dmC (fun _ => True) dmC_len Tryz.underlying42 (by kernel_rfl) (by omega) hb dmO
    obtain ⟨bn, hbn⟩ := bnO _ _ _ hc
    obtain ⟨v, xs, hv, hs, hr, _⟩ := trod_list (fun x : Int => [Value.int .i64 x]) (fun x => -9223372036854775808 ≤ x ∧ x ≤ 9223372036854775807) (sz := 1) (fun _ => rfl) Tryz.underlying37 (by kernel_rfl) (by omega) hf (fun m cs y h => trod_i64 Tryz.underlying3 h)
    obtain rfl : a = va := by simpa using hva
    obtain rfl : b = vb := by simpa using hvb
    obtain rfl : f = v := by simpa using hv
    simp only [bnC, List.cons.injEq, and_true] at hbn
    obtain ⟨rfl, rfl, rfl⟩ := hbn
    rw [flat_one] at hs
    exact ⟨⟨a, b, f, xa, xb, bn, xs⟩, rfl, hsa, hsb, hs⟩
  have s7O : ∀ (m : Nat) (cs : List Value) (y : DataW H × List MemPlace), DataW.trod enc Tryz.prog W 0 (fun _ => true) true m 141 cs = some y → ∃ d : S7, cs = s7C d ∧ d.Ok No W := fun m cs y h => by
    obtain ⟨a, b, c, e, rfl, ⟨_, _, ha⟩, ⟨_, _, hb⟩, ⟨_, _, hc⟩, _, _, he⟩ := trod_4 Tryz.underlying141 (t0 := 5) (t1 := 3) (t2 := 37) (t3 := 25) rfl (by kernel_rfl) (by kernel_rfl) (by kernel_rfl) (by kernel_rfl) (by kernel_rfl) h
    obtain ⟨d, hd, hdr⟩ := trod_int Tryz.underlying5 ha
    obtain ⟨i, hi, hir⟩ := trod_i64 Tryz.underlying3 hb
    obtain ⟨v, xs, hv, hs, hr, _⟩ := trod_list (fun x : Int => [Value.int .i64 x]) (fun x => -9223372036854775808 ≤ x ∧ x ≤ 9223372036854775807) (sz := 1) (fun _ => rfl) Tryz.underlying37 (by kernel_rfl) (by omega) hc (fun m cs y h => trod_i64 Tryz.underlying3 h)
    obtain ⟨f, hf, hfl⟩ := trod_f64 Tryz.underlying25 he
    obtain rfl : a = .int .u8 d := by simpa using hd
    obtain rfl : b = .int .i64 i := by simpa using hi
    obtain rfl : c = v := by simpa using hv
    obtain rfl : e = .float .f64 f := by simpa using hf
    rw [flat_one] at hs
    exact ⟨⟨d, i, xs, c, f⟩, rfl, ⟨hs, hr, by simp [Lit.wf, IntKind.min, IntKind.max, IntKind.signed, IntKind.bits] at hdr; show 0 ≤ d ∧ d < 256; omega⟩⟩
  obtain ⟨cs0, rfl, _⟩ := okWide_struct Tryz.underlying46 hv0
  obtain ⟨rd, rfl, hrd⟩ : ∃ d : Rd, cs0 = (rdC d).toArray ∧ d.Ok W := by
    obtain ⟨fuel, hf⟩ := h0
    obtain ⟨d, he, hd⟩ := rdO _ _ _ hf
    exact ⟨d, by cases cs0; exact congrArg Array.mk he, hd⟩
  obtain ⟨l, hl, hls, _⟩ := open_list s7C (fun d => d.Ok No W) s7C_len Tryz.underlying47 (by kernel_rfl) (by omega) hv1 h1 s7O
  obtain ⟨id, rfl, _, _⟩ := X.open_i64 Tryz.underlying3 hv2
  obtain ⟨x3, hx3, hr3, _⟩ := open_list (fun x : Int => [Value.int .i64 x]) (fun x => -9223372036854775808 ≤ x ∧ x ≤ 9223372036854775807) (sz := 1) (fun _ => rfl) Tryz.underlying37 (by kernel_rfl) (by omega) hv3 h3 (fun m cs y h => trod_i64 Tryz.underlying3 h)
  rw [flat_one] at hx3
  obtain ⟨x4, hx4, hr4, _⟩ := open_list (fun x : Int => [Value.int .i64 x]) (fun x => -9223372036854775808 ≤ x ∧ x ≤ 9223372036854775807) (sz := 1) (fun _ => rfl) Tryz.underlying37 (by kernel_rfl) (by omega) hv4 h4 (fun m cs y h => trod_i64 Tryz.underlying3 h)
  rw [flat_one] at hx4
  obtain ⟨f, rfl, _⟩ := X.open_float (base := 0) (H := H) (d := d5) (ps := p5) Tryz.underlying25 hv5
  have hwalk := cothers_ok rd l v1 id x3 v3 x4 v4 f W hrd hl hls hx3 hr3 hx4 hr4
  refine Calls.mono hwalk ?_
  rintro e W' ⟨v, rfl, rfl, hg⟩
  refine ⟨_, rfl, post_grow hW' (fun _ _ _ => trodAll_cons_mk (shut_bool Tryz.underlying4 _) trodAll_mk0) (fun sp hsp => ?_) (fun _ => rfl) hg (ok_one (by kernel_rfl) rfl (okWide_bool_mk Tryz.underlying4 _))⟩
  have hA2 := hA1
  simp only [List.append_nil] at hA2 hsp
  exact trodAll_grow laidOut hg sp _ _ _ _ params_ok hlt hsp hA2
end Go.Proofs.YthbjfhhiajihfaaGreat.cacheOthers
