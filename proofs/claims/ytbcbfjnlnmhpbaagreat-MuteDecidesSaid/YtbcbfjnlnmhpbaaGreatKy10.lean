/- What the claim stands on, part 10. Of own lemmas only those that it reaches. -/
import Derived.Test.YtbcbfjnlnmhpbaaGreatKy9
namespace Go.Proofs.YtbcbfjnlnmhpbaaGreat.muteDecides
open Go.ChangeShapes Go.WideShapes Go.ChangeAt Go.RowKit Go.X
set_option linter.unusedVariables false
theorem own : ownKnob Tryz.prog.godebug = none := by kernel_rfl
theorem laidOut : laidOutB Tryz.prog = true := by kernel_rfl
theorem params_ok : ∀ t ∈ Tryz.f9.params.toList, Tryz.prog.readableRec t = true ∧ t < Tryz.prog.types.size := by
  rw [Tryz.params9]
  intro t ht
  simp only [List.mem_cons, List.not_mem_nil, or_false] at ht
  rcases ht with rfl | rfl | rfl | rfl | rfl <;> exact ⟨by kernel_rfl, of_decide_eq_true (by kernel_rfl)⟩
set_option maxRecDepth 100000 in
theorem lifted (os : Os) (started : os.Started) (H : Type) (enc : TypeId × Value → H) :
    ReturnsInHanded {} Tryz.checked os 9 .any (Rows.muteDecidesSpec.pre6 enc Tryz.prog Tryz.f9 Rows.muteDecidesRow.domain false) (Rows.muteDecidesSpec.post enc Tryz.prog Tryz.f9 false true false false) := by
  refine returnsInHanded_of_change (C := Tryz.checked) own started (by kernel_rfl) Tryz.func9
    (ChangeSpec.witness6 (enc := enc) (C := Tryz.checked) false ⟨#[], #[.int .u64 0, .agg #[.int .i64 0, .slice none 0 0, .float .f64 0], .slice none 0 0, .slice none 0 0, .slice none 0 0], []⟩ 8 (by kernel_rfl) (by kernel_rfl) (by kernel_rfl) (by kernel_rfl)) ?_
  intro W base args ds gs before hval0 hW hcnd _
  have hval : ∀ (j : Nat) t v, Tryz.f9.params[j]? = some t → args[j]? = some v → Value.okWide Tryz.prog W .any base t v := hval0
  have hW' := hW
  obtain ⟨p, q, hA0, hV, rfl, hfz, hnd⟩ := hW
  have hlt : ∀ x ∈ p, x.block < W.heap.size := fun x hx => hW'.lt x (List.mem_append_left _ hx)
  have hA : DataW.TrodAll enc Tryz.prog W 0 (fun _ => true) true Tryz.f9.params.toList args.toList ds p := hA0
  have hA1 := hA
  rw [Tryz.params9] at hA hval
  obtain ⟨v0, vs0, d0, ds0, p0, q0, hargs, rfl, rfl, h0, r0⟩ := trodAll_cons hA
  obtain ⟨v1, vs1, d1, ds1, p1, q1, rfl, rfl, rfl, h1, r1⟩ := trodAll_cons r0
  obtain ⟨v2, vs2, d2, ds2, p2, q2, rfl, rfl, rfl, h2, r2⟩ := trodAll_cons r1
  obtain ⟨v3, vs3, d3, ds3, p3, q3, rfl, rfl, rfl, h3, r3⟩ := trodAll_cons r2
  obtain ⟨v4, vs4, d4, ds4, p4, q4, rfl, rfl, rfl, h4, r4⟩ := trodAll_cons r3
  obtain ⟨rfl, rfl, rfl⟩ := trodAll_nil r4
  obtain rfl : args = #[v0, v1, v2, v3, v4] := by cases args; simp_all
  obtain ⟨rfl, rfl⟩ := trodVars_none hV
  have hv0 := hval 0 22 v0 rfl rfl
  have hv1 := hval 1 74 v1 rfl rfl
  have hv2 := hval 2 75 v2 rfl rfl
  have hv3 := hval 3 76 v3 rfl rfl
  have hv4 := hval 4 77 v4 rfl rfl
  clear hval0 hval
  simp only [List.append_nil] at hW' hlt
  have u64r : ∀ b : Int, (Lit.int .u64 b).wf = true → 0 ≤ b ∧ b < 18446744073709551616 := fun b h => by
    have h2 : 0 ≤ b ∧ b ≤ 18446744073709551615 := by simpa [Lit.wf, IntKind.min, IntKind.max, IntKind.signed, IntKind.bits] using h
    omega
  have openU : ∀ (W : World) (r : Reach) (b0 : Nat) (v : Value), Value.okWide Tryz.prog W r b0 22 v → ∃ n : Int, v = .int .u64 n ∧ 0 ≤ n ∧ n < 18446744073709551616 := fun W r b0 v hq => by
    simp only [Value.okWide, Tryz.underlying22, Cell.okWide, Cell.ok] at hq
    cases v with
    | int k n =>
      obtain ⟨rfl, h⟩ := hq
      refine ⟨n, rfl, ?_⟩
      have h2 : 0 ≤ n ∧ n ≤ 18446744073709551615 := by simpa [IntKind.has, IntKind.min, IntKind.max, IntKind.signed, IntKind.bits] using h
      omega
    | _ => simp at hq
  have dmO : ∀ (m : Nat) (cs : List Value) (y : DataW H × List MemPlace), DataW.trod enc Tryz.prog W 0 (fun _ => true) true m 167 cs = some y → ∃ d : Dm, cs = dmC d ∧ True := fun m cs y h => by
    obtain ⟨a, b, c, rfl, ⟨_, _, ha⟩, ⟨_, _, hb⟩, _, _, hc⟩ := trod_3 Tryz.underlying167 (t0 := 3) (t1 := 3) (t2 := 3) rfl (by kernel_rfl) (by kernel_rfl) (by kernel_rfl) (by kernel_rfl) h
    obtain ⟨x, hx, _⟩ := trod_i64 Tryz.underlying3 ha
    obtain ⟨y, hy, _⟩ := trod_i64 Tryz.underlying3 hb
    obtain ⟨z, hz, _⟩ := trod_i64 Tryz.underlying3 hc
    obtain rfl : a = .int .i64 x := by simpa using hx
    obtain rfl : b = .int .i64 y := by simpa using hy
    obtain rfl : c = .int .i64 z := by simpa using hz
    exact ⟨⟨x, y, z⟩, rfl, trivial⟩
  have adO : ∀ (m : Nat) (cs : List Value) (y : DataW H × List MemPlace), DataW.trod enc Tryz.prog W 0 (fun _ => true) true m 74 cs = some y → ∃ d : Ad, cs = adC d ∧ d.Ok W := fun m cs y h => by
    obtain ⟨a, b, c, rfl, ⟨_, _, ha⟩, ⟨_, _, hb⟩, _, _, hc⟩ := trod_3 Tryz.underlying74 (t0 := 3) (t1 := 35) (t2 := 30) rfl (by kernel_rfl) (by kernel_rfl) (by kernel_rfl) (by kernel_rfl) h
    obtain ⟨x, hx, _⟩ := trod_i64 Tryz.underlying3 ha
    obtain ⟨v, xs, hv, hs, hr, _⟩ := trod_list (fun x : Int => [Value.int .i64 x]) (fun x => -9223372036854775808 ≤ x ∧ x ≤ 9223372036854775807) (sz := 1) (fun _ => rfl) Tryz.underlying35 (by kernel_rfl) (by omega) hb (fun m cs y h => trod_i64 Tryz.underlying3 h)
    obtain ⟨z, hz, _⟩ := trod_f64 Tryz.underlying30 hc
    obtain rfl : a = .int .i64 x := by simpa using hx
    obtain rfl : b = v := by simpa using hv
    obtain rfl : c = .float .f64 z := by simpa using hz
    rw [flat_one] at hs
    exact ⟨⟨x, xs, b, z⟩, rfl, hs, hr⟩
  have bnO : ∀ (m : Nat) (cs : List Value) (y : DataW H × List MemPlace), DataW.trod enc Tryz.prog W 0 (fun _ => true) true m 60 cs = some y → ∃ d : Bn, cs = bnC d := fun m cs y h => by
    obtain ⟨a, b, c, rfl, ⟨_, _, ha⟩, ⟨_, _, hb⟩, _, _, hc⟩ := trod_3 Tryz.underlying60 (t0 := 3) (t1 := 30) (t2 := 30) rfl (by kernel_rfl) (by kernel_rfl) (by kernel_rfl) (by kernel_rfl) h
    obtain ⟨x, hx, _⟩ := trod_i64 Tryz.underlying3 ha
    obtain ⟨y, hy, _⟩ := trod_f64 Tryz.underlying30 hb
    obtain ⟨z, hz, _⟩ := trod_f64 Tryz.underlying30 hc
    obtain rfl : a = .int .i64 x := by simpa using hx
    obtain rfl : b = .float .f64 y := by simpa using hy
    obtain rfl : c = .float .f64 z := by simpa using hz
    exact ⟨⟨x, y, z⟩, rfl⟩
  have rdO : ∀ (m : Nat) (cs : List Value) (y : DataW H × List MemPlace), DataW.trod enc Tryz.prog W 0 (fun _ => true) true m 135 cs = some y → ∃ d : Rd, cs = rdC d ∧ d.Ok W := fun m cs y h => by
    obtain ⟨a, b, c, d, e, f, rfl, ⟨_, _, ha⟩, ⟨_, _, hb⟩, ⟨_, _, hc⟩, _, _, hf⟩ := trod_r6 Tryz.underlying135 (t0 := 58) (t1 := 58) (t2 := 60) (t3 := 35) rfl (by kernel_rfl) (by kernel_rfl) (by kernel_rfl) (by kernel_rfl) (by kernel_rfl) h
    obtain ⟨va, xa, hva, hsa, _, _⟩ := trod_list dmC (fun _ => True) dmC_len Tryz.underlying58 (by kernel_rfl) (by omega) ha dmO
    obtain ⟨vb, xb, hvb, hsb, _, _⟩ := trod_list dmC (fun _ => True) dmC_len Tryz.underlying58 (by kernel_rfl) (by omega) hb dmO
    obtain ⟨bn, hbn⟩ := bnO _ _ _ hc
    obtain ⟨v, xs, hv, hs, hr, _⟩ := trod_list (fun x : Int => [Value.int .i64 x]) (fun x => -9223372036854775808 ≤ x ∧ x ≤ 9223372036854775807) (sz := 1) (fun _ => rfl) Tryz.underlying35 (by kernel_rfl) (by omega) hf (fun m cs y h => trod_i64 Tryz.underlying3 h)
    obtain rfl : a = va := by simpa using hva
    obtain rfl : b = vb := by simpa using hvb
    obtain rfl : f = v := by simpa using hv
    simp only [bnC, List.cons.injEq, and_true] at hbn
    obtain ⟨rfl, rfl, rfl⟩ := hbn
    rw [flat_one] at hs
    exact ⟨⟨a, b, f, xa, xb, bn, xs⟩, rfl, hsa, hsb, hs⟩
  have sdO : ∀ (m : Nat) (cs : List Value) (y : DataW H × List MemPlace), DataW.trod enc Tryz.prog W 0 (fun _ => true) true m 133 cs = some y → ∃ d : Sd, cs = sdC d ∧ (Sl No W d.mv 3 d.ms.length (d.ms.flatMap dmC) ∧ 0 ≤ d.stop) := fun m cs y h => by
    obtain ⟨a, b, c, d, e, f, g, i, rfl, ⟨_, _, ha⟩, ⟨_, _, hb⟩, ⟨_, _, hc⟩, ⟨_, _, hd⟩, ⟨_, _, he⟩, _, _, hf⟩ := trod_s8 Tryz.underlying133 (t0 := 3) (t1 := 3) (t2 := 22) (t3 := 22) (t4 := 58) (t5 := 60) rfl (by kernel_rfl) (by kernel_rfl) (by kernel_rfl) (by kernel_rfl) (by kernel_rfl) (by kernel_rfl) (by kernel_rfl) h
    obtain ⟨x0, h0, _⟩ := trod_i64 Tryz.underlying3 ha
    obtain ⟨x1, h1, _⟩ := trod_i64 Tryz.underlying3 hb
    obtain ⟨x2, h2, _⟩ := trod_int Tryz.underlying22 hc
    obtain ⟨x3, h3, w3⟩ := trod_int Tryz.underlying22 hd
    obtain ⟨va, xa, hva, hsa, _, _⟩ := trod_list dmC (fun _ => True) dmC_len Tryz.underlying58 (by kernel_rfl) (by omega) he dmO
    obtain ⟨bn, hbn⟩ := bnO _ _ _ hf
    obtain rfl : a = .int .i64 x0 := by simpa using h0
    obtain rfl : b = .int .i64 x1 := by simpa using h1
    obtain rfl : c = .int .u64 x2 := by simpa using h2
    obtain rfl : d = .int .u64 x3 := by simpa using h3
    obtain rfl : e = va := by simpa using hva
    simp only [bnC, List.cons.injEq, and_true] at hbn
    obtain ⟨rfl, rfl, rfl⟩ := hbn
    exact ⟨⟨x0, x1, x2, x3, e, xa, bn⟩, rfl, hsa, (u64r x3 w3).1⟩
  obtain ⟨now, rfl⟩ := X.open_int Tryz.underlying22 hv0
  obtain ⟨cs, rfl, _⟩ := okWide_struct Tryz.underlying74 hv1
  obtain ⟨d, rfl, hd⟩ : ∃ d : Ad, cs = (adC d).toArray ∧ d.Ok W := by
    obtain ⟨fuel, hf⟩ := h1
    obtain ⟨d, he, hd⟩ := adO _ _ _ hf
    exact ⟨d, by cases cs; exact congrArg Array.mk he, hd⟩
  obtain ⟨sds, hs, hsm, _⟩ := open_list sdC (fun d => Sl No W d.mv 3 d.ms.length (d.ms.flatMap dmC) ∧ 0 ≤ d.stop) sdC_len Tryz.underlying75 (by kernel_rfl) (by omega) hv2 h2 sdO
  obtain ⟨als, ha, hal, _⟩ := open_list adC (fun d => d.Ok W) adC_len Tryz.underlying76 (by kernel_rfl) (by omega) hv3 h3 adO
  obtain ⟨rds, hr, hrk, _⟩ := open_list rdC (fun d => d.Ok W) rdC_len Tryz.underlying77 (by kernel_rfl) (by omega) hv4 h4 rdO
  have hwalk := mdec_ok now d sds v2 als v3 rds v4 W hd hs (fun s h => (hsm s h).1) (fun s h => (hsm s h).2) ha hal hr hrk
  refine Calls.mono hwalk ?_
  rintro e W' ⟨v, rfl, rfl, hg⟩
  refine ⟨_, rfl, post_grow hW' (fun _ _ _ => trodAll_cons_mk (shut_bool Tryz.underlying4 _) trodAll_mk0) (fun sp hsp => ?_) (fun _ => rfl) hg (ok_one (by kernel_rfl) rfl (okWide_bool_mk Tryz.underlying4 _))⟩
  have hA2 := hA1
  simp only [List.append_nil] at hA2 hsp
  exact trodAll_grow laidOut hg sp _ _ _ _ params_ok hlt hsp hA2
end Go.Proofs.YtbcbfjnlnmhpbaaGreat.muteDecides
