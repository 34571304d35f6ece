/- AlertPlays returns true at every input, and each argument reads as it did; no condition. -/
import Derived.Test.YtffbcfcoddacmaaGreatRows
import Derived.WalkKit
import Derived.ProofKit
import Derived.OpenShut
import Derived.Test.YtffbcfcoddacmaaGreatHi
import Derived.Test.YtffbcfcoddacmaaGreatXC
namespace Go.Proofs.YtffbcfcoddacmaaGreat.alertPlays
open Go.ChangeShapes Go.WideShapes Go.ChangeAt Go.RowKit Go.X
set_option linter.unusedVariables false
theorem own : ownKnob Tryz.prog.godebug = none := by kernel_rfl
theorem laidOut : laidOutB Tryz.prog = true := by kernel_rfl
theorem params_ok : ∀ t ∈ Tryz.f5.params.toList, Tryz.prog.readableRec t = true ∧ t < Tryz.prog.types.size := by
  rw [Tryz.params5]
  intro t ht
  simp only [List.mem_cons, List.not_mem_nil, or_false] at ht
  rcases ht with rfl | rfl | rfl <;> exact ⟨by kernel_rfl, of_decide_eq_true (by kernel_rfl)⟩
set_option maxRecDepth 100000 in
theorem lifted (os : Os) (started : os.Started) (H : Type) (enc : TypeId × Value → H) :
    ReturnsInHanded {} Tryz.checked os 5 .any (Rows.alertPlaysSpec.pre6 enc Tryz.prog Tryz.f5 Rows.alertPlaysRow.domain false) (Rows.alertPlaysSpec.post enc Tryz.prog Tryz.f5 false true false false) := by
  refine returnsInHanded_of_change (C := Tryz.checked) own started (by kernel_rfl) Tryz.func5
    (ChangeSpec.witness6 (enc := enc) (C := Tryz.checked) false ⟨#[], #[.int .i64 0, .slice none 0 0, .int .i64 0], []⟩ 8 (by kernel_rfl) (by kernel_rfl) (by kernel_rfl) (by kernel_rfl)) ?_
  intro W base args ds gs before hval0 hW hcnd _
  have hval : ∀ (j : Nat) t v, Tryz.f5.params[j]? = some t → args[j]? = some v → Value.okWide Tryz.prog W .any base t v := hval0
  have hW' := hW
  obtain ⟨p, q, hA0, hV, rfl, hfz, hnd⟩ := hW
  have hlt : ∀ x ∈ p, x.block < W.heap.size := fun x hx => hW'.lt x (List.mem_append_left _ hx)
  have hA : DataW.TrodAll enc Tryz.prog W 0 (fun _ => true) true Tryz.f5.params.toList args.toList ds p := hA0
  have hA1 := hA
  rw [Tryz.params5] at hA hval
  obtain ⟨v0, vs0, d0, ds0, p0, q0, hargs, rfl, rfl, h0, r0⟩ := trodAll_cons hA
  obtain ⟨v1, vs1, d1, ds1, p1, q1, rfl, rfl, rfl, h1, r1⟩ := trodAll_cons r0
  obtain ⟨v2, vs2, d2, ds2, p2, q2, rfl, rfl, rfl, h2, r2⟩ := trodAll_cons r1
  obtain ⟨rfl, rfl, rfl⟩ := trodAll_nil r2
  obtain rfl : args = #[v0, v1, v2] := by cases args; simp_all
  obtain ⟨rfl, rfl⟩ := trodVars_none hV
  have hv0 := hval 0 3 v0 rfl rfl
  have hv1 := hval 1 52 v1 rfl rfl
  have hv2 := hval 2 3 v2 rfl rfl
  clear hval0 hval
  simp only [List.append_nil] at hW' hlt
  obtain ⟨n, rfl, hn0, hn1⟩ := X.open_i64 Tryz.underlying3 hv0
  obtain ⟨l, hl, hQ, _⟩ := open_list svC (fun x => x.Ok W) svC_len Tryz.underlying52 (by kernel_rfl) (by omega) hv1 h1 (fun m cs y h => by
    obtain ⟨a, b, c, e, rfl, ⟨_, _, ha⟩, ⟨_, _, hb⟩, ⟨_, _, hc⟩, _, _, he⟩ := trod_4 Tryz.underlying57 (t0 := 5) (t1 := 3) (t2 := 22) (t3 := 23) rfl (by kernel_rfl) (by kernel_rfl) (by kernel_rfl) (by kernel_rfl) (by kernel_rfl) h
    obtain ⟨d, hd, _⟩ := trod_int Tryz.underlying5 ha
    obtain ⟨i, hi, hir⟩ := trod_i64 Tryz.underlying3 hb
    obtain ⟨v, xs, hv, hs, hr, _⟩ := trod_list (fun x : Int => [Value.int .i64 x]) (fun x => -9223372036854775808 ≤ x ∧ x ≤ 9223372036854775807) (sz := 1) (fun _ => rfl) Tryz.underlying22 (by kernel_rfl) (by omega) hc (fun m cs y h => trod_i64 Tryz.underlying3 h)
    obtain ⟨f, hf, hfl⟩ := trod_f64 Tryz.underlying23 he
    obtain rfl : a = .int .u8 d := by simpa using hd
    obtain rfl : b = .int .i64 i := by simpa using hi
    obtain rfl : c = v := by simpa using hv
    obtain rfl : e = .float .f64 f := by simpa using hf
    rw [flat_one] at hs
    exact ⟨⟨d, i, xs, f, c⟩, rfl, hs, hr, hfl⟩)
  obtain ⟨q, rfl, hq0, hq1⟩ := X.open_i64 Tryz.underlying3 hv2
  have hwalk := aplays_ok n l q v1 W hl hQ
  refine Calls.mono hwalk ?_
  rintro e W' ⟨v, rfl, rfl, hg⟩
  refine ⟨_, rfl, post_grow hW' (fun _ _ _ => trodAll_cons_mk (shut_bool Tryz.underlying4 _) trodAll_mk0) (fun sp hsp => ?_) (fun _ => rfl) hg (ok_one (by kernel_rfl) rfl (okWide_bool_mk Tryz.underlying4 _))⟩
  have hA2 := hA1
  simp only [List.append_nil] at hA2 hsp
  exact trodAll_grow laidOut hg sp _ _ _ _ params_ok hlt hsp hA2
set_option maxHeartbeats 4000000 in
theorem over : Rows.alertPlaysRow.holds Tryz.pinned (OpenSpec.ofChange Rows.alertPlaysSpec) :=
  OpenClaim.holds_of_wide 5 Tryz.f5 rfl rfl rfl rfl rfl rfl rfl ⟨rfl, rfl, rfl, rfl, rfl⟩ rfl rfl rfl rfl rfl (by as_aux_lemma => kernel_rfl) Tryz.func5 (by as_aux_lemma => kernel_rfl)
    (of_decide_eq_true (by as_aux_lemma => kernel_rfl)) (by as_aux_lemma => unfold Func.isWrapper; first | (rw [if_pos (by decide +kernel)]; kernel_rfl) | (rw [if_neg (by decide +kernel)]; exact ⟨rfl, rfl⟩))
    (fun os started H enc _ => lifted os started H enc)
theorem proved : Rows.AlertPlaysSaid := over
#print axioms proved
end Go.Proofs.YtffbcfcoddacmaaGreat.alertPlays

