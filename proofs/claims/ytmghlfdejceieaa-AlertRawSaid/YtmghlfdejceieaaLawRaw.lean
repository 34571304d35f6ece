/- AlertRaw returns true at every input, and each argument reads as it did; no condition. -/
import Derived.Test.YtmghlfdejceieaaRows
import Derived.WalkKit
import Derived.ProofKit
import Derived.OpenShut
import Derived.Test.YtmghlfdejceieaaY
import Derived.Test.YtmghlfdejceieaaX11
namespace Go.Proofs.Ytmghlfdejceieaa.alertRaw
open Go.ChangeShapes Go.WideShapes Go.ChangeAt Go.RowKit Go.X
set_option linter.unusedVariables false
theorem own : ownKnob Try.prog.godebug = none := by kernel_rfl
theorem laidOut : laidOutB Try.prog = true := by kernel_rfl
theorem params_ok : ∀ t ∈ Try.f5.params.toList, Try.prog.readableRec t = true ∧ t < Try.prog.types.size := by
  rw [Try.params5]
  intro t ht
  simp only [List.mem_cons, List.not_mem_nil, or_false] at ht
  rcases ht with rfl | rfl <;> exact ⟨by kernel_rfl, of_decide_eq_true (by kernel_rfl)⟩
set_option maxRecDepth 100000 in
theorem lifted (os : Os) (started : os.Started) (H : Type) (enc : TypeId × Value → H) :
    ReturnsInHanded {} Try.checked os 5 .any (Rows.alertRawSpec.pre6 enc Try.prog Try.f5 Rows.alertRawRow.domain false) (Rows.alertRawSpec.post enc Try.prog Try.f5 false true false false) := by
  refine returnsInHanded_of_change (C := Try.checked) own started (by kernel_rfl) Try.func5
    (ChangeSpec.witness6 (enc := enc) (C := Try.checked) false ⟨#[], #[.slice none 0 0, .float .f64 0], []⟩ 8 (by kernel_rfl) (by kernel_rfl) (by kernel_rfl) (by kernel_rfl)) ?_
  intro W base args ds gs before hval0 hW hcnd _
  have hval : ∀ (j : Nat) t v, Try.f5.params[j]? = some t → args[j]? = some v → Value.okWide Try.prog W .any base t v := hval0
  have hW' := hW
  obtain ⟨p, q, hA0, hV, rfl, hfz, hnd⟩ := hW
  have hlt : ∀ x ∈ p, x.block < W.heap.size := fun x hx => hW'.lt x (List.mem_append_left _ hx)
  have hA : DataW.TrodAll enc Try.prog W 0 (fun _ => true) true Try.f5.params.toList args.toList ds p := hA0
  have hA1 := hA
  rw [Try.params5] at hA hval
  obtain ⟨v0, vs0, d0, ds0, p0, q0, hargs, rfl, rfl, h0, r0⟩ := trodAll_cons hA
  obtain ⟨v1, vs1, d1, ds1, p1, q1, rfl, rfl, rfl, h1, r1⟩ := trodAll_cons r0
  obtain ⟨rfl, rfl, rfl⟩ := trodAll_nil r1
  obtain rfl : args = #[v0, v1] := by cases args; simp_all
  obtain ⟨rfl, rfl⟩ := trodVars_none hV
  have hv0 := hval 0 29 v0 rfl rfl
  have hv1 := hval 1 30 v1 rfl rfl
  clear hval0 hval
  simp only [List.append_nil] at hW' hlt
  obtain ⟨ls, hls, hQ, _⟩ := open_list labC (fun x => x.name.size ≤ 9223372036854775807) labC_len Try.underlying29 (by kernel_rfl) (by omega) hv0 h0 (fun m cs y h => by
    obtain ⟨a, b, rfl, la, _⟩ := trod_pair Try.underlying28 Try.underlying9 rfl rfl rfl rfl (by kernel_rfl) (by kernel_rfl) h
    exact ⟨⟨a, b⟩, rfl, la⟩)
  obtain ⟨b, rfl, hb⟩ := X.open_float (base := 0) (H := H) (d := d1) (ps := p1) Try.underlying30 hv1
  have hwalk := raw_ok ls hQ v0 b hb W hls
  refine Calls.mono hwalk ?_
  rintro e W' ⟨v, rfl, rfl, hg⟩
  refine ⟨_, rfl, post_grow hW' (fun _ _ _ => trodAll_cons_mk (shut_bool Try.underlying4 _) trodAll_mk0) (fun sp hsp => ?_) (fun _ => rfl) hg (ok_one (by kernel_rfl) rfl (okWide_bool_mk Try.underlying4 _))⟩
  have hA2 := hA1
  simp only [List.append_nil] at hA2 hsp
  exact trodAll_grow laidOut hg sp _ _ _ _ params_ok hlt hsp hA2
theorem over : Rows.alertRawRow.holds Try.pinned (OpenSpec.ofChange Rows.alertRawSpec) :=
  OpenClaim.holds_of_wide 5 Try.f5 rfl rfl rfl rfl rfl rfl rfl ⟨rfl, rfl, rfl, rfl, rfl⟩ rfl rfl rfl rfl rfl (by kernel_rfl) Try.func5 (by kernel_rfl)
    (of_decide_eq_true (by kernel_rfl)) (by unfold Func.isWrapper; first | (rw [if_pos (by decide +kernel)]; kernel_rfl) | (rw [if_neg (by decide +kernel)]; exact ⟨rfl, rfl⟩))
    (fun os started H enc _ => lifted os started H enc)
theorem proved : Rows.AlertRawSaid := over
#print axioms proved
end Go.Proofs.Ytmghlfdejceieaa.alertRaw

