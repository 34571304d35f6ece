/- MuteDecides returns true at every input, and each argument reads as it did; no condition. -/
import Derived.Test.YtbcbfjnlnmhpbaaGreatRows
import Derived.WalkKit
import Derived.ProofKit
import Derived.OpenShut
import Derived.Test.YtbcbfjnlnmhpbaaGreatKy10
namespace Go.Proofs.YtbcbfjnlnmhpbaaGreat.muteDecides
open Go.ChangeShapes Go.WideShapes Go.ChangeAt Go.RowKit Go.X
set_option linter.unusedVariables false
theorem band2 {a b : Bool} (ha : a = true) (hb : b = true) : (a && b) = true := by rw [ha, hb]; rfl
theorem k1 : (Rows.muteDecidesRow.inPlace == Tryz.pinned.checked.prog.inPlace 9) = true := by kernel_rfl
theorem k2 : (Rows.muteDecidesRow.unfollowed == Tryz.pinned.checked.prog.unfollowed 9) = true := by kernel_rfl
theorem k3 : (Rows.muteDecidesRow.recurses == Tryz.pinned.checked.prog.recurses 9) = true := by kernel_rfl
theorem k4 : (Rows.muteDecidesRow.named == Tryz.pinned.checked.prog.varsNamed 9) = true := by kernel_rfl
set_option maxHeartbeats 40000000 in
theorem facts : joinedFacts Tryz.pinned.checked.prog 9 Tryz.f9 Rows.muteDecidesSpec Rows.muteDecidesRow = true := by
  unfold joinedFacts
  repeat' (with_reducible refine band2 ?_ ?_)
  all_goals first | with_reducible exact k1 | with_reducible exact k2 | with_reducible exact k3 | with_reducible exact k4 | (as_aux_lemma => kernel_rfl)
set_option maxHeartbeats 4000000 in
theorem over : Rows.muteDecidesRow.holds Tryz.pinned (OpenSpec.ofChange Rows.muteDecidesSpec) :=
  OpenClaim.holds_of_wide 9 Tryz.f9 rfl rfl rfl rfl rfl rfl rfl ⟨rfl, rfl, rfl, rfl, rfl⟩ rfl rfl rfl rfl rfl (by as_aux_lemma => kernel_rfl) Tryz.func9 facts
    (of_decide_eq_true (by as_aux_lemma => kernel_rfl)) (by as_aux_lemma => unfold Func.isWrapper; first | (rw [if_pos (by decide +kernel)]; kernel_rfl) | (rw [if_neg (by decide +kernel)]; exact ⟨rfl, rfl⟩))
    (fun os started H enc _ => lifted os started H enc)
theorem proved : Rows.MuteDecidesSaid := over
#print axioms proved
end Go.Proofs.YtbcbfjnlnmhpbaaGreat.muteDecides
