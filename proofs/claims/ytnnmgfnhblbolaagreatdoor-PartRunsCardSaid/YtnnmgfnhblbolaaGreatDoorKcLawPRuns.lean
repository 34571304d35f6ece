/- PartRuns returns true; the listed table is tied to the program's text; no other condition. -/
import Derived.Test.YtnnmgfnhblbolaaGreatDoorRows
import Derived.Test.YtnnmgfnhblbolaaGreatDoorCards
import Derived.Test.YtnnmgfnhblbolaaGreatDoorTie
import Derived.WalkKit
import Derived.ProofKit
import Derived.SevenTiedAt
import Derived.Test.YtnnmgfnhblbolaaGreatDoorKc9
namespace Go.Proofs.YtnnmgfnhblbolaaGreatDoor.partRuns
open Go.ChangeShapes Go.WideShapes Go.ChangeAt Go.RowKit Go.X
set_option linter.unusedVariables false
theorem c_wf : Rows.partRunsRow.wfByText (OpenSpec.ofChange Rows.partRunsSpec) = true := by kernel_rfl
theorem c_main : Tryz.pinned.checked.prog.mainIs = some (true, "ac1c2d1ca12a171cb6125528dc4fa2340555697e4c1d37a97a599dcf6dfcc352".toList) := by kernel_rfl
theorem c_fn : Tryz.prog.funcNamed "sordine/sordinelaw25.PartRuns" = some 3 := by kernel_rfl
theorem c_look : false = Tryz.pinned.checked.prog.looks [] := by kernel_rfl
theorem c_goes : false = Rows.partRunsRow.goesBy Tryz.pinned.checked.prog := by kernel_rfl
theorem c_law : ∀ f fn, Tryz.pinned.checked.prog.funcNamed Rows.partRunsRow.func = some f → Tryz.pinned.checked.prog.funcs[f]? = some fn → false = Tryz.pinned.checked.prog.looks [] ∧ ∀ (j : Nat) t, fn.params[j]? = some t → Tryz.pinned.checked.prog.wantsStandIn t = false := fun f fn hf hfn => by
  obtain rfl : f = 3 := Option.some.inj (c_fn.symm.trans hf) |>.symm
  obtain rfl : fn = Tryz.f3 := (Option.some.inj (Tryz.func3.symm.trans hfn)).symm
  exact ⟨c_look, fun j t ht => by
    rw [Tryz.params3] at ht
    simp at ht⟩
theorem proved : Rows.PartRunsCardSaid :=
  Claim7.holds_tied_plain_at .later [] [.data] true (true, "ac1c2d1ca12a171cb6125528dc4fa2340555697e4c1d37a97a599dcf6dfcc352") false
    over (fun _ h => by cases h) c_wf (fun _ h => by cases h) partRuns_row_tie rfl ⟨rfl, rfl⟩ c_main rfl c_law c_goes
#print axioms proved
end Go.Proofs.YtnnmgfnhblbolaaGreatDoor.partRuns
