/- ScriptRuns returns true; the listed tables are tied to the program's text; no other condition. -/
import Derived.Test.YtcndimkkojdflaaGreatDoorRows
import Derived.Test.YtcndimkkojdflaaGreatDoorCards
import Derived.Test.YtcndimkkojdflaaGreatDoorTie
import Derived.WalkKit
import Derived.ProofKit
import Derived.SevenTiedAt
import Derived.Test.YtcndimkkojdflaaGreatDoorKs6
namespace Go.Proofs.YtcndimkkojdflaaGreatDoor.scriptRuns
open Go.ChangeShapes Go.WideShapes Go.ChangeAt Go.RowKit Go.X
set_option linter.unusedVariables false
theorem c_wf : Rows.scriptRunsRow.wfByText (OpenSpec.ofChange Rows.scriptRunsSpec) = true := by kernel_rfl
theorem c_main : Tryz.pinned.checked.prog.mainIs = some (true, "7cf7b5bcec5b949a9dcf269398f6fdc361b255d8ca1445231ea4b5d1a29f2df6".toList) := by kernel_rfl
theorem c_fn : Tryz.prog.funcNamed "sordine/sordinelaw31.ScriptRuns" = some 3 := by kernel_rfl
theorem c_look : true = Tryz.pinned.checked.prog.looks [] := by kernel_rfl
theorem c_go0 : Tryz.prog.funcs.any Func.goes = false := by kernel_rfl
theorem goes0 {P : Program} (h : P.funcs.any Func.goes = false) (f : FuncId) : P.goes f = false := by
  unfold Program.goes
  rw [h, Bool.and_false, Bool.or_false, List.any_eq_false]
  intro g _
  cases hg : P.funcs[g]? with
  | none => simp
  | some fn =>
    obtain ⟨h1, h2⟩ := Array.getElem?_eq_some_iff.1 hg
    have := Array.any_eq_false.1 h g h1
    rw [h2] at this
    simpa using this
theorem goes1 {P : Program} (h : ∀ f, P.goes f = false) (n : String) : P.goesFrom n = false := by
  unfold Program.goesFrom
  cases P.funcNamed n with
  | none => rfl
  | some f => exact h f
theorem c_goes : false = Rows.scriptRunsRow.goesBy Tryz.pinned.checked.prog := by
  have h : Tryz.pinned.checked.prog.goesFrom Rows.scriptRunsRow.func = false := goes1 (goes0 c_go0) _
  show false = (Tryz.pinned.checked.prog.goesFrom Rows.scriptRunsRow.func || false)
  rw [h]; rfl
theorem c_law : ∀ f fn, Tryz.pinned.checked.prog.funcNamed Rows.scriptRunsRow.func = some f → Tryz.pinned.checked.prog.funcs[f]? = some fn → true = Tryz.pinned.checked.prog.looks [] ∧ ∀ (j : Nat) t, fn.params[j]? = some t → Tryz.pinned.checked.prog.wantsStandIn t = false := fun f fn hf hfn => by
  obtain rfl : f = 3 := Option.some.inj (c_fn.symm.trans hf) |>.symm
  obtain rfl : fn = Tryz.f3 := (Option.some.inj (Tryz.func3.symm.trans hfn)).symm
  exact ⟨c_look, fun j t ht => by
    rw [Tryz.params3] at ht
    simp at ht⟩
theorem proved : Rows.ScriptRunsCardSaid :=
  Claim7.holds_tied_plain_at .later [] [.data, .data, .data, .data, .data, .sentinel, .sentinel, .pinned] true (true, "7cf7b5bcec5b949a9dcf269398f6fdc361b255d8ca1445231ea4b5d1a29f2df6") true
    over (fun _ h => by cases h) c_wf (fun _ h => by cases h) scriptRuns_row_tie rfl ⟨rfl, rfl⟩ c_main rfl c_law c_goes
#print axioms proved
end Go.Proofs.YtcndimkkojdflaaGreatDoor.scriptRuns
