/-
  No cell of these rows narrows 'for every input' (looked for: loops, veiled, ifaces, maps, wideKeys, modest, calm, conditions, laid).
  DERIVED. THE GIVEN ROWS OF THIS SEAT. 4 by the template 'for every input the law returns true; each argument reads behind the call as it read before'; 0 by the template 'total and deterministic' (their statements: YtmghlfdejceieaaTotals.lean).
  GIVEN WITH THE SEED: the statements are not yours to turn. If you find one false, say at which input.
  Laid BY PROGRAM, IN A SANDBOX (cutbox-rows.mjs): the forced cells as the released guide's own fill.sh prints them over the translation 628f346549e497ca… (all of the seat's roots in one cut). By AI agents, Wed Nov 11 2026. No macro, syntax, notation, axiom, sorry.
-/
import Derived.Test.YtmghlfdejceieaaChecked
import GoSem.Claim
import GoSem.ClaimJoined
import GoSem.ClaimMapViews
import Derived.JoinedTies
import Derived.KernelRfl
namespace Go.Proofs.Ytmghlfdejceieaa
/- THE CELL 'sum', in the pinned program and in every row, IS THE sha256 OF THE DUMP (.gsa) THAT YtmghlfdejceieaaProg.lean LOADS. Nothing in Lean hashes anything: it is a label: what it is worth is what the hold of that sum in a sandbox is worth. -/
noncomputable def Try.pinned : Pinned := { name := "ytmghlfdejceieaa", sum := "628f346549e497cab8d026c301da571698f74f1764b66dafc693921a614e7f5d", checked := Try.checked }
namespace Rows
def none {H : Type} : Left H := { results := [], args := [] }

/-- 'sordinelaw15.AlertRuns': WHATEVER THE INPUT: true; the input reads as it did. -/
def alertRunsSpec : ChangeSpec := { name := "alertRuns", fn := fun _ => fun
  | [] => { results := [.lit (.bool true)], args := [] }
  | _ => none }
def alertRunsRow : OpenClaim := { program := "ytmghlfdejceieaa", sum := "628f346549e497cab8d026c301da571698f74f1764b66dafc693921a614e7f5d", func := "sordine/sordinelaw15.AlertRuns", spec := "alertRuns", inPlace := ["math.Float64bits", "math.Float64frombits"], unfollowed := true, recurses := true, plainKeys := false, apart := false }
def AlertRunsSaid : Prop := alertRunsRow.holds Try.pinned (OpenSpec.ofChange alertRunsSpec)

/-- ITS FALSE NEIGHBOUR: 'it returns false'. Refute it at one input. -/
def alertRunsWrong : ChangeSpec := { name := "alertRuns", fn := fun _ => fun
  | [] => { results := [.lit (.bool false)], args := [] }
  | _ => none }
def AlertRunsWrongFalsely : Prop := alertRunsRow.holds Try.pinned (OpenSpec.ofChange alertRunsWrong)

/-- 'sordinelaw15.AlertMost': WHATEVER THE INPUT: true; the input reads as it did. -/
def alertMostSpec : ChangeSpec := { name := "alertMost", fn := fun _ => fun
  | [d1, d2] => { results := [.lit (.bool true)], args := [d1, d2] }
  | _ => none }
def alertMostRow : OpenClaim := { program := "ytmghlfdejceieaa", sum := "628f346549e497cab8d026c301da571698f74f1764b66dafc693921a614e7f5d", func := "sordine/sordinelaw15.AlertMost", spec := "alertMost", inPlace := ["math.Float64bits", "math.Float64frombits"], unfollowed := true, recurses := true, plainKeys := false, apart := false }
def AlertMostSaid : Prop := alertMostRow.holds Try.pinned (OpenSpec.ofChange alertMostSpec)

/-- ITS FALSE NEIGHBOUR: 'it returns false'. Refute it at one input. -/
def alertMostWrong : ChangeSpec := { name := "alertMost", fn := fun _ => fun
  | [d1, d2] => { results := [.lit (.bool false)], args := [d1, d2] }
  | _ => none }
def AlertMostWrongFalsely : Prop := alertMostRow.holds Try.pinned (OpenSpec.ofChange alertMostWrong)

/-- 'sordinelaw15.AlertRaw': WHATEVER THE INPUT: true; the input reads as it did. -/
def alertRawSpec : ChangeSpec := { name := "alertRaw", fn := fun _ => fun
  | [d1, d2] => { results := [.lit (.bool true)], args := [d1, d2] }
  | _ => none }
def alertRawRow : OpenClaim := { program := "ytmghlfdejceieaa", sum := "628f346549e497cab8d026c301da571698f74f1764b66dafc693921a614e7f5d", func := "sordine/sordinelaw15.AlertRaw", spec := "alertRaw", inPlace := ["math.Float64bits", "math.Float64frombits"], unfollowed := true, recurses := true, plainKeys := false, apart := false }
def AlertRawSaid : Prop := alertRawRow.holds Try.pinned (OpenSpec.ofChange alertRawSpec)

/-- ITS FALSE NEIGHBOUR: 'it returns false'. Refute it at one input. -/
def alertRawWrong : ChangeSpec := { name := "alertRaw", fn := fun _ => fun
  | [d1, d2] => { results := [.lit (.bool false)], args := [d1, d2] }
  | _ => none }
def AlertRawWrongFalsely : Prop := alertRawRow.holds Try.pinned (OpenSpec.ofChange alertRawWrong)

/-- 'sordinelaw15.AlertRanks': WHATEVER THE INPUT: true; the input reads as it did. -/
def alertRanksSpec : ChangeSpec := { name := "alertRanks", fn := fun _ => fun
  | [d] => { results := [.lit (.bool true)], args := [d] }
  | _ => none }
def alertRanksRow : OpenClaim := { program := "ytmghlfdejceieaa", sum := "628f346549e497cab8d026c301da571698f74f1764b66dafc693921a614e7f5d", func := "sordine/sordinelaw15.AlertRanks", spec := "alertRanks", inPlace := ["math.Float64bits", "math.Float64frombits"], unfollowed := true, recurses := true, plainKeys := false, apart := false }
def AlertRanksSaid : Prop := alertRanksRow.holds Try.pinned (OpenSpec.ofChange alertRanksSpec)

/-- ITS FALSE NEIGHBOUR: 'it returns false'. Refute it at one input. -/
def alertRanksWrong : ChangeSpec := { name := "alertRanks", fn := fun _ => fun
  | [d] => { results := [.lit (.bool false)], args := [d] }
  | _ => none }
def AlertRanksWrongFalsely : Prop := alertRanksRow.holds Try.pinned (OpenSpec.ofChange alertRanksWrong)

/- THE SECOND FORM. 'bulk': how many values and letters a reading holds, each counted each time it is reached (what is shared counts as often as it is met; a slice's spare places count too). A statement '..UptoSaid' is the law's where the arguments, and the package variables that the reading takes, are together of bulk at most 1048576: NARROWER than '..Said'. Prove '..Said' where nothing that the law and all that it calls make is longer than what came in: it says more and counts as full. Else prove '..UptoSaid'. A law counts once. -/
mutual
def uptoBulk {H : Type} : DataW H → Nat
  | .lit (.string bytes) => bytes.length + 1
  | .lit _ => 1
  | .nil => 1
  | .ptr d => uptoBulk d + 1
  | .slice elems spare => uptoBulkAll elems + uptoBulkAll spare + 1
  | .agg parts => uptoBulkAll parts + 1
  | .iface _ d => uptoBulk d + 1
  | .map entries => uptoBulkEntries entries + 1
  | .held _ => 1
def uptoBulkAll {H : Type} : List (DataW H) → Nat
  | [] => 0
  | d :: r => uptoBulk d + uptoBulkAll r
def uptoBulkEntries {H : Type} : List (Lit × DataW H) → Nat
  | [] => 0
  | x :: r => uptoBulkEntry x + uptoBulkEntries r
def uptoBulkEntry {H : Type} : Lit × DataW H → Nat
  | (.string bytes, d) => bytes.length + uptoBulk d + 1
  | (_, d) => uptoBulk d + 1
 end
def uptoSmall : (H : Type) → List (DataW H) → Bool := fun _ ds => decide (uptoBulkAll ds ≤ 1048576)
def OpenSpec.upto (s : _root_.Go.ChangeSpec) : _root_.Go.OpenSpec := { _root_.Go.OpenSpec.ofChange s with cond := some uptoSmall }

/-- 'sordinelaw15.AlertRuns', WHERE WHAT IT READS IS OF BULK AT MOST 1048576: true; the input reads as it did. -/
def alertRunsUptoRow : OpenClaim := { program := "ytmghlfdejceieaa", sum := "628f346549e497cab8d026c301da571698f74f1764b66dafc693921a614e7f5d", func := "sordine/sordinelaw15.AlertRuns", spec := "alertRuns", inPlace := ["math.Float64bits", "math.Float64frombits"], unfollowed := true, recurses := true, plainKeys := false, apart := false, narrowed := true }
def AlertRunsUptoSaid : Prop := alertRunsUptoRow.holds Try.pinned (OpenSpec.upto alertRunsSpec)

/-- 'sordinelaw15.AlertMost', WHERE WHAT IT READS IS OF BULK AT MOST 1048576: true; the input reads as it did. -/
def alertMostUptoRow : OpenClaim := { program := "ytmghlfdejceieaa", sum := "628f346549e497cab8d026c301da571698f74f1764b66dafc693921a614e7f5d", func := "sordine/sordinelaw15.AlertMost", spec := "alertMost", inPlace := ["math.Float64bits", "math.Float64frombits"], unfollowed := true, recurses := true, plainKeys := false, apart := false, narrowed := true }
def AlertMostUptoSaid : Prop := alertMostUptoRow.holds Try.pinned (OpenSpec.upto alertMostSpec)

/-- 'sordinelaw15.AlertRaw', WHERE WHAT IT READS IS OF BULK AT MOST 1048576: true; the input reads as it did. -/
def alertRawUptoRow : OpenClaim := { program := "ytmghlfdejceieaa", sum := "628f346549e497cab8d026c301da571698f74f1764b66dafc693921a614e7f5d", func := "sordine/sordinelaw15.AlertRaw", spec := "alertRaw", inPlace := ["math.Float64bits", "math.Float64frombits"], unfollowed := true, recurses := true, plainKeys := false, apart := false, narrowed := true }
def AlertRawUptoSaid : Prop := alertRawUptoRow.holds Try.pinned (OpenSpec.upto alertRawSpec)

/-- 'sordinelaw15.AlertRanks', WHERE WHAT IT READS IS OF BULK AT MOST 1048576: true; the input reads as it did. -/
def alertRanksUptoRow : OpenClaim := { program := "ytmghlfdejceieaa", sum := "628f346549e497cab8d026c301da571698f74f1764b66dafc693921a614e7f5d", func := "sordine/sordinelaw15.AlertRanks", spec := "alertRanks", inPlace := ["math.Float64bits", "math.Float64frombits"], unfollowed := true, recurses := true, plainKeys := false, apart := false, narrowed := true }
def AlertRanksUptoSaid : Prop := alertRanksUptoRow.holds Try.pinned (OpenSpec.upto alertRanksSpec)

end Rows
end Go.Proofs.Ytmghlfdejceieaa
