/-
  No cell of these rows narrows 'for every input' (looked for: loops, veiled, ifaces, maps, wideKeys, modest, calm, conditions, laid).
  DERIVED. THE GIVEN ROWS OF THIS SEAT. 7 by the template 'for every input the law returns true; each argument reads behind the call as it read before'; 0 by the template 'total and deterministic' (their statements: YtbcbfjnlnmhpbaaGreatTotals.lean).
  GIVEN WITH THE SEED: the statements are not yours to turn. If you find one false, say at which input.
  Laid BY PROGRAM, IN A SANDBOX (cutbox-rows.mjs): the forced cells as the released guide's own fill.sh prints them over the translation 5970d99ac00ab9aa… (all of the seat's roots in one cut). By AI agents, Wed Nov 11 2026. No macro, syntax, notation, axiom, sorry.
-/
import Derived.Test.YtbcbfjnlnmhpbaaGreatChecked
import GoSem.Claim
import GoSem.ClaimJoined
import GoSem.ClaimMapViews
import Derived.JoinedTies
import Derived.KernelRfl
namespace Go.Proofs.YtbcbfjnlnmhpbaaGreat
/- THE CELL 'sum', in the pinned program and in every row, IS THE sha256 OF THE DUMP (.gsa) THAT YtbcbfjnlnmhpbaaGreatProg.lean LOADS. Nothing in Lean hashes anything: it is a label: what it is worth is what the hold of that sum in a sandbox is worth. -/
noncomputable def Tryz.pinned : Pinned := { name := "ytbcbfjnlnmhpbaagreat", sum := "5970d99ac00ab9aa49cb2eb370a72c5b1b3bc874dd1107572254e84e7463a4b9", checked := Tryz.checked }
namespace Rows
def none {H : Type} : Left H := { results := [], args := [] }

/-- 'sordinelaw14.SilenceTimes': WHATEVER THE INPUT: true; the input reads as it did. -/
def silenceTimesSpec : ChangeSpec := { name := "silenceTimes", fn := fun _ => fun
  | [d1, d2, d3, d4] => { results := [.lit (.bool true)], args := [d1, d2, d3, d4] }
  | _ => none }
def silenceTimesRow : OpenClaim := { program := "ytbcbfjnlnmhpbaagreat", sum := "5970d99ac00ab9aa49cb2eb370a72c5b1b3bc874dd1107572254e84e7463a4b9", func := "sordine/sordinelaw14.SilenceTimes", spec := "silenceTimes", inPlace := ["internal/bytealg.IndexByteString", "internal/bytealg.abigen_runtime_cmpstring", "math.Float64bits", "slices.overlaps[sordine/reap.entry]", "math.Float64frombits"], unfollowed := true, recurses := true, apart := false }
def SilenceTimesSaid : Prop := silenceTimesRow.holds Tryz.pinned (OpenSpec.ofChange silenceTimesSpec)

/-- ITS FALSE NEIGHBOUR: 'it returns false'. Refute it at one input. -/
def silenceTimesWrong : ChangeSpec := { name := "silenceTimes", fn := fun _ => fun
  | [d1, d2, d3, d4] => { results := [.lit (.bool false)], args := [d1, d2, d3, d4] }
  | _ => none }
def SilenceTimesWrongFalsely : Prop := silenceTimesRow.holds Tryz.pinned (OpenSpec.ofChange silenceTimesWrong)

/-- 'sordinelaw14.SilenceSweeps': WHATEVER THE INPUT: true; the input reads as it did. -/
def silenceSweepsSpec : ChangeSpec := { name := "silenceSweeps", fn := fun _ => fun
  | [d1, d2, d3] => { results := [.lit (.bool true)], args := [d1, d2, d3] }
  | _ => none }
def silenceSweepsRow : OpenClaim := { program := "ytbcbfjnlnmhpbaagreat", sum := "5970d99ac00ab9aa49cb2eb370a72c5b1b3bc874dd1107572254e84e7463a4b9", func := "sordine/sordinelaw14.SilenceSweeps", spec := "silenceSweeps", inPlace := ["internal/bytealg.IndexByteString", "internal/bytealg.abigen_runtime_cmpstring", "math.Float64bits", "slices.overlaps[sordine/reap.entry]", "math.Float64frombits"], unfollowed := true, recurses := true, apart := false }
def SilenceSweepsSaid : Prop := silenceSweepsRow.holds Tryz.pinned (OpenSpec.ofChange silenceSweepsSpec)

/-- ITS FALSE NEIGHBOUR: 'it returns false'. Refute it at one input. -/
def silenceSweepsWrong : ChangeSpec := { name := "silenceSweeps", fn := fun _ => fun
  | [d1, d2, d3] => { results := [.lit (.bool false)], args := [d1, d2, d3] }
  | _ => none }
def SilenceSweepsWrongFalsely : Prop := silenceSweepsRow.holds Tryz.pinned (OpenSpec.ofChange silenceSweepsWrong)

/-- 'sordinelaw14.SilenceEnds': WHATEVER THE INPUT: true; the input reads as it did. -/
def silenceEndsSpec : ChangeSpec := { name := "silenceEnds", fn := fun _ => fun
  | [d1, d2, d3, d4] => { results := [.lit (.bool true)], args := [d1, d2, d3, d4] }
  | _ => none }
def silenceEndsRow : OpenClaim := { program := "ytbcbfjnlnmhpbaagreat", sum := "5970d99ac00ab9aa49cb2eb370a72c5b1b3bc874dd1107572254e84e7463a4b9", func := "sordine/sordinelaw14.SilenceEnds", spec := "silenceEnds", inPlace := ["internal/bytealg.IndexByteString", "internal/bytealg.abigen_runtime_cmpstring", "math.Float64bits", "slices.overlaps[sordine/reap.entry]", "math.Float64frombits"], unfollowed := true, recurses := true, apart := false }
def SilenceEndsSaid : Prop := silenceEndsRow.holds Tryz.pinned (OpenSpec.ofChange silenceEndsSpec)

/-- ITS FALSE NEIGHBOUR: 'it returns false'. Refute it at one input. -/
def silenceEndsWrong : ChangeSpec := { name := "silenceEnds", fn := fun _ => fun
  | [d1, d2, d3, d4] => { results := [.lit (.bool false)], args := [d1, d2, d3, d4] }
  | _ => none }
def SilenceEndsWrongFalsely : Prop := silenceEndsRow.holds Tryz.pinned (OpenSpec.ofChange silenceEndsWrong)

/-- 'sordinelaw14.SilenceUpdates': WHATEVER THE INPUT: true; the input reads as it did. -/
def silenceUpdatesSpec : ChangeSpec := { name := "silenceUpdates", fn := fun _ => fun
  | [d1, d2, d3, d4, d5] => { results := [.lit (.bool true)], args := [d1, d2, d3, d4, d5] }
  | _ => none }
def silenceUpdatesRow : OpenClaim := { program := "ytbcbfjnlnmhpbaagreat", sum := "5970d99ac00ab9aa49cb2eb370a72c5b1b3bc874dd1107572254e84e7463a4b9", func := "sordine/sordinelaw14.SilenceUpdates", spec := "silenceUpdates", inPlace := ["internal/bytealg.IndexByteString", "internal/bytealg.abigen_runtime_cmpstring", "math.Float64bits", "slices.overlaps[sordine/reap.entry]", "math.Float64frombits"], unfollowed := true, recurses := true, apart := false }
def SilenceUpdatesSaid : Prop := silenceUpdatesRow.holds Tryz.pinned (OpenSpec.ofChange silenceUpdatesSpec)

/-- ITS FALSE NEIGHBOUR: 'it returns false'. Refute it at one input. -/
def silenceUpdatesWrong : ChangeSpec := { name := "silenceUpdates", fn := fun _ => fun
  | [d1, d2, d3, d4, d5] => { results := [.lit (.bool false)], args := [d1, d2, d3, d4, d5] }
  | _ => none }
def SilenceUpdatesWrongFalsely : Prop := silenceUpdatesRow.holds Tryz.pinned (OpenSpec.ofChange silenceUpdatesWrong)

/-- 'sordinelaw14.SilencePlays': WHATEVER THE INPUT: true; the input reads as it did. -/
def silencePlaysSpec : ChangeSpec := { name := "silencePlays", fn := fun _ => fun
  | [d1, d2, d3, d4, d5, d6, d7, d8] => { results := [.lit (.bool true)], args := [d1, d2, d3, d4, d5, d6, d7, d8] }
  | _ => none }
def silencePlaysRow : OpenClaim := { program := "ytbcbfjnlnmhpbaagreat", sum := "5970d99ac00ab9aa49cb2eb370a72c5b1b3bc874dd1107572254e84e7463a4b9", func := "sordine/sordinelaw14.SilencePlays", spec := "silencePlays", inPlace := ["internal/bytealg.IndexByteString", "internal/bytealg.abigen_runtime_cmpstring", "math.Float64bits", "slices.overlaps[sordine/reap.entry]", "math.Float64frombits"], unfollowed := true, recurses := true, apart := false }
def SilencePlaysSaid : Prop := silencePlaysRow.holds Tryz.pinned (OpenSpec.ofChange silencePlaysSpec)

/-- ITS FALSE NEIGHBOUR: 'it returns false'. Refute it at one input. -/
def silencePlaysWrong : ChangeSpec := { name := "silencePlays", fn := fun _ => fun
  | [d1, d2, d3, d4, d5, d6, d7, d8] => { results := [.lit (.bool false)], args := [d1, d2, d3, d4, d5, d6, d7, d8] }
  | _ => none }
def SilencePlaysWrongFalsely : Prop := silencePlaysRow.holds Tryz.pinned (OpenSpec.ofChange silencePlaysWrong)

/-- 'sordinelaw14.SilenceRaw': WHATEVER THE INPUT: true; the input reads as it did. -/
def silenceRawSpec : ChangeSpec := { name := "silenceRaw", fn := fun _ => fun
  | [d1, d2, d3, d4, d5, d6] => { results := [.lit (.bool true)], args := [d1, d2, d3, d4, d5, d6] }
  | _ => none }
def silenceRawRow : OpenClaim := { program := "ytbcbfjnlnmhpbaagreat", sum := "5970d99ac00ab9aa49cb2eb370a72c5b1b3bc874dd1107572254e84e7463a4b9", func := "sordine/sordinelaw14.SilenceRaw", spec := "silenceRaw", inPlace := ["internal/bytealg.IndexByteString", "internal/bytealg.abigen_runtime_cmpstring", "math.Float64bits", "slices.overlaps[sordine/reap.entry]", "math.Float64frombits"], unfollowed := true, recurses := true, apart := false }
def SilenceRawSaid : Prop := silenceRawRow.holds Tryz.pinned (OpenSpec.ofChange silenceRawSpec)

/-- ITS FALSE NEIGHBOUR: 'it returns false'. Refute it at one input. -/
def silenceRawWrong : ChangeSpec := { name := "silenceRaw", fn := fun _ => fun
  | [d1, d2, d3, d4, d5, d6] => { results := [.lit (.bool false)], args := [d1, d2, d3, d4, d5, d6] }
  | _ => none }
def SilenceRawWrongFalsely : Prop := silenceRawRow.holds Tryz.pinned (OpenSpec.ofChange silenceRawWrong)

/-- 'sordinelaw18.MuteDecides': WHATEVER THE INPUT: true; the input reads as it did. -/
def muteDecidesSpec : ChangeSpec := { name := "muteDecides", fn := fun _ => fun
  | [d1, d2, d3, d4, d5] => { results := [.lit (.bool true)], args := [d1, d2, d3, d4, d5] }
  | _ => none }
def muteDecidesRow : OpenClaim := { program := "ytbcbfjnlnmhpbaagreat", sum := "5970d99ac00ab9aa49cb2eb370a72c5b1b3bc874dd1107572254e84e7463a4b9", func := "sordine/sordinelaw18.MuteDecides", spec := "muteDecides", inPlace := ["internal/bytealg.IndexByteString", "internal/bytealg.abigen_runtime_cmpstring", "math.Float64bits", "slices.overlaps[sordine/reap.entry]"], unfollowed := true, recurses := true, apart := false }
def MuteDecidesSaid : Prop := muteDecidesRow.holds Tryz.pinned (OpenSpec.ofChange muteDecidesSpec)

/-- ITS FALSE NEIGHBOUR: 'it returns false'. Refute it at one input. -/
def muteDecidesWrong : ChangeSpec := { name := "muteDecides", fn := fun _ => fun
  | [d1, d2, d3, d4, d5] => { results := [.lit (.bool false)], args := [d1, d2, d3, d4, d5] }
  | _ => none }
def MuteDecidesWrongFalsely : Prop := muteDecidesRow.holds Tryz.pinned (OpenSpec.ofChange muteDecidesWrong)

/- THE SECOND FORM. 'bulk': how many values and letters a reading holds, each counted each time it is reached (what is shared counts as often as it is met; a slice's spare places count too). A statement '..UptoSaid' is the law's where the arguments, and the package variables that the reading takes, are together of bulk at most 1048576: NARROWER than '..Said'. Prove '..Said' where nothing that the law and all that it calls make is longer than what came in: it says more and counts as full. Else prove '..UptoSaid'. A law counts once. -/
mutual
def uptoBulk {H : Type} : DataW H → Nat
  | .lit (.string bytes) => bytes.length + 1
  | .lit _ => 1
  | .nil => 1
  | .ptr d => uptoBulk d + 1
  | .slice elems spare => uptoBulkAll elems + uptoBulkAll spare + 1
  | .agg parts => uptoBulkAll parts + 1
  | .iface _ d => uptoBulk d + 1
  | .map entries => uptoBulkEntries entries + 1
  | .held _ => 1
def uptoBulkAll {H : Type} : List (DataW H) → Nat
  | [] => 0
  | d :: r => uptoBulk d + uptoBulkAll r
def uptoBulkEntries {H : Type} : List (Lit × DataW H) → Nat
  | [] => 0
  | x :: r => uptoBulkEntry x + uptoBulkEntries r
def uptoBulkEntry {H : Type} : Lit × DataW H → Nat
  | (.string bytes, d) => bytes.length + uptoBulk d + 1
  | (_, d) => uptoBulk d + 1
 end
def uptoSmall : (H : Type) → List (DataW H) → Bool := fun _ ds => decide (uptoBulkAll ds ≤ 1048576)
def OpenSpec.upto (s : _root_.Go.ChangeSpec) : _root_.Go.OpenSpec := { _root_.Go.OpenSpec.ofChange s with cond := some uptoSmall }

/-- 'sordinelaw14.SilenceTimes', WHERE WHAT IT READS IS OF BULK AT MOST 1048576: true; the input reads as it did. -/
def silenceTimesUptoRow : OpenClaim := { program := "ytbcbfjnlnmhpbaagreat", sum := "5970d99ac00ab9aa49cb2eb370a72c5b1b3bc874dd1107572254e84e7463a4b9", func := "sordine/sordinelaw14.SilenceTimes", spec := "silenceTimes", inPlace := ["internal/bytealg.IndexByteString", "internal/bytealg.abigen_runtime_cmpstring", "math.Float64bits", "slices.overlaps[sordine/reap.entry]", "math.Float64frombits"], unfollowed := true, recurses := true, apart := false, narrowed := true }
def SilenceTimesUptoSaid : Prop := silenceTimesUptoRow.holds Tryz.pinned (OpenSpec.upto silenceTimesSpec)

/-- 'sordinelaw14.SilenceSweeps', WHERE WHAT IT READS IS OF BULK AT MOST 1048576: true; the input reads as it did. -/
def silenceSweepsUptoRow : OpenClaim := { program := "ytbcbfjnlnmhpbaagreat", sum := "5970d99ac00ab9aa49cb2eb370a72c5b1b3bc874dd1107572254e84e7463a4b9", func := "sordine/sordinelaw14.SilenceSweeps", spec := "silenceSweeps", inPlace := ["internal/bytealg.IndexByteString", "internal/bytealg.abigen_runtime_cmpstring", "math.Float64bits", "slices.overlaps[sordine/reap.entry]", "math.Float64frombits"], unfollowed := true, recurses := true, apart := false, narrowed := true }
def SilenceSweepsUptoSaid : Prop := silenceSweepsUptoRow.holds Tryz.pinned (OpenSpec.upto silenceSweepsSpec)

/-- 'sordinelaw14.SilenceEnds', WHERE WHAT IT READS IS OF BULK AT MOST 1048576: true; the input reads as it did. -/
def silenceEndsUptoRow : OpenClaim := { program := "ytbcbfjnlnmhpbaagreat", sum := "5970d99ac00ab9aa49cb2eb370a72c5b1b3bc874dd1107572254e84e7463a4b9", func := "sordine/sordinelaw14.SilenceEnds", spec := "silenceEnds", inPlace := ["internal/bytealg.IndexByteString", "internal/bytealg.abigen_runtime_cmpstring", "math.Float64bits", "slices.overlaps[sordine/reap.entry]", "math.Float64frombits"], unfollowed := true, recurses := true, apart := false, narrowed := true }
def SilenceEndsUptoSaid : Prop := silenceEndsUptoRow.holds Tryz.pinned (OpenSpec.upto silenceEndsSpec)

/-- 'sordinelaw14.SilenceUpdates', WHERE WHAT IT READS IS OF BULK AT MOST 1048576: true; the input reads as it did. -/
def silenceUpdatesUptoRow : OpenClaim := { program := "ytbcbfjnlnmhpbaagreat", sum := "5970d99ac00ab9aa49cb2eb370a72c5b1b3bc874dd1107572254e84e7463a4b9", func := "sordine/sordinelaw14.SilenceUpdates", spec := "silenceUpdates", inPlace := ["internal/bytealg.IndexByteString", "internal/bytealg.abigen_runtime_cmpstring", "math.Float64bits", "slices.overlaps[sordine/reap.entry]", "math.Float64frombits"], unfollowed := true, recurses := true, apart := false, narrowed := true }
def SilenceUpdatesUptoSaid : Prop := silenceUpdatesUptoRow.holds Tryz.pinned (OpenSpec.upto silenceUpdatesSpec)

/-- 'sordinelaw14.SilencePlays', WHERE WHAT IT READS IS OF BULK AT MOST 1048576: true; the input reads as it did. -/
def silencePlaysUptoRow : OpenClaim := { program := "ytbcbfjnlnmhpbaagreat", sum := "5970d99ac00ab9aa49cb2eb370a72c5b1b3bc874dd1107572254e84e7463a4b9", func := "sordine/sordinelaw14.SilencePlays", spec := "silencePlays", inPlace := ["internal/bytealg.IndexByteString", "internal/bytealg.abigen_runtime_cmpstring", "math.Float64bits", "slices.overlaps[sordine/reap.entry]", "math.Float64frombits"], unfollowed := true, recurses := true, apart := false, narrowed := true }
def SilencePlaysUptoSaid : Prop := silencePlaysUptoRow.holds Tryz.pinned (OpenSpec.upto silencePlaysSpec)

/-- 'sordinelaw14.SilenceRaw', WHERE WHAT IT READS IS OF BULK AT MOST 1048576: true; the input reads as it did. -/
def silenceRawUptoRow : OpenClaim := { program := "ytbcbfjnlnmhpbaagreat", sum := "5970d99ac00ab9aa49cb2eb370a72c5b1b3bc874dd1107572254e84e7463a4b9", func := "sordine/sordinelaw14.SilenceRaw", spec := "silenceRaw", inPlace := ["internal/bytealg.IndexByteString", "internal/bytealg.abigen_runtime_cmpstring", "math.Float64bits", "slices.overlaps[sordine/reap.entry]", "math.Float64frombits"], unfollowed := true, recurses := true, apart := false, narrowed := true }
def SilenceRawUptoSaid : Prop := silenceRawUptoRow.holds Tryz.pinned (OpenSpec.upto silenceRawSpec)

/-- 'sordinelaw18.MuteDecides', WHERE WHAT IT READS IS OF BULK AT MOST 1048576: true; the input reads as it did. -/
def muteDecidesUptoRow : OpenClaim := { program := "ytbcbfjnlnmhpbaagreat", sum := "5970d99ac00ab9aa49cb2eb370a72c5b1b3bc874dd1107572254e84e7463a4b9", func := "sordine/sordinelaw18.MuteDecides", spec := "muteDecides", inPlace := ["internal/bytealg.IndexByteString", "internal/bytealg.abigen_runtime_cmpstring", "math.Float64bits", "slices.overlaps[sordine/reap.entry]"], unfollowed := true, recurses := true, apart := false, narrowed := true }
def MuteDecidesUptoSaid : Prop := muteDecidesUptoRow.holds Tryz.pinned (OpenSpec.upto muteDecidesSpec)

end Rows
end Go.Proofs.YtbcbfjnlnmhpbaaGreat
