/-
  No cell of these rows narrows 'for every input' (looked for: loops, veiled, ifaces, maps, wideKeys, modest, calm, conditions, laid).
  DERIVED. THE GIVEN ROWS OF THIS SEAT. 13 by the template 'for every input the law returns true; each argument reads behind the call as it read before'; 0 by the template 'total and deterministic' (their statements: YtffbcfcoddacmaaGreatTotals.lean).
  GIVEN WITH THE SEED: the statements are not yours to turn. If you find one false, say at which input.
  Laid BY PROGRAM, IN A SANDBOX (cutbox-rows.mjs): the forced cells as the released guide's own fill.sh prints them over the translation c8c029729d47f3ab… (all of the seat's roots in one cut). By AI agents, Wed Nov 11 2026. No macro, syntax, notation, axiom, sorry.
-/
import Derived.Test.YtffbcfcoddacmaaGreatChecked
import GoSem.Claim
import GoSem.ClaimJoined
import GoSem.ClaimMapViews
import Derived.JoinedTies
import Derived.KernelRfl
namespace Go.Proofs.YtffbcfcoddacmaaGreat
/- THE CELL 'sum', in the pinned program and in every row, IS THE sha256 OF THE DUMP (.gsa) THAT YtffbcfcoddacmaaGreatProg.lean LOADS. Nothing in Lean hashes anything: it is a label: what it is worth is what the hold of that sum in a sandbox is worth. -/
noncomputable def Tryz.pinned : Pinned := { name := "ytffbcfcoddacmaagreat", sum := "c8c029729d47f3abddf2bb35b4f9ba25702dc4d6ff611ba7812e1968035c84d4", checked := Tryz.checked }
namespace Rows
def none {H : Type} : Left H := { results := [], args := [] }

/-- 'sordinelaw15.AlertValues': WHATEVER THE INPUT: true; the input reads as it did. -/
def alertValuesSpec : ChangeSpec := { name := "alertValues", fn := fun _ => fun
  | [d1, d2, d3] => { results := [.lit (.bool true)], args := [d1, d2, d3] }
  | _ => none }
def alertValuesRow : OpenClaim := { program := "ytffbcfcoddacmaagreat", sum := "c8c029729d47f3abddf2bb35b4f9ba25702dc4d6ff611ba7812e1968035c84d4", func := "sordine/sordinelaw15.AlertValues", spec := "alertValues", inPlace := ["math.Float64bits", "math.Float64frombits"], unfollowed := true, recurses := true, plainKeys := false, apart := false }
def AlertValuesSaid : Prop := alertValuesRow.holds Tryz.pinned (OpenSpec.ofChange alertValuesSpec)

/-- ITS FALSE NEIGHBOUR: 'it returns false'. Refute it at one input. -/
def alertValuesWrong : ChangeSpec := { name := "alertValues", fn := fun _ => fun
  | [d1, d2, d3] => { results := [.lit (.bool false)], args := [d1, d2, d3] }
  | _ => none }
def AlertValuesWrongFalsely : Prop := alertValuesRow.holds Tryz.pinned (OpenSpec.ofChange alertValuesWrong)

/-- 'sordinelaw10.IndexRuns': WHATEVER THE INPUT: true; the input reads as it did. -/
def indexRunsSpec : ChangeSpec := { name := "indexRuns", fn := fun _ => fun
  | [] => { results := [.lit (.bool true)], args := [] }
  | _ => none }
def indexRunsRow : OpenClaim := { program := "ytffbcfcoddacmaagreat", sum := "c8c029729d47f3abddf2bb35b4f9ba25702dc4d6ff611ba7812e1968035c84d4", func := "sordine/sordinelaw10.IndexRuns", spec := "indexRuns", inPlace := ["internal/bytealg.IndexByteString"], unfollowed := true, recurses := true, plainKeys := false, apart := false }
def IndexRunsSaid : Prop := indexRunsRow.holds Tryz.pinned (OpenSpec.ofChange indexRunsSpec)

/-- ITS FALSE NEIGHBOUR: 'it returns false'. Refute it at one input. -/
def indexRunsWrong : ChangeSpec := { name := "indexRuns", fn := fun _ => fun
  | [] => { results := [.lit (.bool false)], args := [] }
  | _ => none }
def IndexRunsWrongFalsely : Prop := indexRunsRow.holds Tryz.pinned (OpenSpec.ofChange indexRunsWrong)

/-- 'sordinelaw15.AlertPlays': WHATEVER THE INPUT: true; the input reads as it did. -/
def alertPlaysSpec : ChangeSpec := { name := "alertPlays", fn := fun _ => fun
  | [d1, d2, d3] => { results := [.lit (.bool true)], args := [d1, d2, d3] }
  | _ => none }
def alertPlaysRow : OpenClaim := { program := "ytffbcfcoddacmaagreat", sum := "c8c029729d47f3abddf2bb35b4f9ba25702dc4d6ff611ba7812e1968035c84d4", func := "sordine/sordinelaw15.AlertPlays", spec := "alertPlays", inPlace := ["math.Float64bits", "math.Float64frombits"], unfollowed := true, recurses := true, plainKeys := false, apart := false }
def AlertPlaysSaid : Prop := alertPlaysRow.holds Tryz.pinned (OpenSpec.ofChange alertPlaysSpec)

/-- ITS FALSE NEIGHBOUR: 'it returns false'. Refute it at one input. -/
def alertPlaysWrong : ChangeSpec := { name := "alertPlays", fn := fun _ => fun
  | [d1, d2, d3] => { results := [.lit (.bool false)], args := [d1, d2, d3] }
  | _ => none }
def AlertPlaysWrongFalsely : Prop := alertPlaysRow.holds Tryz.pinned (OpenSpec.ofChange alertPlaysWrong)

/-- 'sordinelaw10.IndexPlays': WHATEVER THE INPUT: true; the input reads as it did. -/
def indexPlaysSpec : ChangeSpec := { name := "indexPlays", fn := fun _ => fun
  | [d] => { results := [.lit (.bool true)], args := [d] }
  | _ => none }
def indexPlaysRow : OpenClaim := { program := "ytffbcfcoddacmaagreat", sum := "c8c029729d47f3abddf2bb35b4f9ba25702dc4d6ff611ba7812e1968035c84d4", func := "sordine/sordinelaw10.IndexPlays", spec := "indexPlays", inPlace := ["internal/bytealg.IndexByteString"], unfollowed := true, recurses := true, plainKeys := false, apart := false }
def IndexPlaysSaid : Prop := indexPlaysRow.holds Tryz.pinned (OpenSpec.ofChange indexPlaysSpec)

/-- ITS FALSE NEIGHBOUR: 'it returns false'. Refute it at one input. -/
def indexPlaysWrong : ChangeSpec := { name := "indexPlays", fn := fun _ => fun
  | [d] => { results := [.lit (.bool false)], args := [d] }
  | _ => none }
def IndexPlaysWrongFalsely : Prop := indexPlaysRow.holds Tryz.pinned (OpenSpec.ofChange indexPlaysWrong)

/-- 'sordinelaw10.IndexFinds': WHATEVER THE INPUT: true; the input reads as it did. -/
def indexFindsSpec : ChangeSpec := { name := "indexFinds", fn := fun _ => fun
  | [d1, d2] => { results := [.lit (.bool true)], args := [d1, d2] }
  | _ => none }
def indexFindsRow : OpenClaim := { program := "ytffbcfcoddacmaagreat", sum := "c8c029729d47f3abddf2bb35b4f9ba25702dc4d6ff611ba7812e1968035c84d4", func := "sordine/sordinelaw10.IndexFinds", spec := "indexFinds", inPlace := ["internal/bytealg.IndexByteString"], unfollowed := true, recurses := true, plainKeys := false, apart := false }
def IndexFindsSaid : Prop := indexFindsRow.holds Tryz.pinned (OpenSpec.ofChange indexFindsSpec)

/-- ITS FALSE NEIGHBOUR: 'it returns false'. Refute it at one input. -/
def indexFindsWrong : ChangeSpec := { name := "indexFinds", fn := fun _ => fun
  | [d1, d2] => { results := [.lit (.bool false)], args := [d1, d2] }
  | _ => none }
def IndexFindsWrongFalsely : Prop := indexFindsRow.holds Tryz.pinned (OpenSpec.ofChange indexFindsWrong)

/-- 'sordinelaw10.IndexParts': WHATEVER THE INPUT: true; the input reads as it did. -/
def indexPartsSpec : ChangeSpec := { name := "indexParts", fn := fun _ => fun
  | [d1, d2, d3] => { results := [.lit (.bool true)], args := [d1, d2, d3] }
  | _ => none }
def indexPartsRow : OpenClaim := { program := "ytffbcfcoddacmaagreat", sum := "c8c029729d47f3abddf2bb35b4f9ba25702dc4d6ff611ba7812e1968035c84d4", func := "sordine/sordinelaw10.IndexParts", spec := "indexParts", inPlace := ["internal/bytealg.IndexByteString"], unfollowed := true, recurses := true, plainKeys := false, apart := false }
def IndexPartsSaid : Prop := indexPartsRow.holds Tryz.pinned (OpenSpec.ofChange indexPartsSpec)

/-- ITS FALSE NEIGHBOUR: 'it returns false'. Refute it at one input. -/
def indexPartsWrong : ChangeSpec := { name := "indexParts", fn := fun _ => fun
  | [d1, d2, d3] => { results := [.lit (.bool false)], args := [d1, d2, d3] }
  | _ => none }
def IndexPartsWrongFalsely : Prop := indexPartsRow.holds Tryz.pinned (OpenSpec.ofChange indexPartsWrong)

/-- 'sordinelaw10.IndexRaw': WHATEVER THE INPUT: true; the input reads as it did. -/
def indexRawSpec : ChangeSpec := { name := "indexRaw", fn := fun _ => fun
  | [d1, d2, d3] => { results := [.lit (.bool true)], args := [d1, d2, d3] }
  | _ => none }
def indexRawRow : OpenClaim := { program := "ytffbcfcoddacmaagreat", sum := "c8c029729d47f3abddf2bb35b4f9ba25702dc4d6ff611ba7812e1968035c84d4", func := "sordine/sordinelaw10.IndexRaw", spec := "indexRaw", inPlace := ["internal/bytealg.IndexByteString"], unfollowed := true, recurses := true, plainKeys := false, apart := false }
def IndexRawSaid : Prop := indexRawRow.holds Tryz.pinned (OpenSpec.ofChange indexRawSpec)

/-- ITS FALSE NEIGHBOUR: 'it returns false'. Refute it at one input. -/
def indexRawWrong : ChangeSpec := { name := "indexRaw", fn := fun _ => fun
  | [d1, d2, d3] => { results := [.lit (.bool false)], args := [d1, d2, d3] }
  | _ => none }
def IndexRawWrongFalsely : Prop := indexRawRow.holds Tryz.pinned (OpenSpec.ofChange indexRawWrong)

/-- 'sordinelaw18.MuteRuns': WHATEVER THE INPUT: true; the input reads as it did. -/
def muteRunsSpec : ChangeSpec := { name := "muteRuns", fn := fun _ => fun
  | [] => { results := [.lit (.bool true)], args := [] }
  | _ => none }
def muteRunsRow : OpenClaim := { program := "ytffbcfcoddacmaagreat", sum := "c8c029729d47f3abddf2bb35b4f9ba25702dc4d6ff611ba7812e1968035c84d4", func := "sordine/sordinelaw18.MuteRuns", spec := "muteRuns", inPlace := ["internal/bytealg.IndexByteString", "math.Float64bits", "internal/bytealg.abigen_runtime_cmpstring"], unfollowed := true, recurses := true, plainKeys := false, apart := false }
def MuteRunsSaid : Prop := muteRunsRow.holds Tryz.pinned (OpenSpec.ofChange muteRunsSpec)

/-- ITS FALSE NEIGHBOUR: 'it returns false'. Refute it at one input. -/
def muteRunsWrong : ChangeSpec := { name := "muteRuns", fn := fun _ => fun
  | [] => { results := [.lit (.bool false)], args := [] }
  | _ => none }
def MuteRunsWrongFalsely : Prop := muteRunsRow.holds Tryz.pinned (OpenSpec.ofChange muteRunsWrong)

/-- 'sordinelaw18.MutePlain': WHATEVER THE INPUT: true; the input reads as it did. -/
def mutePlainSpec : ChangeSpec := { name := "mutePlain", fn := fun _ => fun
  | [d1, d2, d3, d4, d5] => { results := [.lit (.bool true)], args := [d1, d2, d3, d4, d5] }
  | _ => none }
def mutePlainRow : OpenClaim := { program := "ytffbcfcoddacmaagreat", sum := "c8c029729d47f3abddf2bb35b4f9ba25702dc4d6ff611ba7812e1968035c84d4", func := "sordine/sordinelaw18.MutePlain", spec := "mutePlain", inPlace := ["internal/bytealg.IndexByteString", "math.Float64bits", "internal/bytealg.abigen_runtime_cmpstring"], unfollowed := true, recurses := true, plainKeys := false, apart := false }
def MutePlainSaid : Prop := mutePlainRow.holds Tryz.pinned (OpenSpec.ofChange mutePlainSpec)

/-- ITS FALSE NEIGHBOUR: 'it returns false'. Refute it at one input. -/
def mutePlainWrong : ChangeSpec := { name := "mutePlain", fn := fun _ => fun
  | [d1, d2, d3, d4, d5] => { results := [.lit (.bool false)], args := [d1, d2, d3, d4, d5] }
  | _ => none }
def MutePlainWrongFalsely : Prop := mutePlainRow.holds Tryz.pinned (OpenSpec.ofChange mutePlainWrong)

/-- 'sordinelaw18.MuteRaw': WHATEVER THE INPUT: true; the input reads as it did. -/
def muteRawSpec : ChangeSpec := { name := "muteRaw", fn := fun _ => fun
  | [d1, d2, d3, d4, d5] => { results := [.lit (.bool true)], args := [d1, d2, d3, d4, d5] }
  | _ => none }
def muteRawRow : OpenClaim := { program := "ytffbcfcoddacmaagreat", sum := "c8c029729d47f3abddf2bb35b4f9ba25702dc4d6ff611ba7812e1968035c84d4", func := "sordine/sordinelaw18.MuteRaw", spec := "muteRaw", inPlace := ["internal/bytealg.IndexByteString", "math.Float64bits", "internal/bytealg.abigen_runtime_cmpstring"], unfollowed := true, recurses := true, plainKeys := false, apart := false }
def MuteRawSaid : Prop := muteRawRow.holds Tryz.pinned (OpenSpec.ofChange muteRawSpec)

/-- ITS FALSE NEIGHBOUR: 'it returns false'. Refute it at one input. -/
def muteRawWrong : ChangeSpec := { name := "muteRaw", fn := fun _ => fun
  | [d1, d2, d3, d4, d5] => { results := [.lit (.bool false)], args := [d1, d2, d3, d4, d5] }
  | _ => none }
def MuteRawWrongFalsely : Prop := muteRawRow.holds Tryz.pinned (OpenSpec.ofChange muteRawWrong)

/-- 'sordinelaw18.MuteSelf': WHATEVER THE INPUT: true; the input reads as it did. -/
def muteSelfSpec : ChangeSpec := { name := "muteSelf", fn := fun _ => fun
  | [d1, d2, d3] => { results := [.lit (.bool true)], args := [d1, d2, d3] }
  | _ => none }
def muteSelfRow : OpenClaim := { program := "ytffbcfcoddacmaagreat", sum := "c8c029729d47f3abddf2bb35b4f9ba25702dc4d6ff611ba7812e1968035c84d4", func := "sordine/sordinelaw18.MuteSelf", spec := "muteSelf", inPlace := ["internal/bytealg.IndexByteString", "math.Float64bits", "internal/bytealg.abigen_runtime_cmpstring"], unfollowed := true, recurses := true, plainKeys := false, apart := false }
def MuteSelfSaid : Prop := muteSelfRow.holds Tryz.pinned (OpenSpec.ofChange muteSelfSpec)

/-- ITS FALSE NEIGHBOUR: 'it returns false'. Refute it at one input. -/
def muteSelfWrong : ChangeSpec := { name := "muteSelf", fn := fun _ => fun
  | [d1, d2, d3] => { results := [.lit (.bool false)], args := [d1, d2, d3] }
  | _ => none }
def MuteSelfWrongFalsely : Prop := muteSelfRow.holds Tryz.pinned (OpenSpec.ofChange muteSelfWrong)

/-- 'sordinelaw18.MuteMore': WHATEVER THE INPUT: true; the input reads as it did. -/
def muteMoreSpec : ChangeSpec := { name := "muteMore", fn := fun _ => fun
  | [d1, d2, d3, d4, d5, d6, d7] => { results := [.lit (.bool true)], args := [d1, d2, d3, d4, d5, d6, d7] }
  | _ => none }
def muteMoreRow : OpenClaim := { program := "ytffbcfcoddacmaagreat", sum := "c8c029729d47f3abddf2bb35b4f9ba25702dc4d6ff611ba7812e1968035c84d4", func := "sordine/sordinelaw18.MuteMore", spec := "muteMore", inPlace := ["internal/bytealg.IndexByteString", "math.Float64bits", "internal/bytealg.abigen_runtime_cmpstring"], unfollowed := true, recurses := true, plainKeys := false, apart := false }
def MuteMoreSaid : Prop := muteMoreRow.holds Tryz.pinned (OpenSpec.ofChange muteMoreSpec)

/-- ITS FALSE NEIGHBOUR: 'it returns false'. Refute it at one input. -/
def muteMoreWrong : ChangeSpec := { name := "muteMore", fn := fun _ => fun
  | [d1, d2, d3, d4, d5, d6, d7] => { results := [.lit (.bool false)], args := [d1, d2, d3, d4, d5, d6, d7] }
  | _ => none }
def MuteMoreWrongFalsely : Prop := muteMoreRow.holds Tryz.pinned (OpenSpec.ofChange muteMoreWrong)

/-- 'sordinelaw10.IndexValues': WHATEVER THE INPUT: true; the input reads as it did. -/
def indexValuesSpec : ChangeSpec := { name := "indexValues", fn := fun _ => fun
  | [d] => { results := [.lit (.bool true)], args := [d] }
  | _ => none }
def indexValuesRow : OpenClaim := { program := "ytffbcfcoddacmaagreat", sum := "c8c029729d47f3abddf2bb35b4f9ba25702dc4d6ff611ba7812e1968035c84d4", func := "sordine/sordinelaw10.IndexValues", spec := "indexValues", inPlace := ["internal/bytealg.IndexByteString"], unfollowed := true, recurses := true, plainKeys := false, apart := false }
def IndexValuesSaid : Prop := indexValuesRow.holds Tryz.pinned (OpenSpec.ofChange indexValuesSpec)

/-- ITS FALSE NEIGHBOUR: 'it returns false'. Refute it at one input. -/
def indexValuesWrong : ChangeSpec := { name := "indexValues", fn := fun _ => fun
  | [d] => { results := [.lit (.bool false)], args := [d] }
  | _ => none }
def IndexValuesWrongFalsely : Prop := indexValuesRow.holds Tryz.pinned (OpenSpec.ofChange indexValuesWrong)

/- THE SECOND FORM. 'bulk': how many values and letters a reading holds, each counted each time it is reached (what is shared counts as often as it is met; a slice's spare places count too). A statement '..UptoSaid' is the law's where the arguments, and the package variables that the reading takes, are together of bulk at most 1048576: NARROWER than '..Said'. Prove '..Said' where nothing that the law and all that it calls make is longer than what came in: it says more and counts as full. Else prove '..UptoSaid'. A law counts once. -/
mutual
def uptoBulk {H : Type} : DataW H → Nat
  | .lit (.string bytes) => bytes.length + 1
  | .lit _ => 1
  | .nil => 1
  | .ptr d => uptoBulk d + 1
  | .slice elems spare => uptoBulkAll elems + uptoBulkAll spare + 1
  | .agg parts => uptoBulkAll parts + 1
  | .iface _ d => uptoBulk d + 1
  | .map entries => uptoBulkEntries entries + 1
  | .held _ => 1
def uptoBulkAll {H : Type} : List (DataW H) → Nat
  | [] => 0
  | d :: r => uptoBulk d + uptoBulkAll r
def uptoBulkEntries {H : Type} : List (Lit × DataW H) → Nat
  | [] => 0
  | x :: r => uptoBulkEntry x + uptoBulkEntries r
def uptoBulkEntry {H : Type} : Lit × DataW H → Nat
  | (.string bytes, d) => bytes.length + uptoBulk d + 1
  | (_, d) => uptoBulk d + 1
 end
def uptoSmall : (H : Type) → List (DataW H) → Bool := fun _ ds => decide (uptoBulkAll ds ≤ 1048576)
def OpenSpec.upto (s : _root_.Go.ChangeSpec) : _root_.Go.OpenSpec := { _root_.Go.OpenSpec.ofChange s with cond := some uptoSmall }

/-- 'sordinelaw15.AlertValues', WHERE WHAT IT READS IS OF BULK AT MOST 1048576: true; the input reads as it did. -/
def alertValuesUptoRow : OpenClaim := { program := "ytffbcfcoddacmaagreat", sum := "c8c029729d47f3abddf2bb35b4f9ba25702dc4d6ff611ba7812e1968035c84d4", func := "sordine/sordinelaw15.AlertValues", spec := "alertValues", inPlace := ["math.Float64bits", "math.Float64frombits"], unfollowed := true, recurses := true, plainKeys := false, apart := false, narrowed := true }
def AlertValuesUptoSaid : Prop := alertValuesUptoRow.holds Tryz.pinned (OpenSpec.upto alertValuesSpec)

/-- 'sordinelaw10.IndexRuns', WHERE WHAT IT READS IS OF BULK AT MOST 1048576: true; the input reads as it did. -/
def indexRunsUptoRow : OpenClaim := { program := "ytffbcfcoddacmaagreat", sum := "c8c029729d47f3abddf2bb35b4f9ba25702dc4d6ff611ba7812e1968035c84d4", func := "sordine/sordinelaw10.IndexRuns", spec := "indexRuns", inPlace := ["internal/bytealg.IndexByteString"], unfollowed := true, recurses := true, plainKeys := false, apart := false, narrowed := true }
def IndexRunsUptoSaid : Prop := indexRunsUptoRow.holds Tryz.pinned (OpenSpec.upto indexRunsSpec)

/-- 'sordinelaw15.AlertPlays', WHERE WHAT IT READS IS OF BULK AT MOST 1048576: true; the input reads as it did. -/
def alertPlaysUptoRow : OpenClaim := { program := "ytffbcfcoddacmaagreat", sum := "c8c029729d47f3abddf2bb35b4f9ba25702dc4d6ff611ba7812e1968035c84d4", func := "sordine/sordinelaw15.AlertPlays", spec := "alertPlays", inPlace := ["math.Float64bits", "math.Float64frombits"], unfollowed := true, recurses := true, plainKeys := false, apart := false, narrowed := true }
def AlertPlaysUptoSaid : Prop := alertPlaysUptoRow.holds Tryz.pinned (OpenSpec.upto alertPlaysSpec)

/-- 'sordinelaw10.IndexPlays', WHERE WHAT IT READS IS OF BULK AT MOST 1048576: true; the input reads as it did. -/
def indexPlaysUptoRow : OpenClaim := { program := "ytffbcfcoddacmaagreat", sum := "c8c029729d47f3abddf2bb35b4f9ba25702dc4d6ff611ba7812e1968035c84d4", func := "sordine/sordinelaw10.IndexPlays", spec := "indexPlays", inPlace := ["internal/bytealg.IndexByteString"], unfollowed := true, recurses := true, plainKeys := false, apart := false, narrowed := true }
def IndexPlaysUptoSaid : Prop := indexPlaysUptoRow.holds Tryz.pinned (OpenSpec.upto indexPlaysSpec)

/-- 'sordinelaw10.IndexFinds', WHERE WHAT IT READS IS OF BULK AT MOST 1048576: true; the input reads as it did. -/
def indexFindsUptoRow : OpenClaim := { program := "ytffbcfcoddacmaagreat", sum := "c8c029729d47f3abddf2bb35b4f9ba25702dc4d6ff611ba7812e1968035c84d4", func := "sordine/sordinelaw10.IndexFinds", spec := "indexFinds", inPlace := ["internal/bytealg.IndexByteString"], unfollowed := true, recurses := true, plainKeys := false, apart := false, narrowed := true }
def IndexFindsUptoSaid : Prop := indexFindsUptoRow.holds Tryz.pinned (OpenSpec.upto indexFindsSpec)

/-- 'sordinelaw10.IndexParts', WHERE WHAT IT READS IS OF BULK AT MOST 1048576: true; the input reads as it did. -/
def indexPartsUptoRow : OpenClaim := { program := "ytffbcfcoddacmaagreat", sum := "c8c029729d47f3abddf2bb35b4f9ba25702dc4d6ff611ba7812e1968035c84d4", func := "sordine/sordinelaw10.IndexParts", spec := "indexParts", inPlace := ["internal/bytealg.IndexByteString"], unfollowed := true, recurses := true, plainKeys := false, apart := false, narrowed := true }
def IndexPartsUptoSaid : Prop := indexPartsUptoRow.holds Tryz.pinned (OpenSpec.upto indexPartsSpec)

/-- 'sordinelaw10.IndexRaw', WHERE WHAT IT READS IS OF BULK AT MOST 1048576: true; the input reads as it did. -/
def indexRawUptoRow : OpenClaim := { program := "ytffbcfcoddacmaagreat", sum := "c8c029729d47f3abddf2bb35b4f9ba25702dc4d6ff611ba7812e1968035c84d4", func := "sordine/sordinelaw10.IndexRaw", spec := "indexRaw", inPlace := ["internal/bytealg.IndexByteString"], unfollowed := true, recurses := true, plainKeys := false, apart := false, narrowed := true }
def IndexRawUptoSaid : Prop := indexRawUptoRow.holds Tryz.pinned (OpenSpec.upto indexRawSpec)

/-- 'sordinelaw18.MuteRuns', WHERE WHAT IT READS IS OF BULK AT MOST 1048576: true; the input reads as it did. -/
def muteRunsUptoRow : OpenClaim := { program := "ytffbcfcoddacmaagreat", sum := "c8c029729d47f3abddf2bb35b4f9ba25702dc4d6ff611ba7812e1968035c84d4", func := "sordine/sordinelaw18.MuteRuns", spec := "muteRuns", inPlace := ["internal/bytealg.IndexByteString", "math.Float64bits", "internal/bytealg.abigen_runtime_cmpstring"], unfollowed := true, recurses := true, plainKeys := false, apart := false, narrowed := true }
def MuteRunsUptoSaid : Prop := muteRunsUptoRow.holds Tryz.pinned (OpenSpec.upto muteRunsSpec)

/-- 'sordinelaw18.MutePlain', WHERE WHAT IT READS IS OF BULK AT MOST 1048576: true; the input reads as it did. -/
def mutePlainUptoRow : OpenClaim := { program := "ytffbcfcoddacmaagreat", sum := "c8c029729d47f3abddf2bb35b4f9ba25702dc4d6ff611ba7812e1968035c84d4", func := "sordine/sordinelaw18.MutePlain", spec := "mutePlain", inPlace := ["internal/bytealg.IndexByteString", "math.Float64bits", "internal/bytealg.abigen_runtime_cmpstring"], unfollowed := true, recurses := true, plainKeys := false, apart := false, narrowed := true }
def MutePlainUptoSaid : Prop := mutePlainUptoRow.holds Tryz.pinned (OpenSpec.upto mutePlainSpec)

/-- 'sordinelaw18.MuteRaw', WHERE WHAT IT READS IS OF BULK AT MOST 1048576: true; the input reads as it did. -/
def muteRawUptoRow : OpenClaim := { program := "ytffbcfcoddacmaagreat", sum := "c8c029729d47f3abddf2bb35b4f9ba25702dc4d6ff611ba7812e1968035c84d4", func := "sordine/sordinelaw18.MuteRaw", spec := "muteRaw", inPlace := ["internal/bytealg.IndexByteString", "math.Float64bits", "internal/bytealg.abigen_runtime_cmpstring"], unfollowed := true, recurses := true, plainKeys := false, apart := false, narrowed := true }
def MuteRawUptoSaid : Prop := muteRawUptoRow.holds Tryz.pinned (OpenSpec.upto muteRawSpec)

/-- 'sordinelaw18.MuteSelf', WHERE WHAT IT READS IS OF BULK AT MOST 1048576: true; the input reads as it did. -/
def muteSelfUptoRow : OpenClaim := { program := "ytffbcfcoddacmaagreat", sum := "c8c029729d47f3abddf2bb35b4f9ba25702dc4d6ff611ba7812e1968035c84d4", func := "sordine/sordinelaw18.MuteSelf", spec := "muteSelf", inPlace := ["internal/bytealg.IndexByteString", "math.Float64bits", "internal/bytealg.abigen_runtime_cmpstring"], unfollowed := true, recurses := true, plainKeys := false, apart := false, narrowed := true }
def MuteSelfUptoSaid : Prop := muteSelfUptoRow.holds Tryz.pinned (OpenSpec.upto muteSelfSpec)

/-- 'sordinelaw18.MuteMore', WHERE WHAT IT READS IS OF BULK AT MOST 1048576: true; the input reads as it did. -/
def muteMoreUptoRow : OpenClaim := { program := "ytffbcfcoddacmaagreat", sum := "c8c029729d47f3abddf2bb35b4f9ba25702dc4d6ff611ba7812e1968035c84d4", func := "sordine/sordinelaw18.MuteMore", spec := "muteMore", inPlace := ["internal/bytealg.IndexByteString", "math.Float64bits", "internal/bytealg.abigen_runtime_cmpstring"], unfollowed := true, recurses := true, plainKeys := false, apart := false, narrowed := true }
def MuteMoreUptoSaid : Prop := muteMoreUptoRow.holds Tryz.pinned (OpenSpec.upto muteMoreSpec)

/-- 'sordinelaw10.IndexValues', WHERE WHAT IT READS IS OF BULK AT MOST 1048576: true; the input reads as it did. -/
def indexValuesUptoRow : OpenClaim := { program := "ytffbcfcoddacmaagreat", sum := "c8c029729d47f3abddf2bb35b4f9ba25702dc4d6ff611ba7812e1968035c84d4", func := "sordine/sordinelaw10.IndexValues", spec := "indexValues", inPlace := ["internal/bytealg.IndexByteString"], unfollowed := true, recurses := true, plainKeys := false, apart := false, narrowed := true }
def IndexValuesUptoSaid : Prop := indexValuesUptoRow.holds Tryz.pinned (OpenSpec.upto indexValuesSpec)

end Rows
end Go.Proofs.YtffbcfcoddacmaaGreat
