/-
  No cell of these rows narrows 'for every input' (looked for: loops, veiled, ifaces, maps, wideKeys, modest, calm, conditions, laid).
  DERIVED. THE GIVEN ROWS OF THIS SEAT. 15 by the template 'for every input the law returns true; each argument reads behind the call as it read before'; 0 by the template 'total and deterministic' (their statements: YthbjfhhiajihfaaGreatTotals.lean).
  GIVEN WITH THE SEED: the statements are not yours to turn. If you find one false, say at which input.
  Laid BY PROGRAM, IN A SANDBOX (cutbox-rows.mjs): the forced cells as the released guide's own fill.sh prints them over the translation 79633f7ca3eb60dc… (all of the seat's roots in one cut). By AI agents, Wed Nov 11 2026. No macro, syntax, notation, axiom, sorry.
-/
import Derived.Test.YthbjfhhiajihfaaGreatChecked
import GoSem.Claim
import GoSem.ClaimJoined
import GoSem.ClaimMapViews
import Derived.JoinedTies
import Derived.KernelRfl
namespace Go.Proofs.YthbjfhhiajihfaaGreat
/- THE CELL 'sum', in the pinned program and in every row, IS THE sha256 OF THE DUMP (.gsa) THAT YthbjfhhiajihfaaGreatProg.lean LOADS. Nothing in Lean hashes anything: it is a label: what it is worth is what the hold of that sum in a sandbox is worth. -/
noncomputable def Tryz.pinned : Pinned := { name := "ythbjfhhiajihfaagreat", sum := "79633f7ca3eb60dc5ec07a794401feaf1709c33926e6f7fc51963a99e064c58f", checked := Tryz.checked }
namespace Rows
def none {H : Type} : Left H := { results := [], args := [] }

/-- 'sordinelaw17.CacheRuns': WHATEVER THE INPUT: true; the input reads as it did. -/
def cacheRunsSpec : ChangeSpec := { name := "cacheRuns", fn := fun _ => fun
  | [] => { results := [.lit (.bool true)], args := [] }
  | _ => none }
def cacheRunsRow : OpenClaim := { program := "ythbjfhhiajihfaagreat", sum := "79633f7ca3eb60dc5ec07a794401feaf1709c33926e6f7fc51963a99e064c58f", func := "sordine/sordinelaw17.CacheRuns", spec := "cacheRuns", inPlace := ["internal/bytealg.IndexByteString", "internal/bytealg.abigen_runtime_cmpstring", "math.Float64bits"], unfollowed := true, recurses := true, plainKeys := false, apart := false }
def CacheRunsSaid : Prop := cacheRunsRow.holds Tryz.pinned (OpenSpec.ofChange cacheRunsSpec)

/-- ITS FALSE NEIGHBOUR: 'it returns false'. Refute it at one input. -/
def cacheRunsWrong : ChangeSpec := { name := "cacheRuns", fn := fun _ => fun
  | [] => { results := [.lit (.bool false)], args := [] }
  | _ => none }
def CacheRunsWrongFalsely : Prop := cacheRunsRow.holds Tryz.pinned (OpenSpec.ofChange cacheRunsWrong)

/-- 'sordinelaw17.CacheEmpty': WHATEVER THE INPUT: true; the input reads as it did. -/
def cacheEmptySpec : ChangeSpec := { name := "cacheEmpty", fn := fun _ => fun
  | [d1, d2, d3] => { results := [.lit (.bool true)], args := [d1, d2, d3] }
  | _ => none }
def cacheEmptyRow : OpenClaim := { program := "ythbjfhhiajihfaagreat", sum := "79633f7ca3eb60dc5ec07a794401feaf1709c33926e6f7fc51963a99e064c58f", func := "sordine/sordinelaw17.CacheEmpty", spec := "cacheEmpty", inPlace := ["internal/bytealg.IndexByteString", "internal/bytealg.abigen_runtime_cmpstring", "math.Float64bits"], unfollowed := true, recurses := true, plainKeys := false, apart := false }
def CacheEmptySaid : Prop := cacheEmptyRow.holds Tryz.pinned (OpenSpec.ofChange cacheEmptySpec)

/-- ITS FALSE NEIGHBOUR: 'it returns false'. Refute it at one input. -/
def cacheEmptyWrong : ChangeSpec := { name := "cacheEmpty", fn := fun _ => fun
  | [d1, d2, d3] => { results := [.lit (.bool false)], args := [d1, d2, d3] }
  | _ => none }
def CacheEmptyWrongFalsely : Prop := cacheEmptyRow.holds Tryz.pinned (OpenSpec.ofChange cacheEmptyWrong)

/-- 'sordinelaw17.CacheOthers': WHATEVER THE INPUT: true; the input reads as it did. -/
def cacheOthersSpec : ChangeSpec := { name := "cacheOthers", fn := fun _ => fun
  | [d1, d2, d3, d4, d5, d6] => { results := [.lit (.bool true)], args := [d1, d2, d3, d4, d5, d6] }
  | _ => none }
def cacheOthersRow : OpenClaim := { program := "ythbjfhhiajihfaagreat", sum := "79633f7ca3eb60dc5ec07a794401feaf1709c33926e6f7fc51963a99e064c58f", func := "sordine/sordinelaw17.CacheOthers", spec := "cacheOthers", inPlace := ["internal/bytealg.IndexByteString", "internal/bytealg.abigen_runtime_cmpstring", "math.Float64bits"], unfollowed := true, recurses := true, plainKeys := false, apart := false }
def CacheOthersSaid : Prop := cacheOthersRow.holds Tryz.pinned (OpenSpec.ofChange cacheOthersSpec)

/-- ITS FALSE NEIGHBOUR: 'it returns false'. Refute it at one input. -/
def cacheOthersWrong : ChangeSpec := { name := "cacheOthers", fn := fun _ => fun
  | [d1, d2, d3, d4, d5, d6] => { results := [.lit (.bool false)], args := [d1, d2, d3, d4, d5, d6] }
  | _ => none }
def CacheOthersWrongFalsely : Prop := cacheOthersRow.holds Tryz.pinned (OpenSpec.ofChange cacheOthersWrong)

/-- 'sordinelaw17.CachePlays': WHATEVER THE INPUT: true; the input reads as it did. -/
def cachePlaysSpec : ChangeSpec := { name := "cachePlays", fn := fun _ => fun
  | [d1, d2, d3] => { results := [.lit (.bool true)], args := [d1, d2, d3] }
  | _ => none }
def cachePlaysRow : OpenClaim := { program := "ythbjfhhiajihfaagreat", sum := "79633f7ca3eb60dc5ec07a794401feaf1709c33926e6f7fc51963a99e064c58f", func := "sordine/sordinelaw17.CachePlays", spec := "cachePlays", inPlace := ["internal/bytealg.IndexByteString", "internal/bytealg.abigen_runtime_cmpstring", "math.Float64bits"], unfollowed := true, recurses := true, plainKeys := false, apart := false }
def CachePlaysSaid : Prop := cachePlaysRow.holds Tryz.pinned (OpenSpec.ofChange cachePlaysSpec)

/-- ITS FALSE NEIGHBOUR: 'it returns false'. Refute it at one input. -/
def cachePlaysWrong : ChangeSpec := { name := "cachePlays", fn := fun _ => fun
  | [d1, d2, d3] => { results := [.lit (.bool false)], args := [d1, d2, d3] }
  | _ => none }
def CachePlaysWrongFalsely : Prop := cachePlaysRow.holds Tryz.pinned (OpenSpec.ofChange cachePlaysWrong)

/-- 'sordinelaw17.CacheValues': WHATEVER THE INPUT: true; the input reads as it did. -/
def cacheValuesSpec : ChangeSpec := { name := "cacheValues", fn := fun _ => fun
  | [d1, d2, d3] => { results := [.lit (.bool true)], args := [d1, d2, d3] }
  | _ => none }
def cacheValuesRow : OpenClaim := { program := "ythbjfhhiajihfaagreat", sum := "79633f7ca3eb60dc5ec07a794401feaf1709c33926e6f7fc51963a99e064c58f", func := "sordine/sordinelaw17.CacheValues", spec := "cacheValues", inPlace := ["internal/bytealg.IndexByteString", "internal/bytealg.abigen_runtime_cmpstring", "math.Float64bits", "math.Float64frombits"], unfollowed := true, recurses := true, plainKeys := false, apart := false }
def CacheValuesSaid : Prop := cacheValuesRow.holds Tryz.pinned (OpenSpec.ofChange cacheValuesSpec)

/-- ITS FALSE NEIGHBOUR: 'it returns false'. Refute it at one input. -/
def cacheValuesWrong : ChangeSpec := { name := "cacheValues", fn := fun _ => fun
  | [d1, d2, d3] => { results := [.lit (.bool false)], args := [d1, d2, d3] }
  | _ => none }
def CacheValuesWrongFalsely : Prop := cacheValuesRow.holds Tryz.pinned (OpenSpec.ofChange cacheValuesWrong)

/-- 'sordinelaw14.SilenceRuns': WHATEVER THE INPUT: true; the input reads as it did. -/
def silenceRunsSpec : ChangeSpec := { name := "silenceRuns", fn := fun _ => fun
  | [] => { results := [.lit (.bool true)], args := [] }
  | _ => none }
def silenceRunsRow : OpenClaim := { program := "ythbjfhhiajihfaagreat", sum := "79633f7ca3eb60dc5ec07a794401feaf1709c33926e6f7fc51963a99e064c58f", func := "sordine/sordinelaw14.SilenceRuns", spec := "silenceRuns", inPlace := ["internal/bytealg.IndexByteString", "internal/bytealg.abigen_runtime_cmpstring", "math.Float64bits", "slices.overlaps[sordine/reap.entry]", "math.Float64frombits"], unfollowed := true, recurses := true, plainKeys := false, apart := false }
def SilenceRunsSaid : Prop := silenceRunsRow.holds Tryz.pinned (OpenSpec.ofChange silenceRunsSpec)

/-- ITS FALSE NEIGHBOUR: 'it returns false'. Refute it at one input. -/
def silenceRunsWrong : ChangeSpec := { name := "silenceRuns", fn := fun _ => fun
  | [] => { results := [.lit (.bool false)], args := [] }
  | _ => none }
def SilenceRunsWrongFalsely : Prop := silenceRunsRow.holds Tryz.pinned (OpenSpec.ofChange silenceRunsWrong)

/-- 'sordinelaw14.SilenceBands': WHATEVER THE INPUT: true; the input reads as it did. -/
def silenceBandsSpec : ChangeSpec := { name := "silenceBands", fn := fun _ => fun
  | [d1, d2, d3, d4] => { results := [.lit (.bool true)], args := [d1, d2, d3, d4] }
  | _ => none }
def silenceBandsRow : OpenClaim := { program := "ythbjfhhiajihfaagreat", sum := "79633f7ca3eb60dc5ec07a794401feaf1709c33926e6f7fc51963a99e064c58f", func := "sordine/sordinelaw14.SilenceBands", spec := "silenceBands", inPlace := ["internal/bytealg.IndexByteString", "internal/bytealg.abigen_runtime_cmpstring", "math.Float64bits", "slices.overlaps[sordine/reap.entry]", "math.Float64frombits"], unfollowed := true, recurses := true, plainKeys := false, apart := false }
def SilenceBandsSaid : Prop := silenceBandsRow.holds Tryz.pinned (OpenSpec.ofChange silenceBandsSpec)

/-- ITS FALSE NEIGHBOUR: 'it returns false'. Refute it at one input. -/
def silenceBandsWrong : ChangeSpec := { name := "silenceBands", fn := fun _ => fun
  | [d1, d2, d3, d4] => { results := [.lit (.bool false)], args := [d1, d2, d3, d4] }
  | _ => none }
def SilenceBandsWrongFalsely : Prop := silenceBandsRow.holds Tryz.pinned (OpenSpec.ofChange silenceBandsWrong)

/-- 'sordinelaw14.SilenceTimes': WHATEVER THE INPUT: true; the input reads as it did. -/
def silenceTimesSpec : ChangeSpec := { name := "silenceTimes", fn := fun _ => fun
  | [d1, d2, d3, d4] => { results := [.lit (.bool true)], args := [d1, d2, d3, d4] }
  | _ => none }
def silenceTimesRow : OpenClaim := { program := "ythbjfhhiajihfaagreat", sum := "79633f7ca3eb60dc5ec07a794401feaf1709c33926e6f7fc51963a99e064c58f", func := "sordine/sordinelaw14.SilenceTimes", spec := "silenceTimes", inPlace := ["internal/bytealg.IndexByteString", "internal/bytealg.abigen_runtime_cmpstring", "math.Float64bits", "slices.overlaps[sordine/reap.entry]", "math.Float64frombits"], unfollowed := true, recurses := true, plainKeys := false, apart := false }
def SilenceTimesSaid : Prop := silenceTimesRow.holds Tryz.pinned (OpenSpec.ofChange silenceTimesSpec)

/-- ITS FALSE NEIGHBOUR: 'it returns false'. Refute it at one input. -/
def silenceTimesWrong : ChangeSpec := { name := "silenceTimes", fn := fun _ => fun
  | [d1, d2, d3, d4] => { results := [.lit (.bool false)], args := [d1, d2, d3, d4] }
  | _ => none }
def SilenceTimesWrongFalsely : Prop := silenceTimesRow.holds Tryz.pinned (OpenSpec.ofChange silenceTimesWrong)

/-- 'sordinelaw14.SilenceSweeps': WHATEVER THE INPUT: true; the input reads as it did. -/
def silenceSweepsSpec : ChangeSpec := { name := "silenceSweeps", fn := fun _ => fun
  | [d1, d2, d3] => { results := [.lit (.bool true)], args := [d1, d2, d3] }
  | _ => none }
def silenceSweepsRow : OpenClaim := { program := "ythbjfhhiajihfaagreat", sum := "79633f7ca3eb60dc5ec07a794401feaf1709c33926e6f7fc51963a99e064c58f", func := "sordine/sordinelaw14.SilenceSweeps", spec := "silenceSweeps", inPlace := ["internal/bytealg.IndexByteString", "internal/bytealg.abigen_runtime_cmpstring", "math.Float64bits", "slices.overlaps[sordine/reap.entry]", "math.Float64frombits"], unfollowed := true, recurses := true, plainKeys := false, apart := false }
def SilenceSweepsSaid : Prop := silenceSweepsRow.holds Tryz.pinned (OpenSpec.ofChange silenceSweepsSpec)

/-- ITS FALSE NEIGHBOUR: 'it returns false'. Refute it at one input. -/
def silenceSweepsWrong : ChangeSpec := { name := "silenceSweeps", fn := fun _ => fun
  | [d1, d2, d3] => { results := [.lit (.bool false)], args := [d1, d2, d3] }
  | _ => none }
def SilenceSweepsWrongFalsely : Prop := silenceSweepsRow.holds Tryz.pinned (OpenSpec.ofChange silenceSweepsWrong)

/-- 'sordinelaw14.SilenceEnds': WHATEVER THE INPUT: true; the input reads as it did. -/
def silenceEndsSpec : ChangeSpec := { name := "silenceEnds", fn := fun _ => fun
  | [d1, d2, d3, d4] => { results := [.lit (.bool true)], args := [d1, d2, d3, d4] }
  | _ => none }
def silenceEndsRow : OpenClaim := { program := "ythbjfhhiajihfaagreat", sum := "79633f7ca3eb60dc5ec07a794401feaf1709c33926e6f7fc51963a99e064c58f", func := "sordine/sordinelaw14.SilenceEnds", spec := "silenceEnds", inPlace := ["internal/bytealg.IndexByteString", "internal/bytealg.abigen_runtime_cmpstring", "math.Float64bits", "slices.overlaps[sordine/reap.entry]", "math.Float64frombits"], unfollowed := true, recurses := true, plainKeys := false, apart := false }
def SilenceEndsSaid : Prop := silenceEndsRow.holds Tryz.pinned (OpenSpec.ofChange silenceEndsSpec)

/-- ITS FALSE NEIGHBOUR: 'it returns false'. Refute it at one input. -/
def silenceEndsWrong : ChangeSpec := { name := "silenceEnds", fn := fun _ => fun
  | [d1, d2, d3, d4] => { results := [.lit (.bool false)], args := [d1, d2, d3, d4] }
  | _ => none }
def SilenceEndsWrongFalsely : Prop := silenceEndsRow.holds Tryz.pinned (OpenSpec.ofChange silenceEndsWrong)

/-- 'sordinelaw14.SilenceUpdates': WHATEVER THE INPUT: true; the input reads as it did. -/
def silenceUpdatesSpec : ChangeSpec := { name := "silenceUpdates", fn := fun _ => fun
  | [d1, d2, d3, d4, d5] => { results := [.lit (.bool true)], args := [d1, d2, d3, d4, d5] }
  | _ => none }
def silenceUpdatesRow : OpenClaim := { program := "ythbjfhhiajihfaagreat", sum := "79633f7ca3eb60dc5ec07a794401feaf1709c33926e6f7fc51963a99e064c58f", func := "sordine/sordinelaw14.SilenceUpdates", spec := "silenceUpdates", inPlace := ["internal/bytealg.IndexByteString", "internal/bytealg.abigen_runtime_cmpstring", "math.Float64bits", "slices.overlaps[sordine/reap.entry]", "math.Float64frombits"], unfollowed := true, recurses := true, plainKeys := false, apart := false }
def SilenceUpdatesSaid : Prop := silenceUpdatesRow.holds Tryz.pinned (OpenSpec.ofChange silenceUpdatesSpec)

/-- ITS FALSE NEIGHBOUR: 'it returns false'. Refute it at one input. -/
def silenceUpdatesWrong : ChangeSpec := { name := "silenceUpdates", fn := fun _ => fun
  | [d1, d2, d3, d4, d5] => { results := [.lit (.bool false)], args := [d1, d2, d3, d4, d5] }
  | _ => none }
def SilenceUpdatesWrongFalsely : Prop := silenceUpdatesRow.holds Tryz.pinned (OpenSpec.ofChange silenceUpdatesWrong)

/-- 'sordinelaw14.SilencePlays': WHATEVER THE INPUT: true; the input reads as it did. -/
def silencePlaysSpec : ChangeSpec := { name := "silencePlays", fn := fun _ => fun
  | [d1, d2, d3, d4, d5, d6, d7, d8] => { results := [.lit (.bool true)], args := [d1, d2, d3, d4, d5, d6, d7, d8] }
  | _ => none }
def silencePlaysRow : OpenClaim := { program := "ythbjfhhiajihfaagreat", sum := "79633f7ca3eb60dc5ec07a794401feaf1709c33926e6f7fc51963a99e064c58f", func := "sordine/sordinelaw14.SilencePlays", spec := "silencePlays", inPlace := ["internal/bytealg.IndexByteString", "internal/bytealg.abigen_runtime_cmpstring", "math.Float64bits", "slices.overlaps[sordine/reap.entry]", "math.Float64frombits"], unfollowed := true, recurses := true, plainKeys := false, apart := false }
def SilencePlaysSaid : Prop := silencePlaysRow.holds Tryz.pinned (OpenSpec.ofChange silencePlaysSpec)

/-- ITS FALSE NEIGHBOUR: 'it returns false'. Refute it at one input. -/
def silencePlaysWrong : ChangeSpec := { name := "silencePlays", fn := fun _ => fun
  | [d1, d2, d3, d4, d5, d6, d7, d8] => { results := [.lit (.bool false)], args := [d1, d2, d3, d4, d5, d6, d7, d8] }
  | _ => none }
def SilencePlaysWrongFalsely : Prop := silencePlaysRow.holds Tryz.pinned (OpenSpec.ofChange silencePlaysWrong)

/-- 'sordinelaw14.SilenceRaw': WHATEVER THE INPUT: true; the input reads as it did. -/
def silenceRawSpec : ChangeSpec := { name := "silenceRaw", fn := fun _ => fun
  | [d1, d2, d3, d4, d5, d6] => { results := [.lit (.bool true)], args := [d1, d2, d3, d4, d5, d6] }
  | _ => none }
def silenceRawRow : OpenClaim := { program := "ythbjfhhiajihfaagreat", sum := "79633f7ca3eb60dc5ec07a794401feaf1709c33926e6f7fc51963a99e064c58f", func := "sordine/sordinelaw14.SilenceRaw", spec := "silenceRaw", inPlace := ["internal/bytealg.IndexByteString", "internal/bytealg.abigen_runtime_cmpstring", "math.Float64bits", "slices.overlaps[sordine/reap.entry]", "math.Float64frombits"], unfollowed := true, recurses := true, plainKeys := false, apart := false }
def SilenceRawSaid : Prop := silenceRawRow.holds Tryz.pinned (OpenSpec.ofChange silenceRawSpec)

/-- ITS FALSE NEIGHBOUR: 'it returns false'. Refute it at one input. -/
def silenceRawWrong : ChangeSpec := { name := "silenceRaw", fn := fun _ => fun
  | [d1, d2, d3, d4, d5, d6] => { results := [.lit (.bool false)], args := [d1, d2, d3, d4, d5, d6] }
  | _ => none }
def SilenceRawWrongFalsely : Prop := silenceRawRow.holds Tryz.pinned (OpenSpec.ofChange silenceRawWrong)

/-- 'sordinelaw18.MuteDecides': WHATEVER THE INPUT: true; the input reads as it did. -/
def muteDecidesSpec : ChangeSpec := { name := "muteDecides", fn := fun _ => fun
  | [d1, d2, d3, d4, d5] => { results := [.lit (.bool true)], args := [d1, d2, d3, d4, d5] }
  | _ => none }
def muteDecidesRow : OpenClaim := { program := "ythbjfhhiajihfaagreat", sum := "79633f7ca3eb60dc5ec07a794401feaf1709c33926e6f7fc51963a99e064c58f", func := "sordine/sordinelaw18.MuteDecides", spec := "muteDecides", inPlace := ["internal/bytealg.IndexByteString", "internal/bytealg.abigen_runtime_cmpstring", "math.Float64bits", "slices.overlaps[sordine/reap.entry]"], unfollowed := true, recurses := true, plainKeys := false, apart := false }
def MuteDecidesSaid : Prop := muteDecidesRow.holds Tryz.pinned (OpenSpec.ofChange muteDecidesSpec)

/-- ITS FALSE NEIGHBOUR: 'it returns false'. Refute it at one input. -/
def muteDecidesWrong : ChangeSpec := { name := "muteDecides", fn := fun _ => fun
  | [d1, d2, d3, d4, d5] => { results := [.lit (.bool false)], args := [d1, d2, d3, d4, d5] }
  | _ => none }
def MuteDecidesWrongFalsely : Prop := muteDecidesRow.holds Tryz.pinned (OpenSpec.ofChange muteDecidesWrong)

/-- 'sordinelaw15.AlertFinds': WHATEVER THE INPUT: true; the input reads as it did. -/
def alertFindsSpec : ChangeSpec := { name := "alertFinds", fn := fun _ => fun
  | [d1, d2, d3] => { results := [.lit (.bool true)], args := [d1, d2, d3] }
  | _ => none }
def alertFindsRow : OpenClaim := { program := "ythbjfhhiajihfaagreat", sum := "79633f7ca3eb60dc5ec07a794401feaf1709c33926e6f7fc51963a99e064c58f", func := "sordine/sordinelaw15.AlertFinds", spec := "alertFinds", inPlace := ["math.Float64bits", "math.Float64frombits", "internal/bytealg.IndexByteString", "internal/bytealg.abigen_runtime_cmpstring"], unfollowed := true, recurses := true, plainKeys := false, apart := false }
def AlertFindsSaid : Prop := alertFindsRow.holds Tryz.pinned (OpenSpec.ofChange alertFindsSpec)

/-- ITS FALSE NEIGHBOUR: 'it returns false'. Refute it at one input. -/
def alertFindsWrong : ChangeSpec := { name := "alertFinds", fn := fun _ => fun
  | [d1, d2, d3] => { results := [.lit (.bool false)], args := [d1, d2, d3] }
  | _ => none }
def AlertFindsWrongFalsely : Prop := alertFindsRow.holds Tryz.pinned (OpenSpec.ofChange alertFindsWrong)

/- THE SECOND FORM. 'bulk': how many values and letters a reading holds, each counted each time it is reached (what is shared counts as often as it is met; a slice's spare places count too). A statement '..UptoSaid' is the law's where the arguments, and the package variables that the reading takes, are together of bulk at most 1048576: NARROWER than '..Said'. Prove '..Said' where nothing that the law and all that it calls make is longer than what came in: it says more and counts as full. Else prove '..UptoSaid'. A law counts once. -/
mutual
def uptoBulk {H : Type} : DataW H → Nat
  | .lit (.string bytes) => bytes.length + 1
  | .lit _ => 1
  | .nil => 1
  | .ptr d => uptoBulk d + 1
  | .slice elems spare => uptoBulkAll elems + uptoBulkAll spare + 1
  | .agg parts => uptoBulkAll parts + 1
  | .iface _ d => uptoBulk d + 1
  | .map entries => uptoBulkEntries entries + 1
  | .held _ => 1
def uptoBulkAll {H : Type} : List (DataW H) → Nat
  | [] => 0
  | d :: r => uptoBulk d + uptoBulkAll r
def uptoBulkEntries {H : Type} : List (Lit × DataW H) → Nat
  | [] => 0
  | x :: r => uptoBulkEntry x + uptoBulkEntries r
def uptoBulkEntry {H : Type} : Lit × DataW H → Nat
  | (.string bytes, d) => bytes.length + uptoBulk d + 1
  | (_, d) => uptoBulk d + 1
 end
def uptoSmall : (H : Type) → List (DataW H) → Bool := fun _ ds => decide (uptoBulkAll ds ≤ 1048576)
def OpenSpec.upto (s : _root_.Go.ChangeSpec) : _root_.Go.OpenSpec := { _root_.Go.OpenSpec.ofChange s with cond := some uptoSmall }

/-- 'sordinelaw17.CacheRuns', WHERE WHAT IT READS IS OF BULK AT MOST 1048576: true; the input reads as it did. -/
def cacheRunsUptoRow : OpenClaim := { program := "ythbjfhhiajihfaagreat", sum := "79633f7ca3eb60dc5ec07a794401feaf1709c33926e6f7fc51963a99e064c58f", func := "sordine/sordinelaw17.CacheRuns", spec := "cacheRuns", inPlace := ["internal/bytealg.IndexByteString", "internal/bytealg.abigen_runtime_cmpstring", "math.Float64bits"], unfollowed := true, recurses := true, plainKeys := false, apart := false, narrowed := true }
def CacheRunsUptoSaid : Prop := cacheRunsUptoRow.holds Tryz.pinned (OpenSpec.upto cacheRunsSpec)

/-- 'sordinelaw17.CacheEmpty', WHERE WHAT IT READS IS OF BULK AT MOST 1048576: true; the input reads as it did. -/
def cacheEmptyUptoRow : OpenClaim := { program := "ythbjfhhiajihfaagreat", sum := "79633f7ca3eb60dc5ec07a794401feaf1709c33926e6f7fc51963a99e064c58f", func := "sordine/sordinelaw17.CacheEmpty", spec := "cacheEmpty", inPlace := ["internal/bytealg.IndexByteString", "internal/bytealg.abigen_runtime_cmpstring", "math.Float64bits"], unfollowed := true, recurses := true, plainKeys := false, apart := false, narrowed := true }
def CacheEmptyUptoSaid : Prop := cacheEmptyUptoRow.holds Tryz.pinned (OpenSpec.upto cacheEmptySpec)

/-- 'sordinelaw17.CacheOthers', WHERE WHAT IT READS IS OF BULK AT MOST 1048576: true; the input reads as it did. -/
def cacheOthersUptoRow : OpenClaim := { program := "ythbjfhhiajihfaagreat", sum := "79633f7ca3eb60dc5ec07a794401feaf1709c33926e6f7fc51963a99e064c58f", func := "sordine/sordinelaw17.CacheOthers", spec := "cacheOthers", inPlace := ["internal/bytealg.IndexByteString", "internal/bytealg.abigen_runtime_cmpstring", "math.Float64bits"], unfollowed := true, recurses := true, plainKeys := false, apart := false, narrowed := true }
def CacheOthersUptoSaid : Prop := cacheOthersUptoRow.holds Tryz.pinned (OpenSpec.upto cacheOthersSpec)

/-- 'sordinelaw17.CachePlays', WHERE WHAT IT READS IS OF BULK AT MOST 1048576: true; the input reads as it did. -/
def cachePlaysUptoRow : OpenClaim := { program := "ythbjfhhiajihfaagreat", sum := "79633f7ca3eb60dc5ec07a794401feaf1709c33926e6f7fc51963a99e064c58f", func := "sordine/sordinelaw17.CachePlays", spec := "cachePlays", inPlace := ["internal/bytealg.IndexByteString", "internal/bytealg.abigen_runtime_cmpstring", "math.Float64bits"], unfollowed := true, recurses := true, plainKeys := false, apart := false, narrowed := true }
def CachePlaysUptoSaid : Prop := cachePlaysUptoRow.holds Tryz.pinned (OpenSpec.upto cachePlaysSpec)

/-- 'sordinelaw17.CacheValues', WHERE WHAT IT READS IS OF BULK AT MOST 1048576: true; the input reads as it did. -/
def cacheValuesUptoRow : OpenClaim := { program := "ythbjfhhiajihfaagreat", sum := "79633f7ca3eb60dc5ec07a794401feaf1709c33926e6f7fc51963a99e064c58f", func := "sordine/sordinelaw17.CacheValues", spec := "cacheValues", inPlace := ["internal/bytealg.IndexByteString", "internal/bytealg.abigen_runtime_cmpstring", "math.Float64bits", "math.Float64frombits"], unfollowed := true, recurses := true, plainKeys := false, apart := false, narrowed := true }
def CacheValuesUptoSaid : Prop := cacheValuesUptoRow.holds Tryz.pinned (OpenSpec.upto cacheValuesSpec)

/-- 'sordinelaw14.SilenceRuns', WHERE WHAT IT READS IS OF BULK AT MOST 1048576: true; the input reads as it did. -/
def silenceRunsUptoRow : OpenClaim := { program := "ythbjfhhiajihfaagreat", sum := "79633f7ca3eb60dc5ec07a794401feaf1709c33926e6f7fc51963a99e064c58f", func := "sordine/sordinelaw14.SilenceRuns", spec := "silenceRuns", inPlace := ["internal/bytealg.IndexByteString", "internal/bytealg.abigen_runtime_cmpstring", "math.Float64bits", "slices.overlaps[sordine/reap.entry]", "math.Float64frombits"], unfollowed := true, recurses := true, plainKeys := false, apart := false, narrowed := true }
def SilenceRunsUptoSaid : Prop := silenceRunsUptoRow.holds Tryz.pinned (OpenSpec.upto silenceRunsSpec)

/-- 'sordinelaw14.SilenceBands', WHERE WHAT IT READS IS OF BULK AT MOST 1048576: true; the input reads as it did. -/
def silenceBandsUptoRow : OpenClaim := { program := "ythbjfhhiajihfaagreat", sum := "79633f7ca3eb60dc5ec07a794401feaf1709c33926e6f7fc51963a99e064c58f", func := "sordine/sordinelaw14.SilenceBands", spec := "silenceBands", inPlace := ["internal/bytealg.IndexByteString", "internal/bytealg.abigen_runtime_cmpstring", "math.Float64bits", "slices.overlaps[sordine/reap.entry]", "math.Float64frombits"], unfollowed := true, recurses := true, plainKeys := false, apart := false, narrowed := true }
def SilenceBandsUptoSaid : Prop := silenceBandsUptoRow.holds Tryz.pinned (OpenSpec.upto silenceBandsSpec)

/-- 'sordinelaw14.SilenceTimes', WHERE WHAT IT READS IS OF BULK AT MOST 1048576: true; the input reads as it did. -/
def silenceTimesUptoRow : OpenClaim := { program := "ythbjfhhiajihfaagreat", sum := "79633f7ca3eb60dc5ec07a794401feaf1709c33926e6f7fc51963a99e064c58f", func := "sordine/sordinelaw14.SilenceTimes", spec := "silenceTimes", inPlace := ["internal/bytealg.IndexByteString", "internal/bytealg.abigen_runtime_cmpstring", "math.Float64bits", "slices.overlaps[sordine/reap.entry]", "math.Float64frombits"], unfollowed := true, recurses := true, plainKeys := false, apart := false, narrowed := true }
def SilenceTimesUptoSaid : Prop := silenceTimesUptoRow.holds Tryz.pinned (OpenSpec.upto silenceTimesSpec)

/-- 'sordinelaw14.SilenceSweeps', WHERE WHAT IT READS IS OF BULK AT MOST 1048576: true; the input reads as it did. -/
def silenceSweepsUptoRow : OpenClaim := { program := "ythbjfhhiajihfaagreat", sum := "79633f7ca3eb60dc5ec07a794401feaf1709c33926e6f7fc51963a99e064c58f", func := "sordine/sordinelaw14.SilenceSweeps", spec := "silenceSweeps", inPlace := ["internal/bytealg.IndexByteString", "internal/bytealg.abigen_runtime_cmpstring", "math.Float64bits", "slices.overlaps[sordine/reap.entry]", "math.Float64frombits"], unfollowed := true, recurses := true, plainKeys := false, apart := false, narrowed := true }
def SilenceSweepsUptoSaid : Prop := silenceSweepsUptoRow.holds Tryz.pinned (OpenSpec.upto silenceSweepsSpec)

/-- 'sordinelaw14.SilenceEnds', WHERE WHAT IT READS IS OF BULK AT MOST 1048576: true; the input reads as it did. -/
def silenceEndsUptoRow : OpenClaim := { program := "ythbjfhhiajihfaagreat", sum := "79633f7ca3eb60dc5ec07a794401feaf1709c33926e6f7fc51963a99e064c58f", func := "sordine/sordinelaw14.SilenceEnds", spec := "silenceEnds", inPlace := ["internal/bytealg.IndexByteString", "internal/bytealg.abigen_runtime_cmpstring", "math.Float64bits", "slices.overlaps[sordine/reap.entry]", "math.Float64frombits"], unfollowed := true, recurses := true, plainKeys := false, apart := false, narrowed := true }
def SilenceEndsUptoSaid : Prop := silenceEndsUptoRow.holds Tryz.pinned (OpenSpec.upto silenceEndsSpec)

/-- 'sordinelaw14.SilenceUpdates', WHERE WHAT IT READS IS OF BULK AT MOST 1048576: true; the input reads as it did. -/
def silenceUpdatesUptoRow : OpenClaim := { program := "ythbjfhhiajihfaagreat", sum := "79633f7ca3eb60dc5ec07a794401feaf1709c33926e6f7fc51963a99e064c58f", func := "sordine/sordinelaw14.SilenceUpdates", spec := "silenceUpdates", inPlace := ["internal/bytealg.IndexByteString", "internal/bytealg.abigen_runtime_cmpstring", "math.Float64bits", "slices.overlaps[sordine/reap.entry]", "math.Float64frombits"], unfollowed := true, recurses := true, plainKeys := false, apart := false, narrowed := true }
def SilenceUpdatesUptoSaid : Prop := silenceUpdatesUptoRow.holds Tryz.pinned (OpenSpec.upto silenceUpdatesSpec)

/-- 'sordinelaw14.SilencePlays', WHERE WHAT IT READS IS OF BULK AT MOST 1048576: true; the input reads as it did. -/
def silencePlaysUptoRow : OpenClaim := { program := "ythbjfhhiajihfaagreat", sum := "79633f7ca3eb60dc5ec07a794401feaf1709c33926e6f7fc51963a99e064c58f", func := "sordine/sordinelaw14.SilencePlays", spec := "silencePlays", inPlace := ["internal/bytealg.IndexByteString", "internal/bytealg.abigen_runtime_cmpstring", "math.Float64bits", "slices.overlaps[sordine/reap.entry]", "math.Float64frombits"], unfollowed := true, recurses := true, plainKeys := false, apart := false, narrowed := true }
def SilencePlaysUptoSaid : Prop := silencePlaysUptoRow.holds Tryz.pinned (OpenSpec.upto silencePlaysSpec)

/-- 'sordinelaw14.SilenceRaw', WHERE WHAT IT READS IS OF BULK AT MOST 1048576: true; the input reads as it did. -/
def silenceRawUptoRow : OpenClaim := { program := "ythbjfhhiajihfaagreat", sum := "79633f7ca3eb60dc5ec07a794401feaf1709c33926e6f7fc51963a99e064c58f", func := "sordine/sordinelaw14.SilenceRaw", spec := "silenceRaw", inPlace := ["internal/bytealg.IndexByteString", "internal/bytealg.abigen_runtime_cmpstring", "math.Float64bits", "slices.overlaps[sordine/reap.entry]", "math.Float64frombits"], unfollowed := true, recurses := true, plainKeys := false, apart := false, narrowed := true }
def SilenceRawUptoSaid : Prop := silenceRawUptoRow.holds Tryz.pinned (OpenSpec.upto silenceRawSpec)

/-- 'sordinelaw18.MuteDecides', WHERE WHAT IT READS IS OF BULK AT MOST 1048576: true; the input reads as it did. -/
def muteDecidesUptoRow : OpenClaim := { program := "ythbjfhhiajihfaagreat", sum := "79633f7ca3eb60dc5ec07a794401feaf1709c33926e6f7fc51963a99e064c58f", func := "sordine/sordinelaw18.MuteDecides", spec := "muteDecides", inPlace := ["internal/bytealg.IndexByteString", "internal/bytealg.abigen_runtime_cmpstring", "math.Float64bits", "slices.overlaps[sordine/reap.entry]"], unfollowed := true, recurses := true, plainKeys := false, apart := false, narrowed := true }
def MuteDecidesUptoSaid : Prop := muteDecidesUptoRow.holds Tryz.pinned (OpenSpec.upto muteDecidesSpec)

/-- 'sordinelaw15.AlertFinds', WHERE WHAT IT READS IS OF BULK AT MOST 1048576: true; the input reads as it did. -/
def alertFindsUptoRow : OpenClaim := { program := "ythbjfhhiajihfaagreat", sum := "79633f7ca3eb60dc5ec07a794401feaf1709c33926e6f7fc51963a99e064c58f", func := "sordine/sordinelaw15.AlertFinds", spec := "alertFinds", inPlace := ["math.Float64bits", "math.Float64frombits", "internal/bytealg.IndexByteString", "internal/bytealg.abigen_runtime_cmpstring"], unfollowed := true, recurses := true, plainKeys := false, apart := false, narrowed := true }
def AlertFindsUptoSaid : Prop := alertFindsUptoRow.holds Tryz.pinned (OpenSpec.upto alertFindsSpec)

end Rows
end Go.Proofs.YthbjfhhiajihfaaGreat
