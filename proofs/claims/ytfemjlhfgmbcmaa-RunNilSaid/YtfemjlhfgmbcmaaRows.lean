/-
  No cell of these rows narrows 'for every input' (looked for: loops, veiled, ifaces, maps, wideKeys, modest, calm, conditions, laid).
  DERIVED. THE GIVEN ROWS OF THIS SEAT. 22 by the template 'for every input the law returns true; each argument reads behind the call as it read before'; 0 by the template 'total and deterministic' (their statements: YtfemjlhfgmbcmaaTotals.lean).
  GIVEN WITH THE SEED: the statements are not yours to turn. If you find one false, say at which input.
  Laid BY PROGRAM, IN A SANDBOX (cutbox-rows.mjs): the forced cells as the released guide's own fill.sh prints them over the translation a0345ab9bd48e373… (all of the seat's roots in one cut). By AI agents, Wed Nov 11 2026. No macro, syntax, notation, axiom, sorry.
-/
import Derived.Test.YtfemjlhfgmbcmaaChecked
import GoSem.Claim
import GoSem.ClaimJoined
import GoSem.ClaimMapViews
import Derived.JoinedTies
import Derived.KernelRfl
namespace Go.Proofs.Ytfemjlhfgmbcmaa
/- THE CELL 'sum', in the pinned program and in every row, IS THE sha256 OF THE DUMP (.gsa) THAT YtfemjlhfgmbcmaaProg.lean LOADS. Nothing in Lean hashes anything: it is a label: what it is worth is what the hold of that sum in a sandbox is worth. -/
noncomputable def Try.pinned : Pinned := { name := "ytfemjlhfgmbcmaa", sum := "a0345ab9bd48e37384c1daa5e44ec9274390b4f97a375fb8cf58f9cbb7a6be4f", checked := Try.checked }
namespace Rows
def none {H : Type} : Left H := { results := [], args := [] }

/-- 'wherrylaw01.WireSizes': WHATEVER THE INPUT: true; the input reads as it did. -/
def wireSizesSpec : ChangeSpec := { name := "wireSizes", fn := fun _ => fun
  | [d1, d2, d3] => { results := [.lit (.bool true)], args := [d1, d2, d3] }
  | _ => none }
def wireSizesRow : OpenClaim := { program := "ytfemjlhfgmbcmaa", sum := "a0345ab9bd48e37384c1daa5e44ec9274390b4f97a375fb8cf58f9cbb7a6be4f", func := "wherry/wherrylaw01.WireSizes", spec := "wireSizes", unfollowed := true, recurses := true, apart := false }
def WireSizesSaid : Prop := wireSizesRow.holds Try.pinned (OpenSpec.ofChange wireSizesSpec)

/-- ITS FALSE NEIGHBOUR: 'it returns false'. Refute it at one input. -/
def wireSizesWrong : ChangeSpec := { name := "wireSizes", fn := fun _ => fun
  | [d1, d2, d3] => { results := [.lit (.bool false)], args := [d1, d2, d3] }
  | _ => none }
def WireSizesWrongFalsely : Prop := wireSizesRow.holds Try.pinned (OpenSpec.ofChange wireSizesWrong)

/-- 'wherrylaw01.WireOne': WHATEVER THE INPUT: true; the input reads as it did. -/
def wireOneSpec : ChangeSpec := { name := "wireOne", fn := fun _ => fun
  | [d] => { results := [.lit (.bool true)], args := [d] }
  | _ => none }
def wireOneRow : OpenClaim := { program := "ytfemjlhfgmbcmaa", sum := "a0345ab9bd48e37384c1daa5e44ec9274390b4f97a375fb8cf58f9cbb7a6be4f", func := "wherry/wherrylaw01.WireOne", spec := "wireOne", unfollowed := true, recurses := true, apart := false }
def WireOneSaid : Prop := wireOneRow.holds Try.pinned (OpenSpec.ofChange wireOneSpec)

/-- ITS FALSE NEIGHBOUR: 'it returns false'. Refute it at one input. -/
def wireOneWrong : ChangeSpec := { name := "wireOne", fn := fun _ => fun
  | [d] => { results := [.lit (.bool false)], args := [d] }
  | _ => none }
def WireOneWrongFalsely : Prop := wireOneRow.holds Try.pinned (OpenSpec.ofChange wireOneWrong)

/-- 'wherrylaw07.RunNil': WHATEVER THE INPUT: true; the input reads as it did. -/
def runNilSpec : ChangeSpec := { name := "runNil", fn := fun _ => fun
  | [d1, d2] => { results := [.lit (.bool true)], args := [d1, d2] }
  | _ => none }
def runNilRow : OpenClaim := { program := "ytfemjlhfgmbcmaa", sum := "a0345ab9bd48e37384c1daa5e44ec9274390b4f97a375fb8cf58f9cbb7a6be4f", func := "wherry/wherrylaw07.RunNil", spec := "runNil", inPlace := ["internal/abi.NoEscape"], unfollowed := true, recurses := true, apart := false }
def RunNilSaid : Prop := runNilRow.holds Try.pinned (OpenSpec.ofChange runNilSpec)

/-- ITS FALSE NEIGHBOUR: 'it returns false'. Refute it at one input. -/
def runNilWrong : ChangeSpec := { name := "runNil", fn := fun _ => fun
  | [d1, d2] => { results := [.lit (.bool false)], args := [d1, d2] }
  | _ => none }
def RunNilWrongFalsely : Prop := runNilRow.holds Try.pinned (OpenSpec.ofChange runNilWrong)

/-- 'wherrylaw07.RunFinds': WHATEVER THE INPUT: true; the input reads as it did. -/
def runFindsSpec : ChangeSpec := { name := "runFinds", fn := fun _ => fun
  | [d1, d2] => { results := [.lit (.bool true)], args := [d1, d2] }
  | _ => none }
def runFindsRow : OpenClaim := { program := "ytfemjlhfgmbcmaa", sum := "a0345ab9bd48e37384c1daa5e44ec9274390b4f97a375fb8cf58f9cbb7a6be4f", func := "wherry/wherrylaw07.RunFinds", spec := "runFinds", inPlace := ["internal/abi.NoEscape"], unfollowed := true, recurses := true, apart := false }
def RunFindsSaid : Prop := runFindsRow.holds Try.pinned (OpenSpec.ofChange runFindsSpec)

/-- ITS FALSE NEIGHBOUR: 'it returns false'. Refute it at one input. -/
def runFindsWrong : ChangeSpec := { name := "runFinds", fn := fun _ => fun
  | [d1, d2] => { results := [.lit (.bool false)], args := [d1, d2] }
  | _ => none }
def RunFindsWrongFalsely : Prop := runFindsRow.holds Try.pinned (OpenSpec.ofChange runFindsWrong)

/-- 'wherrylaw01.WireWrites': WHATEVER THE INPUT: true; the input reads as it did. -/
def wireWritesSpec : ChangeSpec := { name := "wireWrites", fn := fun _ => fun
  | [d1, d2, d3] => { results := [.lit (.bool true)], args := [d1, d2, d3] }
  | _ => none }
def wireWritesRow : OpenClaim := { program := "ytfemjlhfgmbcmaa", sum := "a0345ab9bd48e37384c1daa5e44ec9274390b4f97a375fb8cf58f9cbb7a6be4f", func := "wherry/wherrylaw01.WireWrites", spec := "wireWrites", inPlace := ["internal/abi.NoEscape"], unfollowed := true, recurses := true, apart := false }
def WireWritesSaid : Prop := wireWritesRow.holds Try.pinned (OpenSpec.ofChange wireWritesSpec)

/-- ITS FALSE NEIGHBOUR: 'it returns false'. Refute it at one input. -/
def wireWritesWrong : ChangeSpec := { name := "wireWrites", fn := fun _ => fun
  | [d1, d2, d3] => { results := [.lit (.bool false)], args := [d1, d2, d3] }
  | _ => none }
def WireWritesWrongFalsely : Prop := wireWritesRow.holds Try.pinned (OpenSpec.ofChange wireWritesWrong)

/-- 'wherrylaw01.WireSplits': WHATEVER THE INPUT: true; the input reads as it did. -/
def wireSplitsSpec : ChangeSpec := { name := "wireSplits", fn := fun _ => fun
  | [d1, d2, d3] => { results := [.lit (.bool true)], args := [d1, d2, d3] }
  | _ => none }
def wireSplitsRow : OpenClaim := { program := "ytfemjlhfgmbcmaa", sum := "a0345ab9bd48e37384c1daa5e44ec9274390b4f97a375fb8cf58f9cbb7a6be4f", func := "wherry/wherrylaw01.WireSplits", spec := "wireSplits", unfollowed := true, recurses := true, apart := false }
def WireSplitsSaid : Prop := wireSplitsRow.holds Try.pinned (OpenSpec.ofChange wireSplitsSpec)

/-- ITS FALSE NEIGHBOUR: 'it returns false'. Refute it at one input. -/
def wireSplitsWrong : ChangeSpec := { name := "wireSplits", fn := fun _ => fun
  | [d1, d2, d3] => { results := [.lit (.bool false)], args := [d1, d2, d3] }
  | _ => none }
def WireSplitsWrongFalsely : Prop := wireSplitsRow.holds Try.pinned (OpenSpec.ofChange wireSplitsWrong)

/-- 'wherrylaw01.WireReads': WHATEVER THE INPUT: true; the input reads as it did. -/
def wireReadsSpec : ChangeSpec := { name := "wireReads", fn := fun _ => fun
  | [d1, d2] => { results := [.lit (.bool true)], args := [d1, d2] }
  | _ => none }
def wireReadsRow : OpenClaim := { program := "ytfemjlhfgmbcmaa", sum := "a0345ab9bd48e37384c1daa5e44ec9274390b4f97a375fb8cf58f9cbb7a6be4f", func := "wherry/wherrylaw01.WireReads", spec := "wireReads", unfollowed := true, recurses := true, apart := false }
def WireReadsSaid : Prop := wireReadsRow.holds Try.pinned (OpenSpec.ofChange wireReadsSpec)

/-- ITS FALSE NEIGHBOUR: 'it returns false'. Refute it at one input. -/
def wireReadsWrong : ChangeSpec := { name := "wireReads", fn := fun _ => fun
  | [d1, d2] => { results := [.lit (.bool false)], args := [d1, d2] }
  | _ => none }
def WireReadsWrongFalsely : Prop := wireReadsRow.holds Try.pinned (OpenSpec.ofChange wireReadsWrong)

/-- 'wherrylaw01.WireNil': WHATEVER THE INPUT: true; the input reads as it did. -/
def wireNilSpec : ChangeSpec := { name := "wireNil", fn := fun _ => fun
  | [d] => { results := [.lit (.bool true)], args := [d] }
  | _ => none }
def wireNilRow : OpenClaim := { program := "ytfemjlhfgmbcmaa", sum := "a0345ab9bd48e37384c1daa5e44ec9274390b4f97a375fb8cf58f9cbb7a6be4f", func := "wherry/wherrylaw01.WireNil", spec := "wireNil", unfollowed := true, recurses := true, apart := false }
def WireNilSaid : Prop := wireNilRow.holds Try.pinned (OpenSpec.ofChange wireNilSpec)

/-- ITS FALSE NEIGHBOUR: 'it returns false'. Refute it at one input. -/
def wireNilWrong : ChangeSpec := { name := "wireNil", fn := fun _ => fun
  | [d] => { results := [.lit (.bool false)], args := [d] }
  | _ => none }
def WireNilWrongFalsely : Prop := wireNilRow.holds Try.pinned (OpenSpec.ofChange wireNilWrong)

/-- 'wherrylaw01.WireStays': WHATEVER THE INPUT: true; the input reads as it did. -/
def wireStaysSpec : ChangeSpec := { name := "wireStays", fn := fun _ => fun
  | [d1, d2] => { results := [.lit (.bool true)], args := [d1, d2] }
  | _ => none }
def wireStaysRow : OpenClaim := { program := "ytfemjlhfgmbcmaa", sum := "a0345ab9bd48e37384c1daa5e44ec9274390b4f97a375fb8cf58f9cbb7a6be4f", func := "wherry/wherrylaw01.WireStays", spec := "wireStays", unfollowed := true, recurses := true, apart := false }
def WireStaysSaid : Prop := wireStaysRow.holds Try.pinned (OpenSpec.ofChange wireStaysSpec)

/-- ITS FALSE NEIGHBOUR: 'it returns false'. Refute it at one input. -/
def wireStaysWrong : ChangeSpec := { name := "wireStays", fn := fun _ => fun
  | [d1, d2] => { results := [.lit (.bool false)], args := [d1, d2] }
  | _ => none }
def WireStaysWrongFalsely : Prop := wireStaysRow.holds Try.pinned (OpenSpec.ofChange wireStaysWrong)

/-- 'wherrylaw05.FramePuts': WHATEVER THE INPUT: true; the input reads as it did. -/
def framePutsSpec : ChangeSpec := { name := "framePuts", fn := fun _ => fun
  | [d1, d2] => { results := [.lit (.bool true)], args := [d1, d2] }
  | _ => none }
def framePutsRow : OpenClaim := { program := "ytfemjlhfgmbcmaa", sum := "a0345ab9bd48e37384c1daa5e44ec9274390b4f97a375fb8cf58f9cbb7a6be4f", func := "wherry/wherrylaw05.FramePuts", spec := "framePuts", unfollowed := true, recurses := true, apart := false }
def FramePutsSaid : Prop := framePutsRow.holds Try.pinned (OpenSpec.ofChange framePutsSpec)

/-- ITS FALSE NEIGHBOUR: 'it returns false'. Refute it at one input. -/
def framePutsWrong : ChangeSpec := { name := "framePuts", fn := fun _ => fun
  | [d1, d2] => { results := [.lit (.bool false)], args := [d1, d2] }
  | _ => none }
def FramePutsWrongFalsely : Prop := framePutsRow.holds Try.pinned (OpenSpec.ofChange framePutsWrong)

/-- 'wherrylaw05.FrameTakes': WHATEVER THE INPUT: true; the input reads as it did. -/
def frameTakesSpec : ChangeSpec := { name := "frameTakes", fn := fun _ => fun
  | [d] => { results := [.lit (.bool true)], args := [d] }
  | _ => none }
def frameTakesRow : OpenClaim := { program := "ytfemjlhfgmbcmaa", sum := "a0345ab9bd48e37384c1daa5e44ec9274390b4f97a375fb8cf58f9cbb7a6be4f", func := "wherry/wherrylaw05.FrameTakes", spec := "frameTakes", unfollowed := true, recurses := true, apart := false }
def FrameTakesSaid : Prop := frameTakesRow.holds Try.pinned (OpenSpec.ofChange frameTakesSpec)

/-- ITS FALSE NEIGHBOUR: 'it returns false'. Refute it at one input. -/
def frameTakesWrong : ChangeSpec := { name := "frameTakes", fn := fun _ => fun
  | [d] => { results := [.lit (.bool false)], args := [d] }
  | _ => none }
def FrameTakesWrongFalsely : Prop := frameTakesRow.holds Try.pinned (OpenSpec.ofChange frameTakesWrong)

/-- 'wherrylaw05.FrameTurned': WHATEVER THE INPUT: true; the input reads as it did. -/
def frameTurnedSpec : ChangeSpec := { name := "frameTurned", fn := fun _ => fun
  | [d] => { results := [.lit (.bool true)], args := [d] }
  | _ => none }
def frameTurnedRow : OpenClaim := { program := "ytfemjlhfgmbcmaa", sum := "a0345ab9bd48e37384c1daa5e44ec9274390b4f97a375fb8cf58f9cbb7a6be4f", func := "wherry/wherrylaw05.FrameTurned", spec := "frameTurned", unfollowed := true, recurses := true, apart := false }
def FrameTurnedSaid : Prop := frameTurnedRow.holds Try.pinned (OpenSpec.ofChange frameTurnedSpec)

/-- ITS FALSE NEIGHBOUR: 'it returns false'. Refute it at one input. -/
def frameTurnedWrong : ChangeSpec := { name := "frameTurned", fn := fun _ => fun
  | [d] => { results := [.lit (.bool false)], args := [d] }
  | _ => none }
def FrameTurnedWrongFalsely : Prop := frameTurnedRow.holds Try.pinned (OpenSpec.ofChange frameTurnedWrong)

/-- 'wherrylaw05.FrameSums': WHATEVER THE INPUT: true; the input reads as it did. -/
def frameSumsSpec : ChangeSpec := { name := "frameSums", fn := fun _ => fun
  | [d1, d2, d3] => { results := [.lit (.bool true)], args := [d1, d2, d3] }
  | _ => none }
def frameSumsRow : OpenClaim := { program := "ytfemjlhfgmbcmaa", sum := "a0345ab9bd48e37384c1daa5e44ec9274390b4f97a375fb8cf58f9cbb7a6be4f", func := "wherry/wherrylaw05.FrameSums", spec := "frameSums", unfollowed := true, recurses := true, apart := false }
def FrameSumsSaid : Prop := frameSumsRow.holds Try.pinned (OpenSpec.ofChange frameSumsSpec)

/-- ITS FALSE NEIGHBOUR: 'it returns false'. Refute it at one input. -/
def frameSumsWrong : ChangeSpec := { name := "frameSums", fn := fun _ => fun
  | [d1, d2, d3] => { results := [.lit (.bool false)], args := [d1, d2, d3] }
  | _ => none }
def FrameSumsWrongFalsely : Prop := frameSumsRow.holds Try.pinned (OpenSpec.ofChange frameSumsWrong)

/-- 'wherrylaw01.WireCuts': WHATEVER THE INPUT: true; the input reads as it did. -/
def wireCutsSpec : ChangeSpec := { name := "wireCuts", fn := fun _ => fun
  | [d1, d2, d3] => { results := [.lit (.bool true)], args := [d1, d2, d3] }
  | _ => none }
def wireCutsRow : OpenClaim := { program := "ytfemjlhfgmbcmaa", sum := "a0345ab9bd48e37384c1daa5e44ec9274390b4f97a375fb8cf58f9cbb7a6be4f", func := "wherry/wherrylaw01.WireCuts", spec := "wireCuts", inPlace := ["internal/abi.NoEscape"], unfollowed := true, recurses := true, apart := false }
def WireCutsSaid : Prop := wireCutsRow.holds Try.pinned (OpenSpec.ofChange wireCutsSpec)

/-- ITS FALSE NEIGHBOUR: 'it returns false'. Refute it at one input. -/
def wireCutsWrong : ChangeSpec := { name := "wireCuts", fn := fun _ => fun
  | [d1, d2, d3] => { results := [.lit (.bool false)], args := [d1, d2, d3] }
  | _ => none }
def WireCutsWrongFalsely : Prop := wireCutsRow.holds Try.pinned (OpenSpec.ofChange wireCutsWrong)

/-- 'wherrylaw01.WireBack': WHATEVER THE INPUT: true; the input reads as it did. -/
def wireBackSpec : ChangeSpec := { name := "wireBack", fn := fun _ => fun
  | [d] => { results := [.lit (.bool true)], args := [d] }
  | _ => none }
def wireBackRow : OpenClaim := { program := "ytfemjlhfgmbcmaa", sum := "a0345ab9bd48e37384c1daa5e44ec9274390b4f97a375fb8cf58f9cbb7a6be4f", func := "wherry/wherrylaw01.WireBack", spec := "wireBack", inPlace := ["internal/abi.NoEscape"], unfollowed := true, recurses := true, apart := false }
def WireBackSaid : Prop := wireBackRow.holds Try.pinned (OpenSpec.ofChange wireBackSpec)

/-- ITS FALSE NEIGHBOUR: 'it returns false'. Refute it at one input. -/
def wireBackWrong : ChangeSpec := { name := "wireBack", fn := fun _ => fun
  | [d] => { results := [.lit (.bool false)], args := [d] }
  | _ => none }
def WireBackWrongFalsely : Prop := wireBackRow.holds Try.pinned (OpenSpec.ofChange wireBackWrong)

/-- 'wherrylaw05.FrameWalks': WHATEVER THE INPUT: true; the input reads as it did. -/
def frameWalksSpec : ChangeSpec := { name := "frameWalks", fn := fun _ => fun
  | [d1, d2] => { results := [.lit (.bool true)], args := [d1, d2] }
  | _ => none }
def frameWalksRow : OpenClaim := { program := "ytfemjlhfgmbcmaa", sum := "a0345ab9bd48e37384c1daa5e44ec9274390b4f97a375fb8cf58f9cbb7a6be4f", func := "wherry/wherrylaw05.FrameWalks", spec := "frameWalks", unfollowed := true, recurses := true, apart := false }
def FrameWalksSaid : Prop := frameWalksRow.holds Try.pinned (OpenSpec.ofChange frameWalksSpec)

/-- ITS FALSE NEIGHBOUR: 'it returns false'. Refute it at one input. -/
def frameWalksWrong : ChangeSpec := { name := "frameWalks", fn := fun _ => fun
  | [d1, d2] => { results := [.lit (.bool false)], args := [d1, d2] }
  | _ => none }
def FrameWalksWrongFalsely : Prop := frameWalksRow.holds Try.pinned (OpenSpec.ofChange frameWalksWrong)

/-- 'wherrylaw05.FrameBack': WHATEVER THE INPUT: true; the input reads as it did. -/
def frameBackSpec : ChangeSpec := { name := "frameBack", fn := fun _ => fun
  | [d] => { results := [.lit (.bool true)], args := [d] }
  | _ => none }
def frameBackRow : OpenClaim := { program := "ytfemjlhfgmbcmaa", sum := "a0345ab9bd48e37384c1daa5e44ec9274390b4f97a375fb8cf58f9cbb7a6be4f", func := "wherry/wherrylaw05.FrameBack", spec := "frameBack", unfollowed := true, recurses := true, apart := false }
def FrameBackSaid : Prop := frameBackRow.holds Try.pinned (OpenSpec.ofChange frameBackSpec)

/-- ITS FALSE NEIGHBOUR: 'it returns false'. Refute it at one input. -/
def frameBackWrong : ChangeSpec := { name := "frameBack", fn := fun _ => fun
  | [d] => { results := [.lit (.bool false)], args := [d] }
  | _ => none }
def FrameBackWrongFalsely : Prop := frameBackRow.holds Try.pinned (OpenSpec.ofChange frameBackWrong)

/-- 'wherrylaw05.FrameJoins': WHATEVER THE INPUT: true; the input reads as it did. -/
def frameJoinsSpec : ChangeSpec := { name := "frameJoins", fn := fun _ => fun
  | [d1, d2] => { results := [.lit (.bool true)], args := [d1, d2] }
  | _ => none }
def frameJoinsRow : OpenClaim := { program := "ytfemjlhfgmbcmaa", sum := "a0345ab9bd48e37384c1daa5e44ec9274390b4f97a375fb8cf58f9cbb7a6be4f", func := "wherry/wherrylaw05.FrameJoins", spec := "frameJoins", unfollowed := true, recurses := true, apart := false }
def FrameJoinsSaid : Prop := frameJoinsRow.holds Try.pinned (OpenSpec.ofChange frameJoinsSpec)

/-- ITS FALSE NEIGHBOUR: 'it returns false'. Refute it at one input. -/
def frameJoinsWrong : ChangeSpec := { name := "frameJoins", fn := fun _ => fun
  | [d1, d2] => { results := [.lit (.bool false)], args := [d1, d2] }
  | _ => none }
def FrameJoinsWrongFalsely : Prop := frameJoinsRow.holds Try.pinned (OpenSpec.ofChange frameJoinsWrong)

/-- 'wherrylaw07.RunBuilds': WHATEVER THE INPUT: true; the input reads as it did. -/
def runBuildsSpec : ChangeSpec := { name := "runBuilds", fn := fun _ => fun
  | [d1, d2] => { results := [.lit (.bool true)], args := [d1, d2] }
  | _ => none }
def runBuildsRow : OpenClaim := { program := "ytfemjlhfgmbcmaa", sum := "a0345ab9bd48e37384c1daa5e44ec9274390b4f97a375fb8cf58f9cbb7a6be4f", func := "wherry/wherrylaw07.RunBuilds", spec := "runBuilds", inPlace := ["internal/abi.NoEscape"], unfollowed := true, recurses := true, apart := false }
def RunBuildsSaid : Prop := runBuildsRow.holds Try.pinned (OpenSpec.ofChange runBuildsSpec)

/-- ITS FALSE NEIGHBOUR: 'it returns false'. Refute it at one input. -/
def runBuildsWrong : ChangeSpec := { name := "runBuilds", fn := fun _ => fun
  | [d1, d2] => { results := [.lit (.bool false)], args := [d1, d2] }
  | _ => none }
def RunBuildsWrongFalsely : Prop := runBuildsRow.holds Try.pinned (OpenSpec.ofChange runBuildsWrong)

/-- 'wherrylaw07.RunSizes': WHATEVER THE INPUT: true; the input reads as it did. -/
def runSizesSpec : ChangeSpec := { name := "runSizes", fn := fun _ => fun
  | [d1, d2, d3] => { results := [.lit (.bool true)], args := [d1, d2, d3] }
  | _ => none }
def runSizesRow : OpenClaim := { program := "ytfemjlhfgmbcmaa", sum := "a0345ab9bd48e37384c1daa5e44ec9274390b4f97a375fb8cf58f9cbb7a6be4f", func := "wherry/wherrylaw07.RunSizes", spec := "runSizes", inPlace := ["internal/abi.NoEscape"], unfollowed := true, recurses := true, apart := false }
def RunSizesSaid : Prop := runSizesRow.holds Try.pinned (OpenSpec.ofChange runSizesSpec)

/-- ITS FALSE NEIGHBOUR: 'it returns false'. Refute it at one input. -/
def runSizesWrong : ChangeSpec := { name := "runSizes", fn := fun _ => fun
  | [d1, d2, d3] => { results := [.lit (.bool false)], args := [d1, d2, d3] }
  | _ => none }
def RunSizesWrongFalsely : Prop := runSizesRow.holds Try.pinned (OpenSpec.ofChange runSizesWrong)

/-- 'wherrylaw07.RunBlocks': WHATEVER THE INPUT: true; the input reads as it did. -/
def runBlocksSpec : ChangeSpec := { name := "runBlocks", fn := fun _ => fun
  | [d] => { results := [.lit (.bool true)], args := [d] }
  | _ => none }
def runBlocksRow : OpenClaim := { program := "ytfemjlhfgmbcmaa", sum := "a0345ab9bd48e37384c1daa5e44ec9274390b4f97a375fb8cf58f9cbb7a6be4f", func := "wherry/wherrylaw07.RunBlocks", spec := "runBlocks", inPlace := ["internal/abi.NoEscape"], unfollowed := true, recurses := true, apart := false }
def RunBlocksSaid : Prop := runBlocksRow.holds Try.pinned (OpenSpec.ofChange runBlocksSpec)

/-- ITS FALSE NEIGHBOUR: 'it returns false'. Refute it at one input. -/
def runBlocksWrong : ChangeSpec := { name := "runBlocks", fn := fun _ => fun
  | [d] => { results := [.lit (.bool false)], args := [d] }
  | _ => none }
def RunBlocksWrongFalsely : Prop := runBlocksRow.holds Try.pinned (OpenSpec.ofChange runBlocksWrong)

/-- 'wherrylaw07.RunBack': WHATEVER THE INPUT: true; the input reads as it did. -/
def runBackSpec : ChangeSpec := { name := "runBack", fn := fun _ => fun
  | [d] => { results := [.lit (.bool true)], args := [d] }
  | _ => none }
def runBackRow : OpenClaim := { program := "ytfemjlhfgmbcmaa", sum := "a0345ab9bd48e37384c1daa5e44ec9274390b4f97a375fb8cf58f9cbb7a6be4f", func := "wherry/wherrylaw07.RunBack", spec := "runBack", inPlace := ["internal/abi.NoEscape"], unfollowed := true, recurses := true, apart := false }
def RunBackSaid : Prop := runBackRow.holds Try.pinned (OpenSpec.ofChange runBackSpec)

/-- ITS FALSE NEIGHBOUR: 'it returns false'. Refute it at one input. -/
def runBackWrong : ChangeSpec := { name := "runBack", fn := fun _ => fun
  | [d] => { results := [.lit (.bool false)], args := [d] }
  | _ => none }
def RunBackWrongFalsely : Prop := runBackRow.holds Try.pinned (OpenSpec.ofChange runBackWrong)

/- THE SECOND FORM. 'bulk': how many values and letters a reading holds, each counted each time it is reached (what is shared counts as often as it is met; a slice's spare places count too). A statement '..UptoSaid' is the law's where the arguments, and the package variables that the reading takes, are together of bulk at most 1048576: NARROWER than '..Said'. Prove '..Said' where nothing that the law and all that it calls make is longer than what came in: it says more and counts as full. Else prove '..UptoSaid'. A law counts once. -/
mutual
def uptoBulk {H : Type} : DataW H → Nat
  | .lit (.string bytes) => bytes.length + 1
  | .lit _ => 1
  | .nil => 1
  | .ptr d => uptoBulk d + 1
  | .slice elems spare => uptoBulkAll elems + uptoBulkAll spare + 1
  | .agg parts => uptoBulkAll parts + 1
  | .iface _ d => uptoBulk d + 1
  | .map entries => uptoBulkEntries entries + 1
  | .held _ => 1
def uptoBulkAll {H : Type} : List (DataW H) → Nat
  | [] => 0
  | d :: r => uptoBulk d + uptoBulkAll r
def uptoBulkEntries {H : Type} : List (Lit × DataW H) → Nat
  | [] => 0
  | x :: r => uptoBulkEntry x + uptoBulkEntries r
def uptoBulkEntry {H : Type} : Lit × DataW H → Nat
  | (.string bytes, d) => bytes.length + uptoBulk d + 1
  | (_, d) => uptoBulk d + 1
 end
def uptoSmall : (H : Type) → List (DataW H) → Bool := fun _ ds => decide (uptoBulkAll ds ≤ 1048576)
def OpenSpec.upto (s : _root_.Go.ChangeSpec) : _root_.Go.OpenSpec := { _root_.Go.OpenSpec.ofChange s with cond := some uptoSmall }

/-- 'wherrylaw01.WireSizes', WHERE WHAT IT READS IS OF BULK AT MOST 1048576: true; the input reads as it did. -/
def wireSizesUptoRow : OpenClaim := { program := "ytfemjlhfgmbcmaa", sum := "a0345ab9bd48e37384c1daa5e44ec9274390b4f97a375fb8cf58f9cbb7a6be4f", func := "wherry/wherrylaw01.WireSizes", spec := "wireSizes", unfollowed := true, recurses := true, apart := false, narrowed := true }
def WireSizesUptoSaid : Prop := wireSizesUptoRow.holds Try.pinned (OpenSpec.upto wireSizesSpec)

/-- 'wherrylaw01.WireOne', WHERE WHAT IT READS IS OF BULK AT MOST 1048576: true; the input reads as it did. -/
def wireOneUptoRow : OpenClaim := { program := "ytfemjlhfgmbcmaa", sum := "a0345ab9bd48e37384c1daa5e44ec9274390b4f97a375fb8cf58f9cbb7a6be4f", func := "wherry/wherrylaw01.WireOne", spec := "wireOne", unfollowed := true, recurses := true, apart := false, narrowed := true }
def WireOneUptoSaid : Prop := wireOneUptoRow.holds Try.pinned (OpenSpec.upto wireOneSpec)

/-- 'wherrylaw07.RunNil', WHERE WHAT IT READS IS OF BULK AT MOST 1048576: true; the input reads as it did. -/
def runNilUptoRow : OpenClaim := { program := "ytfemjlhfgmbcmaa", sum := "a0345ab9bd48e37384c1daa5e44ec9274390b4f97a375fb8cf58f9cbb7a6be4f", func := "wherry/wherrylaw07.RunNil", spec := "runNil", inPlace := ["internal/abi.NoEscape"], unfollowed := true, recurses := true, apart := false, narrowed := true }
def RunNilUptoSaid : Prop := runNilUptoRow.holds Try.pinned (OpenSpec.upto runNilSpec)

/-- 'wherrylaw07.RunFinds', WHERE WHAT IT READS IS OF BULK AT MOST 1048576: true; the input reads as it did. -/
def runFindsUptoRow : OpenClaim := { program := "ytfemjlhfgmbcmaa", sum := "a0345ab9bd48e37384c1daa5e44ec9274390b4f97a375fb8cf58f9cbb7a6be4f", func := "wherry/wherrylaw07.RunFinds", spec := "runFinds", inPlace := ["internal/abi.NoEscape"], unfollowed := true, recurses := true, apart := false, narrowed := true }
def RunFindsUptoSaid : Prop := runFindsUptoRow.holds Try.pinned (OpenSpec.upto runFindsSpec)

/-- 'wherrylaw01.WireWrites', WHERE WHAT IT READS IS OF BULK AT MOST 1048576: true; the input reads as it did. -/
def wireWritesUptoRow : OpenClaim := { program := "ytfemjlhfgmbcmaa", sum := "a0345ab9bd48e37384c1daa5e44ec9274390b4f97a375fb8cf58f9cbb7a6be4f", func := "wherry/wherrylaw01.WireWrites", spec := "wireWrites", inPlace := ["internal/abi.NoEscape"], unfollowed := true, recurses := true, apart := false, narrowed := true }
def WireWritesUptoSaid : Prop := wireWritesUptoRow.holds Try.pinned (OpenSpec.upto wireWritesSpec)

/-- 'wherrylaw01.WireSplits', WHERE WHAT IT READS IS OF BULK AT MOST 1048576: true; the input reads as it did. -/
def wireSplitsUptoRow : OpenClaim := { program := "ytfemjlhfgmbcmaa", sum := "a0345ab9bd48e37384c1daa5e44ec9274390b4f97a375fb8cf58f9cbb7a6be4f", func := "wherry/wherrylaw01.WireSplits", spec := "wireSplits", unfollowed := true, recurses := true, apart := false, narrowed := true }
def WireSplitsUptoSaid : Prop := wireSplitsUptoRow.holds Try.pinned (OpenSpec.upto wireSplitsSpec)

/-- 'wherrylaw01.WireReads', WHERE WHAT IT READS IS OF BULK AT MOST 1048576: true; the input reads as it did. -/
def wireReadsUptoRow : OpenClaim := { program := "ytfemjlhfgmbcmaa", sum := "a0345ab9bd48e37384c1daa5e44ec9274390b4f97a375fb8cf58f9cbb7a6be4f", func := "wherry/wherrylaw01.WireReads", spec := "wireReads", unfollowed := true, recurses := true, apart := false, narrowed := true }
def WireReadsUptoSaid : Prop := wireReadsUptoRow.holds Try.pinned (OpenSpec.upto wireReadsSpec)

/-- 'wherrylaw01.WireNil', WHERE WHAT IT READS IS OF BULK AT MOST 1048576: true; the input reads as it did. -/
def wireNilUptoRow : OpenClaim := { program := "ytfemjlhfgmbcmaa", sum := "a0345ab9bd48e37384c1daa5e44ec9274390b4f97a375fb8cf58f9cbb7a6be4f", func := "wherry/wherrylaw01.WireNil", spec := "wireNil", unfollowed := true, recurses := true, apart := false, narrowed := true }
def WireNilUptoSaid : Prop := wireNilUptoRow.holds Try.pinned (OpenSpec.upto wireNilSpec)

/-- 'wherrylaw01.WireStays', WHERE WHAT IT READS IS OF BULK AT MOST 1048576: true; the input reads as it did. -/
def wireStaysUptoRow : OpenClaim := { program := "ytfemjlhfgmbcmaa", sum := "a0345ab9bd48e37384c1daa5e44ec9274390b4f97a375fb8cf58f9cbb7a6be4f", func := "wherry/wherrylaw01.WireStays", spec := "wireStays", unfollowed := true, recurses := true, apart := false, narrowed := true }
def WireStaysUptoSaid : Prop := wireStaysUptoRow.holds Try.pinned (OpenSpec.upto wireStaysSpec)

/-- 'wherrylaw05.FramePuts', WHERE WHAT IT READS IS OF BULK AT MOST 1048576: true; the input reads as it did. -/
def framePutsUptoRow : OpenClaim := { program := "ytfemjlhfgmbcmaa", sum := "a0345ab9bd48e37384c1daa5e44ec9274390b4f97a375fb8cf58f9cbb7a6be4f", func := "wherry/wherrylaw05.FramePuts", spec := "framePuts", unfollowed := true, recurses := true, apart := false, narrowed := true }
def FramePutsUptoSaid : Prop := framePutsUptoRow.holds Try.pinned (OpenSpec.upto framePutsSpec)

/-- 'wherrylaw05.FrameTakes', WHERE WHAT IT READS IS OF BULK AT MOST 1048576: true; the input reads as it did. -/
def frameTakesUptoRow : OpenClaim := { program := "ytfemjlhfgmbcmaa", sum := "a0345ab9bd48e37384c1daa5e44ec9274390b4f97a375fb8cf58f9cbb7a6be4f", func := "wherry/wherrylaw05.FrameTakes", spec := "frameTakes", unfollowed := true, recurses := true, apart := false, narrowed := true }
def FrameTakesUptoSaid : Prop := frameTakesUptoRow.holds Try.pinned (OpenSpec.upto frameTakesSpec)

/-- 'wherrylaw05.FrameTurned', WHERE WHAT IT READS IS OF BULK AT MOST 1048576: true; the input reads as it did. -/
def frameTurnedUptoRow : OpenClaim := { program := "ytfemjlhfgmbcmaa", sum := "a0345ab9bd48e37384c1daa5e44ec9274390b4f97a375fb8cf58f9cbb7a6be4f", func := "wherry/wherrylaw05.FrameTurned", spec := "frameTurned", unfollowed := true, recurses := true, apart := false, narrowed := true }
def FrameTurnedUptoSaid : Prop := frameTurnedUptoRow.holds Try.pinned (OpenSpec.upto frameTurnedSpec)

/-- 'wherrylaw05.FrameSums', WHERE WHAT IT READS IS OF BULK AT MOST 1048576: true; the input reads as it did. -/
def frameSumsUptoRow : OpenClaim := { program := "ytfemjlhfgmbcmaa", sum := "a0345ab9bd48e37384c1daa5e44ec9274390b4f97a375fb8cf58f9cbb7a6be4f", func := "wherry/wherrylaw05.FrameSums", spec := "frameSums", unfollowed := true, recurses := true, apart := false, narrowed := true }
def FrameSumsUptoSaid : Prop := frameSumsUptoRow.holds Try.pinned (OpenSpec.upto frameSumsSpec)

/-- 'wherrylaw01.WireCuts', WHERE WHAT IT READS IS OF BULK AT MOST 1048576: true; the input reads as it did. -/
def wireCutsUptoRow : OpenClaim := { program := "ytfemjlhfgmbcmaa", sum := "a0345ab9bd48e37384c1daa5e44ec9274390b4f97a375fb8cf58f9cbb7a6be4f", func := "wherry/wherrylaw01.WireCuts", spec := "wireCuts", inPlace := ["internal/abi.NoEscape"], unfollowed := true, recurses := true, apart := false, narrowed := true }
def WireCutsUptoSaid : Prop := wireCutsUptoRow.holds Try.pinned (OpenSpec.upto wireCutsSpec)

/-- 'wherrylaw01.WireBack', WHERE WHAT IT READS IS OF BULK AT MOST 1048576: true; the input reads as it did. -/
def wireBackUptoRow : OpenClaim := { program := "ytfemjlhfgmbcmaa", sum := "a0345ab9bd48e37384c1daa5e44ec9274390b4f97a375fb8cf58f9cbb7a6be4f", func := "wherry/wherrylaw01.WireBack", spec := "wireBack", inPlace := ["internal/abi.NoEscape"], unfollowed := true, recurses := true, apart := false, narrowed := true }
def WireBackUptoSaid : Prop := wireBackUptoRow.holds Try.pinned (OpenSpec.upto wireBackSpec)

/-- 'wherrylaw05.FrameWalks', WHERE WHAT IT READS IS OF BULK AT MOST 1048576: true; the input reads as it did. -/
def frameWalksUptoRow : OpenClaim := { program := "ytfemjlhfgmbcmaa", sum := "a0345ab9bd48e37384c1daa5e44ec9274390b4f97a375fb8cf58f9cbb7a6be4f", func := "wherry/wherrylaw05.FrameWalks", spec := "frameWalks", unfollowed := true, recurses := true, apart := false, narrowed := true }
def FrameWalksUptoSaid : Prop := frameWalksUptoRow.holds Try.pinned (OpenSpec.upto frameWalksSpec)

/-- 'wherrylaw05.FrameBack', WHERE WHAT IT READS IS OF BULK AT MOST 1048576: true; the input reads as it did. -/
def frameBackUptoRow : OpenClaim := { program := "ytfemjlhfgmbcmaa", sum := "a0345ab9bd48e37384c1daa5e44ec9274390b4f97a375fb8cf58f9cbb7a6be4f", func := "wherry/wherrylaw05.FrameBack", spec := "frameBack", unfollowed := true, recurses := true, apart := false, narrowed := true }
def FrameBackUptoSaid : Prop := frameBackUptoRow.holds Try.pinned (OpenSpec.upto frameBackSpec)

/-- 'wherrylaw05.FrameJoins', WHERE WHAT IT READS IS OF BULK AT MOST 1048576: true; the input reads as it did. -/
def frameJoinsUptoRow : OpenClaim := { program := "ytfemjlhfgmbcmaa", sum := "a0345ab9bd48e37384c1daa5e44ec9274390b4f97a375fb8cf58f9cbb7a6be4f", func := "wherry/wherrylaw05.FrameJoins", spec := "frameJoins", unfollowed := true, recurses := true, apart := false, narrowed := true }
def FrameJoinsUptoSaid : Prop := frameJoinsUptoRow.holds Try.pinned (OpenSpec.upto frameJoinsSpec)

/-- 'wherrylaw07.RunBuilds', WHERE WHAT IT READS IS OF BULK AT MOST 1048576: true; the input reads as it did. -/
def runBuildsUptoRow : OpenClaim := { program := "ytfemjlhfgmbcmaa", sum := "a0345ab9bd48e37384c1daa5e44ec9274390b4f97a375fb8cf58f9cbb7a6be4f", func := "wherry/wherrylaw07.RunBuilds", spec := "runBuilds", inPlace := ["internal/abi.NoEscape"], unfollowed := true, recurses := true, apart := false, narrowed := true }
def RunBuildsUptoSaid : Prop := runBuildsUptoRow.holds Try.pinned (OpenSpec.upto runBuildsSpec)

/-- 'wherrylaw07.RunSizes', WHERE WHAT IT READS IS OF BULK AT MOST 1048576: true; the input reads as it did. -/
def runSizesUptoRow : OpenClaim := { program := "ytfemjlhfgmbcmaa", sum := "a0345ab9bd48e37384c1daa5e44ec9274390b4f97a375fb8cf58f9cbb7a6be4f", func := "wherry/wherrylaw07.RunSizes", spec := "runSizes", inPlace := ["internal/abi.NoEscape"], unfollowed := true, recurses := true, apart := false, narrowed := true }
def RunSizesUptoSaid : Prop := runSizesUptoRow.holds Try.pinned (OpenSpec.upto runSizesSpec)

/-- 'wherrylaw07.RunBlocks', WHERE WHAT IT READS IS OF BULK AT MOST 1048576: true; the input reads as it did. -/
def runBlocksUptoRow : OpenClaim := { program := "ytfemjlhfgmbcmaa", sum := "a0345ab9bd48e37384c1daa5e44ec9274390b4f97a375fb8cf58f9cbb7a6be4f", func := "wherry/wherrylaw07.RunBlocks", spec := "runBlocks", inPlace := ["internal/abi.NoEscape"], unfollowed := true, recurses := true, apart := false, narrowed := true }
def RunBlocksUptoSaid : Prop := runBlocksUptoRow.holds Try.pinned (OpenSpec.upto runBlocksSpec)

/-- 'wherrylaw07.RunBack', WHERE WHAT IT READS IS OF BULK AT MOST 1048576: true; the input reads as it did. -/
def runBackUptoRow : OpenClaim := { program := "ytfemjlhfgmbcmaa", sum := "a0345ab9bd48e37384c1daa5e44ec9274390b4f97a375fb8cf58f9cbb7a6be4f", func := "wherry/wherrylaw07.RunBack", spec := "runBack", inPlace := ["internal/abi.NoEscape"], unfollowed := true, recurses := true, apart := false, narrowed := true }
def RunBackUptoSaid : Prop := runBackUptoRow.holds Try.pinned (OpenSpec.upto runBackSpec)

end Rows
end Go.Proofs.Ytfemjlhfgmbcmaa
