/-
  No cell of these rows narrows 'for every input' (looked for: loops, veiled, ifaces, maps, wideKeys, modest, calm, conditions, laid).
  DERIVED. THE GIVEN ROWS OF THIS SEAT. 25 by the template 'for every input the law returns true; each argument reads behind the call as it read before'; 0 by the template 'total and deterministic' (their statements: YtlicnplclfclcaaTotals.lean).
  GIVEN WITH THE SEED: the statements are not yours to turn. If you find one false, say at which input.
  Laid BY PROGRAM, IN A SANDBOX (cutbox-rows.mjs): the forced cells as the released guide's own fill.sh prints them over the translation 3cd0d95dbe776877… (all of the seat's roots in one cut). By AI agents, Wed Nov 11 2026. No macro, syntax, notation, axiom, sorry.
-/
import Derived.Test.YtlicnplclfclcaaChecked
import GoSem.Claim
import GoSem.ClaimJoined
import GoSem.ClaimMapViews
import Derived.JoinedTies
import Derived.KernelRfl
namespace Go.Proofs.Ytlicnplclfclcaa
/- THE CELL 'sum', in the pinned program and in every row, IS THE sha256 OF THE DUMP (.gsa) THAT YtlicnplclfclcaaProg.lean LOADS. Nothing in Lean hashes anything: it is a label: what it is worth is what the hold of that sum in a sandbox is worth. -/
noncomputable def Try.pinned : Pinned := { name := "ytlicnplclfclcaa", sum := "3cd0d95dbe7768771379e6b1ad2cffb16c81d33d5578688a925e834d37320d73", checked := Try.checked }
namespace Rows
def none {H : Type} : Left H := { results := [], args := [] }

/-- 'boatswainlaw03.PheapDeletes': WHATEVER THE INPUT: true; the input reads as it did. -/
def pheapDeletesSpec : ChangeSpec := { name := "pheapDeletes", fn := fun _ => fun
  | [d1, d2, d3] => { results := [.lit (.bool true)], args := [d1, d2, d3] }
  | _ => none }
def pheapDeletesRow : OpenClaim := { program := "ytlicnplclfclcaa", sum := "3cd0d95dbe7768771379e6b1ad2cffb16c81d33d5578688a925e834d37320d73", func := "boatswain/boatswainlaw03.PheapDeletes", spec := "pheapDeletes", unfollowed := true, recurses := true, apart := false }
def PheapDeletesSaid : Prop := pheapDeletesRow.holds Try.pinned (OpenSpec.ofChange pheapDeletesSpec)

/-- ITS FALSE NEIGHBOUR: 'it returns false'. Refute it at one input. -/
def pheapDeletesWrong : ChangeSpec := { name := "pheapDeletes", fn := fun _ => fun
  | [d1, d2, d3] => { results := [.lit (.bool false)], args := [d1, d2, d3] }
  | _ => none }
def PheapDeletesWrongFalsely : Prop := pheapDeletesRow.holds Try.pinned (OpenSpec.ofChange pheapDeletesWrong)

/-- 'boatswainlaw03.PheapPuts': WHATEVER THE INPUT: true; the input reads as it did. -/
def pheapPutsSpec : ChangeSpec := { name := "pheapPuts", fn := fun _ => fun
  | [d1, d2, d3] => { results := [.lit (.bool true)], args := [d1, d2, d3] }
  | _ => none }
def pheapPutsRow : OpenClaim := { program := "ytlicnplclfclcaa", sum := "3cd0d95dbe7768771379e6b1ad2cffb16c81d33d5578688a925e834d37320d73", func := "boatswain/boatswainlaw03.PheapPuts", spec := "pheapPuts", unfollowed := true, recurses := true, apart := false }
def PheapPutsSaid : Prop := pheapPutsRow.holds Try.pinned (OpenSpec.ofChange pheapPutsSpec)

/-- ITS FALSE NEIGHBOUR: 'it returns false'. Refute it at one input. -/
def pheapPutsWrong : ChangeSpec := { name := "pheapPuts", fn := fun _ => fun
  | [d1, d2, d3] => { results := [.lit (.bool false)], args := [d1, d2, d3] }
  | _ => none }
def PheapPutsWrongFalsely : Prop := pheapPutsRow.holds Try.pinned (OpenSpec.ofChange pheapPutsWrong)

/-- 'boatswainlaw03.PheapPlays': WHATEVER THE INPUT: true; the input reads as it did. -/
def pheapPlaysSpec : ChangeSpec := { name := "pheapPlays", fn := fun _ => fun
  | [d1, d2, d3] => { results := [.lit (.bool true)], args := [d1, d2, d3] }
  | _ => none }
def pheapPlaysRow : OpenClaim := { program := "ytlicnplclfclcaa", sum := "3cd0d95dbe7768771379e6b1ad2cffb16c81d33d5578688a925e834d37320d73", func := "boatswain/boatswainlaw03.PheapPlays", spec := "pheapPlays", unfollowed := true, recurses := true, apart := false }
def PheapPlaysSaid : Prop := pheapPlaysRow.holds Try.pinned (OpenSpec.ofChange pheapPlaysSpec)

/-- ITS FALSE NEIGHBOUR: 'it returns false'. Refute it at one input. -/
def pheapPlaysWrong : ChangeSpec := { name := "pheapPlays", fn := fun _ => fun
  | [d1, d2, d3] => { results := [.lit (.bool false)], args := [d1, d2, d3] }
  | _ => none }
def PheapPlaysWrongFalsely : Prop := pheapPlaysRow.holds Try.pinned (OpenSpec.ofChange pheapPlaysWrong)

/-- 'boatswainlaw03.PheapRises': WHATEVER THE INPUT: true; the input reads as it did. -/
def pheapRisesSpec : ChangeSpec := { name := "pheapRises", fn := fun _ => fun
  | [d1, d2] => { results := [.lit (.bool true)], args := [d1, d2] }
  | _ => none }
def pheapRisesRow : OpenClaim := { program := "ytlicnplclfclcaa", sum := "3cd0d95dbe7768771379e6b1ad2cffb16c81d33d5578688a925e834d37320d73", func := "boatswain/boatswainlaw03.PheapRises", spec := "pheapRises", unfollowed := true, recurses := true, apart := false }
def PheapRisesSaid : Prop := pheapRisesRow.holds Try.pinned (OpenSpec.ofChange pheapRisesSpec)

/-- ITS FALSE NEIGHBOUR: 'it returns false'. Refute it at one input. -/
def pheapRisesWrong : ChangeSpec := { name := "pheapRises", fn := fun _ => fun
  | [d1, d2] => { results := [.lit (.bool false)], args := [d1, d2] }
  | _ => none }
def PheapRisesWrongFalsely : Prop := pheapRisesRow.holds Try.pinned (OpenSpec.ofChange pheapRisesWrong)

/-- 'boatswainlaw03.PheapChanges': WHATEVER THE INPUT: true; the input reads as it did. -/
def pheapChangesSpec : ChangeSpec := { name := "pheapChanges", fn := fun _ => fun
  | [d1, d2, d3] => { results := [.lit (.bool true)], args := [d1, d2, d3] }
  | _ => none }
def pheapChangesRow : OpenClaim := { program := "ytlicnplclfclcaa", sum := "3cd0d95dbe7768771379e6b1ad2cffb16c81d33d5578688a925e834d37320d73", func := "boatswain/boatswainlaw03.PheapChanges", spec := "pheapChanges", unfollowed := true, recurses := true, apart := false }
def PheapChangesSaid : Prop := pheapChangesRow.holds Try.pinned (OpenSpec.ofChange pheapChangesSpec)

/-- ITS FALSE NEIGHBOUR: 'it returns false'. Refute it at one input. -/
def pheapChangesWrong : ChangeSpec := { name := "pheapChanges", fn := fun _ => fun
  | [d1, d2, d3] => { results := [.lit (.bool false)], args := [d1, d2, d3] }
  | _ => none }
def PheapChangesWrongFalsely : Prop := pheapChangesRow.holds Try.pinned (OpenSpec.ofChange pheapChangesWrong)

/-- 'boatswainlaw03.PheapForks': WHATEVER THE INPUT: true; the input reads as it did. -/
def pheapForksSpec : ChangeSpec := { name := "pheapForks", fn := fun _ => fun
  | [d1, d2] => { results := [.lit (.bool true)], args := [d1, d2] }
  | _ => none }
def pheapForksRow : OpenClaim := { program := "ytlicnplclfclcaa", sum := "3cd0d95dbe7768771379e6b1ad2cffb16c81d33d5578688a925e834d37320d73", func := "boatswain/boatswainlaw03.PheapForks", spec := "pheapForks", unfollowed := true, recurses := true, apart := false }
def PheapForksSaid : Prop := pheapForksRow.holds Try.pinned (OpenSpec.ofChange pheapForksSpec)

/-- ITS FALSE NEIGHBOUR: 'it returns false'. Refute it at one input. -/
def pheapForksWrong : ChangeSpec := { name := "pheapForks", fn := fun _ => fun
  | [d1, d2] => { results := [.lit (.bool false)], args := [d1, d2] }
  | _ => none }
def PheapForksWrongFalsely : Prop := pheapForksRow.holds Try.pinned (OpenSpec.ofChange pheapForksWrong)

/-- 'boatswainlaw03.PheapNone': WHATEVER THE INPUT: true; the input reads as it did. -/
def pheapNoneSpec : ChangeSpec := { name := "pheapNone", fn := fun _ => fun
  | [d1, d2] => { results := [.lit (.bool true)], args := [d1, d2] }
  | _ => none }
def pheapNoneRow : OpenClaim := { program := "ytlicnplclfclcaa", sum := "3cd0d95dbe7768771379e6b1ad2cffb16c81d33d5578688a925e834d37320d73", func := "boatswain/boatswainlaw03.PheapNone", spec := "pheapNone", unfollowed := true, recurses := true, apart := false }
def PheapNoneSaid : Prop := pheapNoneRow.holds Try.pinned (OpenSpec.ofChange pheapNoneSpec)

/-- ITS FALSE NEIGHBOUR: 'it returns false'. Refute it at one input. -/
def pheapNoneWrong : ChangeSpec := { name := "pheapNone", fn := fun _ => fun
  | [d1, d2] => { results := [.lit (.bool false)], args := [d1, d2] }
  | _ => none }
def PheapNoneWrongFalsely : Prop := pheapNoneRow.holds Try.pinned (OpenSpec.ofChange pheapNoneWrong)

/-- 'boatswainlaw10.ReadyPlays': WHATEVER THE INPUT: true; the input reads as it did. -/
def readyPlaysSpec : ChangeSpec := { name := "readyPlays", fn := fun _ => fun
  | [d1, d2, d3] => { results := [.lit (.bool true)], args := [d1, d2, d3] }
  | _ => none }
def readyPlaysRow : OpenClaim := { program := "ytlicnplclfclcaa", sum := "3cd0d95dbe7768771379e6b1ad2cffb16c81d33d5578688a925e834d37320d73", func := "boatswain/boatswainlaw10.ReadyPlays", spec := "readyPlays", unfollowed := true, recurses := true, apart := false }
def ReadyPlaysSaid : Prop := readyPlaysRow.holds Try.pinned (OpenSpec.ofChange readyPlaysSpec)

/-- ITS FALSE NEIGHBOUR: 'it returns false'. Refute it at one input. -/
def readyPlaysWrong : ChangeSpec := { name := "readyPlays", fn := fun _ => fun
  | [d1, d2, d3] => { results := [.lit (.bool false)], args := [d1, d2, d3] }
  | _ => none }
def ReadyPlaysWrongFalsely : Prop := readyPlaysRow.holds Try.pinned (OpenSpec.ofChange readyPlaysWrong)

/-- 'boatswainlaw10.ReadyFalls': WHATEVER THE INPUT: true; the input reads as it did. -/
def readyFallsSpec : ChangeSpec := { name := "readyFalls", fn := fun _ => fun
  | [d1, d2] => { results := [.lit (.bool true)], args := [d1, d2] }
  | _ => none }
def readyFallsRow : OpenClaim := { program := "ytlicnplclfclcaa", sum := "3cd0d95dbe7768771379e6b1ad2cffb16c81d33d5578688a925e834d37320d73", func := "boatswain/boatswainlaw10.ReadyFalls", spec := "readyFalls", unfollowed := true, recurses := true, apart := false }
def ReadyFallsSaid : Prop := readyFallsRow.holds Try.pinned (OpenSpec.ofChange readyFallsSpec)

/-- ITS FALSE NEIGHBOUR: 'it returns false'. Refute it at one input. -/
def readyFallsWrong : ChangeSpec := { name := "readyFalls", fn := fun _ => fun
  | [d1, d2] => { results := [.lit (.bool false)], args := [d1, d2] }
  | _ => none }
def ReadyFallsWrongFalsely : Prop := readyFallsRow.holds Try.pinned (OpenSpec.ofChange readyFallsWrong)

/-- 'boatswaintop.TopSteals': WHATEVER THE INPUT: true; the input reads as it did. -/
def topStealsSpec : ChangeSpec := { name := "topSteals", fn := fun _ => fun
  | [d1, d2] => { results := [.lit (.bool true)], args := [d1, d2] }
  | _ => none }
def topStealsRow : OpenClaim := { program := "ytlicnplclfclcaa", sum := "3cd0d95dbe7768771379e6b1ad2cffb16c81d33d5578688a925e834d37320d73", func := "boatswain/boatswaintop.TopSteals", spec := "topSteals", unfollowed := true, recurses := true, apart := false }
def TopStealsSaid : Prop := topStealsRow.holds Try.pinned (OpenSpec.ofChange topStealsSpec)

/-- ITS FALSE NEIGHBOUR: 'it returns false'. Refute it at one input. -/
def topStealsWrong : ChangeSpec := { name := "topSteals", fn := fun _ => fun
  | [d1, d2] => { results := [.lit (.bool false)], args := [d1, d2] }
  | _ => none }
def TopStealsWrongFalsely : Prop := topStealsRow.holds Try.pinned (OpenSpec.ofChange topStealsWrong)

/-- 'boatswainlaw10.ReadyChanges': WHATEVER THE INPUT: true; the input reads as it did. -/
def readyChangesSpec : ChangeSpec := { name := "readyChanges", fn := fun _ => fun
  | [d1, d2, d3] => { results := [.lit (.bool true)], args := [d1, d2, d3] }
  | _ => none }
def readyChangesRow : OpenClaim := { program := "ytlicnplclfclcaa", sum := "3cd0d95dbe7768771379e6b1ad2cffb16c81d33d5578688a925e834d37320d73", func := "boatswain/boatswainlaw10.ReadyChanges", spec := "readyChanges", unfollowed := true, recurses := true, apart := false }
def ReadyChangesSaid : Prop := readyChangesRow.holds Try.pinned (OpenSpec.ofChange readyChangesSpec)

/-- ITS FALSE NEIGHBOUR: 'it returns false'. Refute it at one input. -/
def readyChangesWrong : ChangeSpec := { name := "readyChanges", fn := fun _ => fun
  | [d1, d2, d3] => { results := [.lit (.bool false)], args := [d1, d2, d3] }
  | _ => none }
def ReadyChangesWrongFalsely : Prop := readyChangesRow.holds Try.pinned (OpenSpec.ofChange readyChangesWrong)

/-- 'boatswainlaw10.ReadyFull': WHATEVER THE INPUT: true; the input reads as it did. -/
def readyFullSpec : ChangeSpec := { name := "readyFull", fn := fun _ => fun
  | [d1, d2, d3] => { results := [.lit (.bool true)], args := [d1, d2, d3] }
  | _ => none }
def readyFullRow : OpenClaim := { program := "ytlicnplclfclcaa", sum := "3cd0d95dbe7768771379e6b1ad2cffb16c81d33d5578688a925e834d37320d73", func := "boatswain/boatswainlaw10.ReadyFull", spec := "readyFull", unfollowed := true, recurses := true, apart := false }
def ReadyFullSaid : Prop := readyFullRow.holds Try.pinned (OpenSpec.ofChange readyFullSpec)

/-- ITS FALSE NEIGHBOUR: 'it returns false'. Refute it at one input. -/
def readyFullWrong : ChangeSpec := { name := "readyFull", fn := fun _ => fun
  | [d1, d2, d3] => { results := [.lit (.bool false)], args := [d1, d2, d3] }
  | _ => none }
def ReadyFullWrongFalsely : Prop := readyFullRow.holds Try.pinned (OpenSpec.ofChange readyFullWrong)

/-- 'boatswainlaw10.ReadyPuts': WHATEVER THE INPUT: true; the input reads as it did. -/
def readyPutsSpec : ChangeSpec := { name := "readyPuts", fn := fun _ => fun
  | [d1, d2, d3] => { results := [.lit (.bool true)], args := [d1, d2, d3] }
  | _ => none }
def readyPutsRow : OpenClaim := { program := "ytlicnplclfclcaa", sum := "3cd0d95dbe7768771379e6b1ad2cffb16c81d33d5578688a925e834d37320d73", func := "boatswain/boatswainlaw10.ReadyPuts", spec := "readyPuts", unfollowed := true, recurses := true, apart := false }
def ReadyPutsSaid : Prop := readyPutsRow.holds Try.pinned (OpenSpec.ofChange readyPutsSpec)

/-- ITS FALSE NEIGHBOUR: 'it returns false'. Refute it at one input. -/
def readyPutsWrong : ChangeSpec := { name := "readyPuts", fn := fun _ => fun
  | [d1, d2, d3] => { results := [.lit (.bool false)], args := [d1, d2, d3] }
  | _ => none }
def ReadyPutsWrongFalsely : Prop := readyPutsRow.holds Try.pinned (OpenSpec.ofChange readyPutsWrong)

/-- 'boatswainlaw10.ReadyForks': WHATEVER THE INPUT: true; the input reads as it did. -/
def readyForksSpec : ChangeSpec := { name := "readyForks", fn := fun _ => fun
  | [d1, d2] => { results := [.lit (.bool true)], args := [d1, d2] }
  | _ => none }
def readyForksRow : OpenClaim := { program := "ytlicnplclfclcaa", sum := "3cd0d95dbe7768771379e6b1ad2cffb16c81d33d5578688a925e834d37320d73", func := "boatswain/boatswainlaw10.ReadyForks", spec := "readyForks", unfollowed := true, recurses := true, apart := false }
def ReadyForksSaid : Prop := readyForksRow.holds Try.pinned (OpenSpec.ofChange readyForksSpec)

/-- ITS FALSE NEIGHBOUR: 'it returns false'. Refute it at one input. -/
def readyForksWrong : ChangeSpec := { name := "readyForks", fn := fun _ => fun
  | [d1, d2] => { results := [.lit (.bool false)], args := [d1, d2] }
  | _ => none }
def ReadyForksWrongFalsely : Prop := readyForksRow.holds Try.pinned (OpenSpec.ofChange readyForksWrong)

/-- 'boatswainlaw10.ReadyNone': WHATEVER THE INPUT: true; the input reads as it did. -/
def readyNoneSpec : ChangeSpec := { name := "readyNone", fn := fun _ => fun
  | [d1, d2, d3] => { results := [.lit (.bool true)], args := [d1, d2, d3] }
  | _ => none }
def readyNoneRow : OpenClaim := { program := "ytlicnplclfclcaa", sum := "3cd0d95dbe7768771379e6b1ad2cffb16c81d33d5578688a925e834d37320d73", func := "boatswain/boatswainlaw10.ReadyNone", spec := "readyNone", unfollowed := true, recurses := true, apart := false }
def ReadyNoneSaid : Prop := readyNoneRow.holds Try.pinned (OpenSpec.ofChange readyNoneSpec)

/-- ITS FALSE NEIGHBOUR: 'it returns false'. Refute it at one input. -/
def readyNoneWrong : ChangeSpec := { name := "readyNone", fn := fun _ => fun
  | [d1, d2, d3] => { results := [.lit (.bool false)], args := [d1, d2, d3] }
  | _ => none }
def ReadyNoneWrongFalsely : Prop := readyNoneRow.holds Try.pinned (OpenSpec.ofChange readyNoneWrong)

/-- 'boatswainlaw11.ProcsDraws': WHATEVER THE INPUT: true; the input reads as it did. -/
def procsDrawsSpec : ChangeSpec := { name := "procsDraws", fn := fun _ => fun
  | [d1, d2, d3] => { results := [.lit (.bool true)], args := [d1, d2, d3] }
  | _ => none }
def procsDrawsRow : OpenClaim := { program := "ytlicnplclfclcaa", sum := "3cd0d95dbe7768771379e6b1ad2cffb16c81d33d5578688a925e834d37320d73", func := "boatswain/boatswainlaw11.ProcsDraws", spec := "procsDraws", unfollowed := true, recurses := true, apart := false }
def ProcsDrawsSaid : Prop := procsDrawsRow.holds Try.pinned (OpenSpec.ofChange procsDrawsSpec)

/-- ITS FALSE NEIGHBOUR: 'it returns false'. Refute it at one input. -/
def procsDrawsWrong : ChangeSpec := { name := "procsDraws", fn := fun _ => fun
  | [d1, d2, d3] => { results := [.lit (.bool false)], args := [d1, d2, d3] }
  | _ => none }
def ProcsDrawsWrongFalsely : Prop := procsDrawsRow.holds Try.pinned (OpenSpec.ofChange procsDrawsWrong)

/-- 'boatswainlaw11.ProcsTakes': WHATEVER THE INPUT: true; the input reads as it did. -/
def procsTakesSpec : ChangeSpec := { name := "procsTakes", fn := fun _ => fun
  | [d1, d2, d3] => { results := [.lit (.bool true)], args := [d1, d2, d3] }
  | _ => none }
def procsTakesRow : OpenClaim := { program := "ytlicnplclfclcaa", sum := "3cd0d95dbe7768771379e6b1ad2cffb16c81d33d5578688a925e834d37320d73", func := "boatswain/boatswainlaw11.ProcsTakes", spec := "procsTakes", unfollowed := true, recurses := true, apart := false }
def ProcsTakesSaid : Prop := procsTakesRow.holds Try.pinned (OpenSpec.ofChange procsTakesSpec)

/-- ITS FALSE NEIGHBOUR: 'it returns false'. Refute it at one input. -/
def procsTakesWrong : ChangeSpec := { name := "procsTakes", fn := fun _ => fun
  | [d1, d2, d3] => { results := [.lit (.bool false)], args := [d1, d2, d3] }
  | _ => none }
def ProcsTakesWrongFalsely : Prop := procsTakesRow.holds Try.pinned (OpenSpec.ofChange procsTakesWrong)

/-- 'boatswaintop.TopAges': WHATEVER THE INPUT: true; the input reads as it did. -/
def topAgesSpec : ChangeSpec := { name := "topAges", fn := fun _ => fun
  | [d1, d2] => { results := [.lit (.bool true)], args := [d1, d2] }
  | _ => none }
def topAgesRow : OpenClaim := { program := "ytlicnplclfclcaa", sum := "3cd0d95dbe7768771379e6b1ad2cffb16c81d33d5578688a925e834d37320d73", func := "boatswain/boatswaintop.TopAges", spec := "topAges", unfollowed := true, recurses := true, apart := false }
def TopAgesSaid : Prop := topAgesRow.holds Try.pinned (OpenSpec.ofChange topAgesSpec)

/-- ITS FALSE NEIGHBOUR: 'it returns false'. Refute it at one input. -/
def topAgesWrong : ChangeSpec := { name := "topAges", fn := fun _ => fun
  | [d1, d2] => { results := [.lit (.bool false)], args := [d1, d2] }
  | _ => none }
def TopAgesWrongFalsely : Prop := topAgesRow.holds Try.pinned (OpenSpec.ofChange topAgesWrong)

/-- 'boatswainlaw11.ProcsBest': WHATEVER THE INPUT: true; the input reads as it did. -/
def procsBestSpec : ChangeSpec := { name := "procsBest", fn := fun _ => fun
  | [d1, d2, d3] => { results := [.lit (.bool true)], args := [d1, d2, d3] }
  | _ => none }
def procsBestRow : OpenClaim := { program := "ytlicnplclfclcaa", sum := "3cd0d95dbe7768771379e6b1ad2cffb16c81d33d5578688a925e834d37320d73", func := "boatswain/boatswainlaw11.ProcsBest", spec := "procsBest", unfollowed := true, recurses := true, apart := false }
def ProcsBestSaid : Prop := procsBestRow.holds Try.pinned (OpenSpec.ofChange procsBestSpec)

/-- ITS FALSE NEIGHBOUR: 'it returns false'. Refute it at one input. -/
def procsBestWrong : ChangeSpec := { name := "procsBest", fn := fun _ => fun
  | [d1, d2, d3] => { results := [.lit (.bool false)], args := [d1, d2, d3] }
  | _ => none }
def ProcsBestWrongFalsely : Prop := procsBestRow.holds Try.pinned (OpenSpec.ofChange procsBestWrong)

/-- 'boatswainlaw11.ProcsRoom': WHATEVER THE INPUT: true; the input reads as it did. -/
def procsRoomSpec : ChangeSpec := { name := "procsRoom", fn := fun _ => fun
  | [d1, d2, d3] => { results := [.lit (.bool true)], args := [d1, d2, d3] }
  | _ => none }
def procsRoomRow : OpenClaim := { program := "ytlicnplclfclcaa", sum := "3cd0d95dbe7768771379e6b1ad2cffb16c81d33d5578688a925e834d37320d73", func := "boatswain/boatswainlaw11.ProcsRoom", spec := "procsRoom", unfollowed := true, recurses := true, apart := false }
def ProcsRoomSaid : Prop := procsRoomRow.holds Try.pinned (OpenSpec.ofChange procsRoomSpec)

/-- ITS FALSE NEIGHBOUR: 'it returns false'. Refute it at one input. -/
def procsRoomWrong : ChangeSpec := { name := "procsRoom", fn := fun _ => fun
  | [d1, d2, d3] => { results := [.lit (.bool false)], args := [d1, d2, d3] }
  | _ => none }
def ProcsRoomWrongFalsely : Prop := procsRoomRow.holds Try.pinned (OpenSpec.ofChange procsRoomWrong)

/-- 'boatswainlaw11.ProcsPlays': WHATEVER THE INPUT: true; the input reads as it did. -/
def procsPlaysSpec : ChangeSpec := { name := "procsPlays", fn := fun _ => fun
  | [d1, d2, d3] => { results := [.lit (.bool true)], args := [d1, d2, d3] }
  | _ => none }
def procsPlaysRow : OpenClaim := { program := "ytlicnplclfclcaa", sum := "3cd0d95dbe7768771379e6b1ad2cffb16c81d33d5578688a925e834d37320d73", func := "boatswain/boatswainlaw11.ProcsPlays", spec := "procsPlays", unfollowed := true, recurses := true, apart := false }
def ProcsPlaysSaid : Prop := procsPlaysRow.holds Try.pinned (OpenSpec.ofChange procsPlaysSpec)

/-- ITS FALSE NEIGHBOUR: 'it returns false'. Refute it at one input. -/
def procsPlaysWrong : ChangeSpec := { name := "procsPlays", fn := fun _ => fun
  | [d1, d2, d3] => { results := [.lit (.bool false)], args := [d1, d2, d3] }
  | _ => none }
def ProcsPlaysWrongFalsely : Prop := procsPlaysRow.holds Try.pinned (OpenSpec.ofChange procsPlaysWrong)

/-- 'boatswainlaw11.ProcsOne': WHATEVER THE INPUT: true; the input reads as it did. -/
def procsOneSpec : ChangeSpec := { name := "procsOne", fn := fun _ => fun
  | [d1, d2] => { results := [.lit (.bool true)], args := [d1, d2] }
  | _ => none }
def procsOneRow : OpenClaim := { program := "ytlicnplclfclcaa", sum := "3cd0d95dbe7768771379e6b1ad2cffb16c81d33d5578688a925e834d37320d73", func := "boatswain/boatswainlaw11.ProcsOne", spec := "procsOne", unfollowed := true, recurses := true, apart := false }
def ProcsOneSaid : Prop := procsOneRow.holds Try.pinned (OpenSpec.ofChange procsOneSpec)

/-- ITS FALSE NEIGHBOUR: 'it returns false'. Refute it at one input. -/
def procsOneWrong : ChangeSpec := { name := "procsOne", fn := fun _ => fun
  | [d1, d2] => { results := [.lit (.bool false)], args := [d1, d2] }
  | _ => none }
def ProcsOneWrongFalsely : Prop := procsOneRow.holds Try.pinned (OpenSpec.ofChange procsOneWrong)

/-- 'boatswainlaw11.ProcsChanges': WHATEVER THE INPUT: true; the input reads as it did. -/
def procsChangesSpec : ChangeSpec := { name := "procsChanges", fn := fun _ => fun
  | [d1, d2, d3] => { results := [.lit (.bool true)], args := [d1, d2, d3] }
  | _ => none }
def procsChangesRow : OpenClaim := { program := "ytlicnplclfclcaa", sum := "3cd0d95dbe7768771379e6b1ad2cffb16c81d33d5578688a925e834d37320d73", func := "boatswain/boatswainlaw11.ProcsChanges", spec := "procsChanges", unfollowed := true, recurses := true, apart := false }
def ProcsChangesSaid : Prop := procsChangesRow.holds Try.pinned (OpenSpec.ofChange procsChangesSpec)

/-- ITS FALSE NEIGHBOUR: 'it returns false'. Refute it at one input. -/
def procsChangesWrong : ChangeSpec := { name := "procsChanges", fn := fun _ => fun
  | [d1, d2, d3] => { results := [.lit (.bool false)], args := [d1, d2, d3] }
  | _ => none }
def ProcsChangesWrongFalsely : Prop := procsChangesRow.holds Try.pinned (OpenSpec.ofChange procsChangesWrong)

/-- 'boatswainlaw11.ProcsForks': WHATEVER THE INPUT: true; the input reads as it did. -/
def procsForksSpec : ChangeSpec := { name := "procsForks", fn := fun _ => fun
  | [d1, d2] => { results := [.lit (.bool true)], args := [d1, d2] }
  | _ => none }
def procsForksRow : OpenClaim := { program := "ytlicnplclfclcaa", sum := "3cd0d95dbe7768771379e6b1ad2cffb16c81d33d5578688a925e834d37320d73", func := "boatswain/boatswainlaw11.ProcsForks", spec := "procsForks", unfollowed := true, recurses := true, apart := false }
def ProcsForksSaid : Prop := procsForksRow.holds Try.pinned (OpenSpec.ofChange procsForksSpec)

/-- ITS FALSE NEIGHBOUR: 'it returns false'. Refute it at one input. -/
def procsForksWrong : ChangeSpec := { name := "procsForks", fn := fun _ => fun
  | [d1, d2] => { results := [.lit (.bool false)], args := [d1, d2] }
  | _ => none }
def ProcsForksWrongFalsely : Prop := procsForksRow.holds Try.pinned (OpenSpec.ofChange procsForksWrong)

/-- 'boatswainlaw11.ProcsNone': WHATEVER THE INPUT: true; the input reads as it did. -/
def procsNoneSpec : ChangeSpec := { name := "procsNone", fn := fun _ => fun
  | [d1, d2] => { results := [.lit (.bool true)], args := [d1, d2] }
  | _ => none }
def procsNoneRow : OpenClaim := { program := "ytlicnplclfclcaa", sum := "3cd0d95dbe7768771379e6b1ad2cffb16c81d33d5578688a925e834d37320d73", func := "boatswain/boatswainlaw11.ProcsNone", spec := "procsNone", unfollowed := true, recurses := true, apart := false }
def ProcsNoneSaid : Prop := procsNoneRow.holds Try.pinned (OpenSpec.ofChange procsNoneSpec)

/-- ITS FALSE NEIGHBOUR: 'it returns false'. Refute it at one input. -/
def procsNoneWrong : ChangeSpec := { name := "procsNone", fn := fun _ => fun
  | [d1, d2] => { results := [.lit (.bool false)], args := [d1, d2] }
  | _ => none }
def ProcsNoneWrongFalsely : Prop := procsNoneRow.holds Try.pinned (OpenSpec.ofChange procsNoneWrong)

/- THE SECOND FORM. 'bulk': how many values and letters a reading holds, each counted each time it is reached (what is shared counts as often as it is met; a slice's spare places count too). A statement '..UptoSaid' is the law's where the arguments, and the package variables that the reading takes, are together of bulk at most 1048576: NARROWER than '..Said'. Prove '..Said' where nothing that the law and all that it calls make is longer than what came in: it says more and counts as full. Else prove '..UptoSaid'. A law counts once. -/
mutual
def uptoBulk {H : Type} : DataW H → Nat
  | .lit (.string bytes) => bytes.length + 1
  | .lit _ => 1
  | .nil => 1
  | .ptr d => uptoBulk d + 1
  | .slice elems spare => uptoBulkAll elems + uptoBulkAll spare + 1
  | .agg parts => uptoBulkAll parts + 1
  | .iface _ d => uptoBulk d + 1
  | .map entries => uptoBulkEntries entries + 1
  | .held _ => 1
def uptoBulkAll {H : Type} : List (DataW H) → Nat
  | [] => 0
  | d :: r => uptoBulk d + uptoBulkAll r
def uptoBulkEntries {H : Type} : List (Lit × DataW H) → Nat
  | [] => 0
  | x :: r => uptoBulkEntry x + uptoBulkEntries r
def uptoBulkEntry {H : Type} : Lit × DataW H → Nat
  | (.string bytes, d) => bytes.length + uptoBulk d + 1
  | (_, d) => uptoBulk d + 1
 end
def uptoSmall : (H : Type) → List (DataW H) → Bool := fun _ ds => decide (uptoBulkAll ds ≤ 1048576)
def OpenSpec.upto (s : _root_.Go.ChangeSpec) : _root_.Go.OpenSpec := { _root_.Go.OpenSpec.ofChange s with cond := some uptoSmall }

/-- 'boatswainlaw03.PheapDeletes', WHERE WHAT IT READS IS OF BULK AT MOST 1048576: true; the input reads as it did. -/
def pheapDeletesUptoRow : OpenClaim := { program := "ytlicnplclfclcaa", sum := "3cd0d95dbe7768771379e6b1ad2cffb16c81d33d5578688a925e834d37320d73", func := "boatswain/boatswainlaw03.PheapDeletes", spec := "pheapDeletes", unfollowed := true, recurses := true, apart := false, narrowed := true }
def PheapDeletesUptoSaid : Prop := pheapDeletesUptoRow.holds Try.pinned (OpenSpec.upto pheapDeletesSpec)

/-- 'boatswainlaw03.PheapPuts', WHERE WHAT IT READS IS OF BULK AT MOST 1048576: true; the input reads as it did. -/
def pheapPutsUptoRow : OpenClaim := { program := "ytlicnplclfclcaa", sum := "3cd0d95dbe7768771379e6b1ad2cffb16c81d33d5578688a925e834d37320d73", func := "boatswain/boatswainlaw03.PheapPuts", spec := "pheapPuts", unfollowed := true, recurses := true, apart := false, narrowed := true }
def PheapPutsUptoSaid : Prop := pheapPutsUptoRow.holds Try.pinned (OpenSpec.upto pheapPutsSpec)

/-- 'boatswainlaw03.PheapPlays', WHERE WHAT IT READS IS OF BULK AT MOST 1048576: true; the input reads as it did. -/
def pheapPlaysUptoRow : OpenClaim := { program := "ytlicnplclfclcaa", sum := "3cd0d95dbe7768771379e6b1ad2cffb16c81d33d5578688a925e834d37320d73", func := "boatswain/boatswainlaw03.PheapPlays", spec := "pheapPlays", unfollowed := true, recurses := true, apart := false, narrowed := true }
def PheapPlaysUptoSaid : Prop := pheapPlaysUptoRow.holds Try.pinned (OpenSpec.upto pheapPlaysSpec)

/-- 'boatswainlaw03.PheapRises', WHERE WHAT IT READS IS OF BULK AT MOST 1048576: true; the input reads as it did. -/
def pheapRisesUptoRow : OpenClaim := { program := "ytlicnplclfclcaa", sum := "3cd0d95dbe7768771379e6b1ad2cffb16c81d33d5578688a925e834d37320d73", func := "boatswain/boatswainlaw03.PheapRises", spec := "pheapRises", unfollowed := true, recurses := true, apart := false, narrowed := true }
def PheapRisesUptoSaid : Prop := pheapRisesUptoRow.holds Try.pinned (OpenSpec.upto pheapRisesSpec)

/-- 'boatswainlaw03.PheapChanges', WHERE WHAT IT READS IS OF BULK AT MOST 1048576: true; the input reads as it did. -/
def pheapChangesUptoRow : OpenClaim := { program := "ytlicnplclfclcaa", sum := "3cd0d95dbe7768771379e6b1ad2cffb16c81d33d5578688a925e834d37320d73", func := "boatswain/boatswainlaw03.PheapChanges", spec := "pheapChanges", unfollowed := true, recurses := true, apart := false, narrowed := true }
def PheapChangesUptoSaid : Prop := pheapChangesUptoRow.holds Try.pinned (OpenSpec.upto pheapChangesSpec)

/-- 'boatswainlaw03.PheapForks', WHERE WHAT IT READS IS OF BULK AT MOST 1048576: true; the input reads as it did. -/
def pheapForksUptoRow : OpenClaim := { program := "ytlicnplclfclcaa", sum := "3cd0d95dbe7768771379e6b1ad2cffb16c81d33d5578688a925e834d37320d73", func := "boatswain/boatswainlaw03.PheapForks", spec := "pheapForks", unfollowed := true, recurses := true, apart := false, narrowed := true }
def PheapForksUptoSaid : Prop := pheapForksUptoRow.holds Try.pinned (OpenSpec.upto pheapForksSpec)

/-- 'boatswainlaw03.PheapNone', WHERE WHAT IT READS IS OF BULK AT MOST 1048576: true; the input reads as it did. -/
def pheapNoneUptoRow : OpenClaim := { program := "ytlicnplclfclcaa", sum := "3cd0d95dbe7768771379e6b1ad2cffb16c81d33d5578688a925e834d37320d73", func := "boatswain/boatswainlaw03.PheapNone", spec := "pheapNone", unfollowed := true, recurses := true, apart := false, narrowed := true }
def PheapNoneUptoSaid : Prop := pheapNoneUptoRow.holds Try.pinned (OpenSpec.upto pheapNoneSpec)

/-- 'boatswainlaw10.ReadyPlays', WHERE WHAT IT READS IS OF BULK AT MOST 1048576: true; the input reads as it did. -/
def readyPlaysUptoRow : OpenClaim := { program := "ytlicnplclfclcaa", sum := "3cd0d95dbe7768771379e6b1ad2cffb16c81d33d5578688a925e834d37320d73", func := "boatswain/boatswainlaw10.ReadyPlays", spec := "readyPlays", unfollowed := true, recurses := true, apart := false, narrowed := true }
def ReadyPlaysUptoSaid : Prop := readyPlaysUptoRow.holds Try.pinned (OpenSpec.upto readyPlaysSpec)

/-- 'boatswainlaw10.ReadyFalls', WHERE WHAT IT READS IS OF BULK AT MOST 1048576: true; the input reads as it did. -/
def readyFallsUptoRow : OpenClaim := { program := "ytlicnplclfclcaa", sum := "3cd0d95dbe7768771379e6b1ad2cffb16c81d33d5578688a925e834d37320d73", func := "boatswain/boatswainlaw10.ReadyFalls", spec := "readyFalls", unfollowed := true, recurses := true, apart := false, narrowed := true }
def ReadyFallsUptoSaid : Prop := readyFallsUptoRow.holds Try.pinned (OpenSpec.upto readyFallsSpec)

/-- 'boatswaintop.TopSteals', WHERE WHAT IT READS IS OF BULK AT MOST 1048576: true; the input reads as it did. -/
def topStealsUptoRow : OpenClaim := { program := "ytlicnplclfclcaa", sum := "3cd0d95dbe7768771379e6b1ad2cffb16c81d33d5578688a925e834d37320d73", func := "boatswain/boatswaintop.TopSteals", spec := "topSteals", unfollowed := true, recurses := true, apart := false, narrowed := true }
def TopStealsUptoSaid : Prop := topStealsUptoRow.holds Try.pinned (OpenSpec.upto topStealsSpec)

/-- 'boatswainlaw10.ReadyChanges', WHERE WHAT IT READS IS OF BULK AT MOST 1048576: true; the input reads as it did. -/
def readyChangesUptoRow : OpenClaim := { program := "ytlicnplclfclcaa", sum := "3cd0d95dbe7768771379e6b1ad2cffb16c81d33d5578688a925e834d37320d73", func := "boatswain/boatswainlaw10.ReadyChanges", spec := "readyChanges", unfollowed := true, recurses := true, apart := false, narrowed := true }
def ReadyChangesUptoSaid : Prop := readyChangesUptoRow.holds Try.pinned (OpenSpec.upto readyChangesSpec)

/-- 'boatswainlaw10.ReadyFull', WHERE WHAT IT READS IS OF BULK AT MOST 1048576: true; the input reads as it did. -/
def readyFullUptoRow : OpenClaim := { program := "ytlicnplclfclcaa", sum := "3cd0d95dbe7768771379e6b1ad2cffb16c81d33d5578688a925e834d37320d73", func := "boatswain/boatswainlaw10.ReadyFull", spec := "readyFull", unfollowed := true, recurses := true, apart := false, narrowed := true }
def ReadyFullUptoSaid : Prop := readyFullUptoRow.holds Try.pinned (OpenSpec.upto readyFullSpec)

/-- 'boatswainlaw10.ReadyPuts', WHERE WHAT IT READS IS OF BULK AT MOST 1048576: true; the input reads as it did. -/
def readyPutsUptoRow : OpenClaim := { program := "ytlicnplclfclcaa", sum := "3cd0d95dbe7768771379e6b1ad2cffb16c81d33d5578688a925e834d37320d73", func := "boatswain/boatswainlaw10.ReadyPuts", spec := "readyPuts", unfollowed := true, recurses := true, apart := false, narrowed := true }
def ReadyPutsUptoSaid : Prop := readyPutsUptoRow.holds Try.pinned (OpenSpec.upto readyPutsSpec)

/-- 'boatswainlaw10.ReadyForks', WHERE WHAT IT READS IS OF BULK AT MOST 1048576: true; the input reads as it did. -/
def readyForksUptoRow : OpenClaim := { program := "ytlicnplclfclcaa", sum := "3cd0d95dbe7768771379e6b1ad2cffb16c81d33d5578688a925e834d37320d73", func := "boatswain/boatswainlaw10.ReadyForks", spec := "readyForks", unfollowed := true, recurses := true, apart := false, narrowed := true }
def ReadyForksUptoSaid : Prop := readyForksUptoRow.holds Try.pinned (OpenSpec.upto readyForksSpec)

/-- 'boatswainlaw10.ReadyNone', WHERE WHAT IT READS IS OF BULK AT MOST 1048576: true; the input reads as it did. -/
def readyNoneUptoRow : OpenClaim := { program := "ytlicnplclfclcaa", sum := "3cd0d95dbe7768771379e6b1ad2cffb16c81d33d5578688a925e834d37320d73", func := "boatswain/boatswainlaw10.ReadyNone", spec := "readyNone", unfollowed := true, recurses := true, apart := false, narrowed := true }
def ReadyNoneUptoSaid : Prop := readyNoneUptoRow.holds Try.pinned (OpenSpec.upto readyNoneSpec)

/-- 'boatswainlaw11.ProcsDraws', WHERE WHAT IT READS IS OF BULK AT MOST 1048576: true; the input reads as it did. -/
def procsDrawsUptoRow : OpenClaim := { program := "ytlicnplclfclcaa", sum := "3cd0d95dbe7768771379e6b1ad2cffb16c81d33d5578688a925e834d37320d73", func := "boatswain/boatswainlaw11.ProcsDraws", spec := "procsDraws", unfollowed := true, recurses := true, apart := false, narrowed := true }
def ProcsDrawsUptoSaid : Prop := procsDrawsUptoRow.holds Try.pinned (OpenSpec.upto procsDrawsSpec)

/-- 'boatswainlaw11.ProcsTakes', WHERE WHAT IT READS IS OF BULK AT MOST 1048576: true; the input reads as it did. -/
def procsTakesUptoRow : OpenClaim := { program := "ytlicnplclfclcaa", sum := "3cd0d95dbe7768771379e6b1ad2cffb16c81d33d5578688a925e834d37320d73", func := "boatswain/boatswainlaw11.ProcsTakes", spec := "procsTakes", unfollowed := true, recurses := true, apart := false, narrowed := true }
def ProcsTakesUptoSaid : Prop := procsTakesUptoRow.holds Try.pinned (OpenSpec.upto procsTakesSpec)

/-- 'boatswaintop.TopAges', WHERE WHAT IT READS IS OF BULK AT MOST 1048576: true; the input reads as it did. -/
def topAgesUptoRow : OpenClaim := { program := "ytlicnplclfclcaa", sum := "3cd0d95dbe7768771379e6b1ad2cffb16c81d33d5578688a925e834d37320d73", func := "boatswain/boatswaintop.TopAges", spec := "topAges", unfollowed := true, recurses := true, apart := false, narrowed := true }
def TopAgesUptoSaid : Prop := topAgesUptoRow.holds Try.pinned (OpenSpec.upto topAgesSpec)

/-- 'boatswainlaw11.ProcsBest', WHERE WHAT IT READS IS OF BULK AT MOST 1048576: true; the input reads as it did. -/
def procsBestUptoRow : OpenClaim := { program := "ytlicnplclfclcaa", sum := "3cd0d95dbe7768771379e6b1ad2cffb16c81d33d5578688a925e834d37320d73", func := "boatswain/boatswainlaw11.ProcsBest", spec := "procsBest", unfollowed := true, recurses := true, apart := false, narrowed := true }
def ProcsBestUptoSaid : Prop := procsBestUptoRow.holds Try.pinned (OpenSpec.upto procsBestSpec)

/-- 'boatswainlaw11.ProcsRoom', WHERE WHAT IT READS IS OF BULK AT MOST 1048576: true; the input reads as it did. -/
def procsRoomUptoRow : OpenClaim := { program := "ytlicnplclfclcaa", sum := "3cd0d95dbe7768771379e6b1ad2cffb16c81d33d5578688a925e834d37320d73", func := "boatswain/boatswainlaw11.ProcsRoom", spec := "procsRoom", unfollowed := true, recurses := true, apart := false, narrowed := true }
def ProcsRoomUptoSaid : Prop := procsRoomUptoRow.holds Try.pinned (OpenSpec.upto procsRoomSpec)

/-- 'boatswainlaw11.ProcsPlays', WHERE WHAT IT READS IS OF BULK AT MOST 1048576: true; the input reads as it did. -/
def procsPlaysUptoRow : OpenClaim := { program := "ytlicnplclfclcaa", sum := "3cd0d95dbe7768771379e6b1ad2cffb16c81d33d5578688a925e834d37320d73", func := "boatswain/boatswainlaw11.ProcsPlays", spec := "procsPlays", unfollowed := true, recurses := true, apart := false, narrowed := true }
def ProcsPlaysUptoSaid : Prop := procsPlaysUptoRow.holds Try.pinned (OpenSpec.upto procsPlaysSpec)

/-- 'boatswainlaw11.ProcsOne', WHERE WHAT IT READS IS OF BULK AT MOST 1048576: true; the input reads as it did. -/
def procsOneUptoRow : OpenClaim := { program := "ytlicnplclfclcaa", sum := "3cd0d95dbe7768771379e6b1ad2cffb16c81d33d5578688a925e834d37320d73", func := "boatswain/boatswainlaw11.ProcsOne", spec := "procsOne", unfollowed := true, recurses := true, apart := false, narrowed := true }
def ProcsOneUptoSaid : Prop := procsOneUptoRow.holds Try.pinned (OpenSpec.upto procsOneSpec)

/-- 'boatswainlaw11.ProcsChanges', WHERE WHAT IT READS IS OF BULK AT MOST 1048576: true; the input reads as it did. -/
def procsChangesUptoRow : OpenClaim := { program := "ytlicnplclfclcaa", sum := "3cd0d95dbe7768771379e6b1ad2cffb16c81d33d5578688a925e834d37320d73", func := "boatswain/boatswainlaw11.ProcsChanges", spec := "procsChanges", unfollowed := true, recurses := true, apart := false, narrowed := true }
def ProcsChangesUptoSaid : Prop := procsChangesUptoRow.holds Try.pinned (OpenSpec.upto procsChangesSpec)

/-- 'boatswainlaw11.ProcsForks', WHERE WHAT IT READS IS OF BULK AT MOST 1048576: true; the input reads as it did. -/
def procsForksUptoRow : OpenClaim := { program := "ytlicnplclfclcaa", sum := "3cd0d95dbe7768771379e6b1ad2cffb16c81d33d5578688a925e834d37320d73", func := "boatswain/boatswainlaw11.ProcsForks", spec := "procsForks", unfollowed := true, recurses := true, apart := false, narrowed := true }
def ProcsForksUptoSaid : Prop := procsForksUptoRow.holds Try.pinned (OpenSpec.upto procsForksSpec)

/-- 'boatswainlaw11.ProcsNone', WHERE WHAT IT READS IS OF BULK AT MOST 1048576: true; the input reads as it did. -/
def procsNoneUptoRow : OpenClaim := { program := "ytlicnplclfclcaa", sum := "3cd0d95dbe7768771379e6b1ad2cffb16c81d33d5578688a925e834d37320d73", func := "boatswain/boatswainlaw11.ProcsNone", spec := "procsNone", unfollowed := true, recurses := true, apart := false, narrowed := true }
def ProcsNoneUptoSaid : Prop := procsNoneUptoRow.holds Try.pinned (OpenSpec.upto procsNoneSpec)

end Rows
end Go.Proofs.Ytlicnplclfclcaa
