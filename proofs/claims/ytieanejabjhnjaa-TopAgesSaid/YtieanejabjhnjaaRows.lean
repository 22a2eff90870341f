/-
  No cell of these rows narrows 'for every input' (looked for: loops, veiled, ifaces, maps, wideKeys, modest, calm, conditions, laid).
  DERIVED. THE GIVEN ROWS OF THIS SEAT. 11 by the template 'for every input the law returns true; each argument reads behind the call as it read before'; 0 by the template 'total and deterministic' (their statements: YtieanejabjhnjaaTotals.lean).
  GIVEN WITH THE SEED: the statements are not yours to turn. If you find one false, say at which input.
  Laid BY PROGRAM, IN A SANDBOX (cutbox-rows.mjs): the forced cells as the released guide's own fill.sh prints them over the translation 78804d77693f4d97… (all of the seat's roots in one cut). By AI agents, Wed Nov 11 2026. No macro, syntax, notation, axiom, sorry.
-/
import Derived.Test.YtieanejabjhnjaaChecked
import GoSem.Claim
import GoSem.ClaimJoined
import GoSem.ClaimMapViews
import Derived.JoinedTies
import Derived.KernelRfl
namespace Go.Proofs.Ytieanejabjhnjaa
/- THE CELL 'sum', in the pinned program and in every row, IS THE sha256 OF THE DUMP (.gsa) THAT YtieanejabjhnjaaProg.lean LOADS. Nothing in Lean hashes anything: it is a label: what it is worth is what the hold of that sum in a sandbox is worth. -/
noncomputable def Try.pinned : Pinned := { name := "ytieanejabjhnjaa", sum := "78804d77693f4d97b12fd8e1bfc8288a635bc2bab0d1aa860bf0d0b875ff2618", checked := Try.checked }
namespace Rows
def none {H : Type} : Left H := { results := [], args := [] }

/-- 'boatswaintop.TopSteals': WHATEVER THE INPUT: true; the input reads as it did. -/
def topStealsSpec : ChangeSpec := { name := "topSteals", fn := fun _ => fun
  | [d1, d2] => { results := [.lit (.bool true)], args := [d1, d2] }
  | _ => none }
def topStealsRow : OpenClaim := { program := "ytieanejabjhnjaa", sum := "78804d77693f4d97b12fd8e1bfc8288a635bc2bab0d1aa860bf0d0b875ff2618", func := "boatswain/boatswaintop.TopSteals", spec := "topSteals", unfollowed := true, recurses := true, apart := false }
def TopStealsSaid : Prop := topStealsRow.holds Try.pinned (OpenSpec.ofChange topStealsSpec)

/-- ITS FALSE NEIGHBOUR: 'it returns false'. Refute it at one input. -/
def topStealsWrong : ChangeSpec := { name := "topSteals", fn := fun _ => fun
  | [d1, d2] => { results := [.lit (.bool false)], args := [d1, d2] }
  | _ => none }
def TopStealsWrongFalsely : Prop := topStealsRow.holds Try.pinned (OpenSpec.ofChange topStealsWrong)

/-- 'boatswainlaw11.ProcsDraws': WHATEVER THE INPUT: true; the input reads as it did. -/
def procsDrawsSpec : ChangeSpec := { name := "procsDraws", fn := fun _ => fun
  | [d1, d2, d3] => { results := [.lit (.bool true)], args := [d1, d2, d3] }
  | _ => none }
def procsDrawsRow : OpenClaim := { program := "ytieanejabjhnjaa", sum := "78804d77693f4d97b12fd8e1bfc8288a635bc2bab0d1aa860bf0d0b875ff2618", func := "boatswain/boatswainlaw11.ProcsDraws", spec := "procsDraws", unfollowed := true, recurses := true, apart := false }
def ProcsDrawsSaid : Prop := procsDrawsRow.holds Try.pinned (OpenSpec.ofChange procsDrawsSpec)

/-- ITS FALSE NEIGHBOUR: 'it returns false'. Refute it at one input. -/
def procsDrawsWrong : ChangeSpec := { name := "procsDraws", fn := fun _ => fun
  | [d1, d2, d3] => { results := [.lit (.bool false)], args := [d1, d2, d3] }
  | _ => none }
def ProcsDrawsWrongFalsely : Prop := procsDrawsRow.holds Try.pinned (OpenSpec.ofChange procsDrawsWrong)

/-- 'boatswainlaw11.ProcsTakes': WHATEVER THE INPUT: true; the input reads as it did. -/
def procsTakesSpec : ChangeSpec := { name := "procsTakes", fn := fun _ => fun
  | [d1, d2, d3] => { results := [.lit (.bool true)], args := [d1, d2, d3] }
  | _ => none }
def procsTakesRow : OpenClaim := { program := "ytieanejabjhnjaa", sum := "78804d77693f4d97b12fd8e1bfc8288a635bc2bab0d1aa860bf0d0b875ff2618", func := "boatswain/boatswainlaw11.ProcsTakes", spec := "procsTakes", unfollowed := true, recurses := true, apart := false }
def ProcsTakesSaid : Prop := procsTakesRow.holds Try.pinned (OpenSpec.ofChange procsTakesSpec)

/-- ITS FALSE NEIGHBOUR: 'it returns false'. Refute it at one input. -/
def procsTakesWrong : ChangeSpec := { name := "procsTakes", fn := fun _ => fun
  | [d1, d2, d3] => { results := [.lit (.bool false)], args := [d1, d2, d3] }
  | _ => none }
def ProcsTakesWrongFalsely : Prop := procsTakesRow.holds Try.pinned (OpenSpec.ofChange procsTakesWrong)

/-- 'boatswaintop.TopAges': WHATEVER THE INPUT: true; the input reads as it did. -/
def topAgesSpec : ChangeSpec := { name := "topAges", fn := fun _ => fun
  | [d1, d2] => { results := [.lit (.bool true)], args := [d1, d2] }
  | _ => none }
def topAgesRow : OpenClaim := { program := "ytieanejabjhnjaa", sum := "78804d77693f4d97b12fd8e1bfc8288a635bc2bab0d1aa860bf0d0b875ff2618", func := "boatswain/boatswaintop.TopAges", spec := "topAges", unfollowed := true, recurses := true, apart := false }
def TopAgesSaid : Prop := topAgesRow.holds Try.pinned (OpenSpec.ofChange topAgesSpec)

/-- ITS FALSE NEIGHBOUR: 'it returns false'. Refute it at one input. -/
def topAgesWrong : ChangeSpec := { name := "topAges", fn := fun _ => fun
  | [d1, d2] => { results := [.lit (.bool false)], args := [d1, d2] }
  | _ => none }
def TopAgesWrongFalsely : Prop := topAgesRow.holds Try.pinned (OpenSpec.ofChange topAgesWrong)

/-- 'boatswainlaw11.ProcsBest': WHATEVER THE INPUT: true; the input reads as it did. -/
def procsBestSpec : ChangeSpec := { name := "procsBest", fn := fun _ => fun
  | [d1, d2, d3] => { results := [.lit (.bool true)], args := [d1, d2, d3] }
  | _ => none }
def procsBestRow : OpenClaim := { program := "ytieanejabjhnjaa", sum := "78804d77693f4d97b12fd8e1bfc8288a635bc2bab0d1aa860bf0d0b875ff2618", func := "boatswain/boatswainlaw11.ProcsBest", spec := "procsBest", unfollowed := true, recurses := true, apart := false }
def ProcsBestSaid : Prop := procsBestRow.holds Try.pinned (OpenSpec.ofChange procsBestSpec)

/-- ITS FALSE NEIGHBOUR: 'it returns false'. Refute it at one input. -/
def procsBestWrong : ChangeSpec := { name := "procsBest", fn := fun _ => fun
  | [d1, d2, d3] => { results := [.lit (.bool false)], args := [d1, d2, d3] }
  | _ => none }
def ProcsBestWrongFalsely : Prop := procsBestRow.holds Try.pinned (OpenSpec.ofChange procsBestWrong)

/-- 'boatswainlaw11.ProcsRoom': WHATEVER THE INPUT: true; the input reads as it did. -/
def procsRoomSpec : ChangeSpec := { name := "procsRoom", fn := fun _ => fun
  | [d1, d2, d3] => { results := [.lit (.bool true)], args := [d1, d2, d3] }
  | _ => none }
def procsRoomRow : OpenClaim := { program := "ytieanejabjhnjaa", sum := "78804d77693f4d97b12fd8e1bfc8288a635bc2bab0d1aa860bf0d0b875ff2618", func := "boatswain/boatswainlaw11.ProcsRoom", spec := "procsRoom", unfollowed := true, recurses := true, apart := false }
def ProcsRoomSaid : Prop := procsRoomRow.holds Try.pinned (OpenSpec.ofChange procsRoomSpec)

/-- ITS FALSE NEIGHBOUR: 'it returns false'. Refute it at one input. -/
def procsRoomWrong : ChangeSpec := { name := "procsRoom", fn := fun _ => fun
  | [d1, d2, d3] => { results := [.lit (.bool false)], args := [d1, d2, d3] }
  | _ => none }
def ProcsRoomWrongFalsely : Prop := procsRoomRow.holds Try.pinned (OpenSpec.ofChange procsRoomWrong)

/-- 'boatswainlaw11.ProcsPlays': WHATEVER THE INPUT: true; the input reads as it did. -/
def procsPlaysSpec : ChangeSpec := { name := "procsPlays", fn := fun _ => fun
  | [d1, d2, d3] => { results := [.lit (.bool true)], args := [d1, d2, d3] }
  | _ => none }
def procsPlaysRow : OpenClaim := { program := "ytieanejabjhnjaa", sum := "78804d77693f4d97b12fd8e1bfc8288a635bc2bab0d1aa860bf0d0b875ff2618", func := "boatswain/boatswainlaw11.ProcsPlays", spec := "procsPlays", unfollowed := true, recurses := true, apart := false }
def ProcsPlaysSaid : Prop := procsPlaysRow.holds Try.pinned (OpenSpec.ofChange procsPlaysSpec)

/-- ITS FALSE NEIGHBOUR: 'it returns false'. Refute it at one input. -/
def procsPlaysWrong : ChangeSpec := { name := "procsPlays", fn := fun _ => fun
  | [d1, d2, d3] => { results := [.lit (.bool false)], args := [d1, d2, d3] }
  | _ => none }
def ProcsPlaysWrongFalsely : Prop := procsPlaysRow.holds Try.pinned (OpenSpec.ofChange procsPlaysWrong)

/-- 'boatswainlaw11.ProcsOne': WHATEVER THE INPUT: true; the input reads as it did. -/
def procsOneSpec : ChangeSpec := { name := "procsOne", fn := fun _ => fun
  | [d1, d2] => { results := [.lit (.bool true)], args := [d1, d2] }
  | _ => none }
def procsOneRow : OpenClaim := { program := "ytieanejabjhnjaa", sum := "78804d77693f4d97b12fd8e1bfc8288a635bc2bab0d1aa860bf0d0b875ff2618", func := "boatswain/boatswainlaw11.ProcsOne", spec := "procsOne", unfollowed := true, recurses := true, apart := false }
def ProcsOneSaid : Prop := procsOneRow.holds Try.pinned (OpenSpec.ofChange procsOneSpec)

/-- ITS FALSE NEIGHBOUR: 'it returns false'. Refute it at one input. -/
def procsOneWrong : ChangeSpec := { name := "procsOne", fn := fun _ => fun
  | [d1, d2] => { results := [.lit (.bool false)], args := [d1, d2] }
  | _ => none }
def ProcsOneWrongFalsely : Prop := procsOneRow.holds Try.pinned (OpenSpec.ofChange procsOneWrong)

/-- 'boatswainlaw11.ProcsChanges': WHATEVER THE INPUT: true; the input reads as it did. -/
def procsChangesSpec : ChangeSpec := { name := "procsChanges", fn := fun _ => fun
  | [d1, d2, d3] => { results := [.lit (.bool true)], args := [d1, d2, d3] }
  | _ => none }
def procsChangesRow : OpenClaim := { program := "ytieanejabjhnjaa", sum := "78804d77693f4d97b12fd8e1bfc8288a635bc2bab0d1aa860bf0d0b875ff2618", func := "boatswain/boatswainlaw11.ProcsChanges", spec := "procsChanges", unfollowed := true, recurses := true, apart := false }
def ProcsChangesSaid : Prop := procsChangesRow.holds Try.pinned (OpenSpec.ofChange procsChangesSpec)

/-- ITS FALSE NEIGHBOUR: 'it returns false'. Refute it at one input. -/
def procsChangesWrong : ChangeSpec := { name := "procsChanges", fn := fun _ => fun
  | [d1, d2, d3] => { results := [.lit (.bool false)], args := [d1, d2, d3] }
  | _ => none }
def ProcsChangesWrongFalsely : Prop := procsChangesRow.holds Try.pinned (OpenSpec.ofChange procsChangesWrong)

/-- 'boatswainlaw11.ProcsForks': WHATEVER THE INPUT: true; the input reads as it did. -/
def procsForksSpec : ChangeSpec := { name := "procsForks", fn := fun _ => fun
  | [d1, d2] => { results := [.lit (.bool true)], args := [d1, d2] }
  | _ => none }
def procsForksRow : OpenClaim := { program := "ytieanejabjhnjaa", sum := "78804d77693f4d97b12fd8e1bfc8288a635bc2bab0d1aa860bf0d0b875ff2618", func := "boatswain/boatswainlaw11.ProcsForks", spec := "procsForks", unfollowed := true, recurses := true, apart := false }
def ProcsForksSaid : Prop := procsForksRow.holds Try.pinned (OpenSpec.ofChange procsForksSpec)

/-- ITS FALSE NEIGHBOUR: 'it returns false'. Refute it at one input. -/
def procsForksWrong : ChangeSpec := { name := "procsForks", fn := fun _ => fun
  | [d1, d2] => { results := [.lit (.bool false)], args := [d1, d2] }
  | _ => none }
def ProcsForksWrongFalsely : Prop := procsForksRow.holds Try.pinned (OpenSpec.ofChange procsForksWrong)

/-- 'boatswainlaw11.ProcsNone': WHATEVER THE INPUT: true; the input reads as it did. -/
def procsNoneSpec : ChangeSpec := { name := "procsNone", fn := fun _ => fun
  | [d1, d2] => { results := [.lit (.bool true)], args := [d1, d2] }
  | _ => none }
def procsNoneRow : OpenClaim := { program := "ytieanejabjhnjaa", sum := "78804d77693f4d97b12fd8e1bfc8288a635bc2bab0d1aa860bf0d0b875ff2618", func := "boatswain/boatswainlaw11.ProcsNone", spec := "procsNone", unfollowed := true, recurses := true, apart := false }
def ProcsNoneSaid : Prop := procsNoneRow.holds Try.pinned (OpenSpec.ofChange procsNoneSpec)

/-- ITS FALSE NEIGHBOUR: 'it returns false'. Refute it at one input. -/
def procsNoneWrong : ChangeSpec := { name := "procsNone", fn := fun _ => fun
  | [d1, d2] => { results := [.lit (.bool false)], args := [d1, d2] }
  | _ => none }
def ProcsNoneWrongFalsely : Prop := procsNoneRow.holds Try.pinned (OpenSpec.ofChange procsNoneWrong)

/- THE SECOND FORM. 'bulk': how many values and letters a reading holds, each counted each time it is reached (what is shared counts as often as it is met; a slice's spare places count too). A statement '..UptoSaid' is the law's where the arguments, and the package variables that the reading takes, are together of bulk at most 1048576: NARROWER than '..Said'. Prove '..Said' where nothing that the law and all that it calls make is longer than what came in: it says more and counts as full. Else prove '..UptoSaid'. A law counts once. -/
mutual
def uptoBulk {H : Type} : DataW H → Nat
  | .lit (.string bytes) => bytes.length + 1
  | .lit _ => 1
  | .nil => 1
  | .ptr d => uptoBulk d + 1
  | .slice elems spare => uptoBulkAll elems + uptoBulkAll spare + 1
  | .agg parts => uptoBulkAll parts + 1
  | .iface _ d => uptoBulk d + 1
  | .map entries => uptoBulkEntries entries + 1
  | .held _ => 1
def uptoBulkAll {H : Type} : List (DataW H) → Nat
  | [] => 0
  | d :: r => uptoBulk d + uptoBulkAll r
def uptoBulkEntries {H : Type} : List (Lit × DataW H) → Nat
  | [] => 0
  | x :: r => uptoBulkEntry x + uptoBulkEntries r
def uptoBulkEntry {H : Type} : Lit × DataW H → Nat
  | (.string bytes, d) => bytes.length + uptoBulk d + 1
  | (_, d) => uptoBulk d + 1
 end
def uptoSmall : (H : Type) → List (DataW H) → Bool := fun _ ds => decide (uptoBulkAll ds ≤ 1048576)
def OpenSpec.upto (s : _root_.Go.ChangeSpec) : _root_.Go.OpenSpec := { _root_.Go.OpenSpec.ofChange s with cond := some uptoSmall }

/-- 'boatswaintop.TopSteals', WHERE WHAT IT READS IS OF BULK AT MOST 1048576: true; the input reads as it did. -/
def topStealsUptoRow : OpenClaim := { program := "ytieanejabjhnjaa", sum := "78804d77693f4d97b12fd8e1bfc8288a635bc2bab0d1aa860bf0d0b875ff2618", func := "boatswain/boatswaintop.TopSteals", spec := "topSteals", unfollowed := true, recurses := true, apart := false, narrowed := true }
def TopStealsUptoSaid : Prop := topStealsUptoRow.holds Try.pinned (OpenSpec.upto topStealsSpec)

/-- 'boatswainlaw11.ProcsDraws', WHERE WHAT IT READS IS OF BULK AT MOST 1048576: true; the input reads as it did. -/
def procsDrawsUptoRow : OpenClaim := { program := "ytieanejabjhnjaa", sum := "78804d77693f4d97b12fd8e1bfc8288a635bc2bab0d1aa860bf0d0b875ff2618", func := "boatswain/boatswainlaw11.ProcsDraws", spec := "procsDraws", unfollowed := true, recurses := true, apart := false, narrowed := true }
def ProcsDrawsUptoSaid : Prop := procsDrawsUptoRow.holds Try.pinned (OpenSpec.upto procsDrawsSpec)

/-- 'boatswainlaw11.ProcsTakes', WHERE WHAT IT READS IS OF BULK AT MOST 1048576: true; the input reads as it did. -/
def procsTakesUptoRow : OpenClaim := { program := "ytieanejabjhnjaa", sum := "78804d77693f4d97b12fd8e1bfc8288a635bc2bab0d1aa860bf0d0b875ff2618", func := "boatswain/boatswainlaw11.ProcsTakes", spec := "procsTakes", unfollowed := true, recurses := true, apart := false, narrowed := true }
def ProcsTakesUptoSaid : Prop := procsTakesUptoRow.holds Try.pinned (OpenSpec.upto procsTakesSpec)

/-- 'boatswaintop.TopAges', WHERE WHAT IT READS IS OF BULK AT MOST 1048576: true; the input reads as it did. -/
def topAgesUptoRow : OpenClaim := { program := "ytieanejabjhnjaa", sum := "78804d77693f4d97b12fd8e1bfc8288a635bc2bab0d1aa860bf0d0b875ff2618", func := "boatswain/boatswaintop.TopAges", spec := "topAges", unfollowed := true, recurses := true, apart := false, narrowed := true }
def TopAgesUptoSaid : Prop := topAgesUptoRow.holds Try.pinned (OpenSpec.upto topAgesSpec)

/-- 'boatswainlaw11.ProcsBest', WHERE WHAT IT READS IS OF BULK AT MOST 1048576: true; the input reads as it did. -/
def procsBestUptoRow : OpenClaim := { program := "ytieanejabjhnjaa", sum := "78804d77693f4d97b12fd8e1bfc8288a635bc2bab0d1aa860bf0d0b875ff2618", func := "boatswain/boatswainlaw11.ProcsBest", spec := "procsBest", unfollowed := true, recurses := true, apart := false, narrowed := true }
def ProcsBestUptoSaid : Prop := procsBestUptoRow.holds Try.pinned (OpenSpec.upto procsBestSpec)

/-- 'boatswainlaw11.ProcsRoom', WHERE WHAT IT READS IS OF BULK AT MOST 1048576: true; the input reads as it did. -/
def procsRoomUptoRow : OpenClaim := { program := "ytieanejabjhnjaa", sum := "78804d77693f4d97b12fd8e1bfc8288a635bc2bab0d1aa860bf0d0b875ff2618", func := "boatswain/boatswainlaw11.ProcsRoom", spec := "procsRoom", unfollowed := true, recurses := true, apart := false, narrowed := true }
def ProcsRoomUptoSaid : Prop := procsRoomUptoRow.holds Try.pinned (OpenSpec.upto procsRoomSpec)

/-- 'boatswainlaw11.ProcsPlays', WHERE WHAT IT READS IS OF BULK AT MOST 1048576: true; the input reads as it did. -/
def procsPlaysUptoRow : OpenClaim := { program := "ytieanejabjhnjaa", sum := "78804d77693f4d97b12fd8e1bfc8288a635bc2bab0d1aa860bf0d0b875ff2618", func := "boatswain/boatswainlaw11.ProcsPlays", spec := "procsPlays", unfollowed := true, recurses := true, apart := false, narrowed := true }
def ProcsPlaysUptoSaid : Prop := procsPlaysUptoRow.holds Try.pinned (OpenSpec.upto procsPlaysSpec)

/-- 'boatswainlaw11.ProcsOne', WHERE WHAT IT READS IS OF BULK AT MOST 1048576: true; the input reads as it did. -/
def procsOneUptoRow : OpenClaim := { program := "ytieanejabjhnjaa", sum := "78804d77693f4d97b12fd8e1bfc8288a635bc2bab0d1aa860bf0d0b875ff2618", func := "boatswain/boatswainlaw11.ProcsOne", spec := "procsOne", unfollowed := true, recurses := true, apart := false, narrowed := true }
def ProcsOneUptoSaid : Prop := procsOneUptoRow.holds Try.pinned (OpenSpec.upto procsOneSpec)

/-- 'boatswainlaw11.ProcsChanges', WHERE WHAT IT READS IS OF BULK AT MOST 1048576: true; the input reads as it did. -/
def procsChangesUptoRow : OpenClaim := { program := "ytieanejabjhnjaa", sum := "78804d77693f4d97b12fd8e1bfc8288a635bc2bab0d1aa860bf0d0b875ff2618", func := "boatswain/boatswainlaw11.ProcsChanges", spec := "procsChanges", unfollowed := true, recurses := true, apart := false, narrowed := true }
def ProcsChangesUptoSaid : Prop := procsChangesUptoRow.holds Try.pinned (OpenSpec.upto procsChangesSpec)

/-- 'boatswainlaw11.ProcsForks', WHERE WHAT IT READS IS OF BULK AT MOST 1048576: true; the input reads as it did. -/
def procsForksUptoRow : OpenClaim := { program := "ytieanejabjhnjaa", sum := "78804d77693f4d97b12fd8e1bfc8288a635bc2bab0d1aa860bf0d0b875ff2618", func := "boatswain/boatswainlaw11.ProcsForks", spec := "procsForks", unfollowed := true, recurses := true, apart := false, narrowed := true }
def ProcsForksUptoSaid : Prop := procsForksUptoRow.holds Try.pinned (OpenSpec.upto procsForksSpec)

/-- 'boatswainlaw11.ProcsNone', WHERE WHAT IT READS IS OF BULK AT MOST 1048576: true; the input reads as it did. -/
def procsNoneUptoRow : OpenClaim := { program := "ytieanejabjhnjaa", sum := "78804d77693f4d97b12fd8e1bfc8288a635bc2bab0d1aa860bf0d0b875ff2618", func := "boatswain/boatswainlaw11.ProcsNone", spec := "procsNone", unfollowed := true, recurses := true, apart := false, narrowed := true }
def ProcsNoneUptoSaid : Prop := procsNoneUptoRow.holds Try.pinned (OpenSpec.upto procsNoneSpec)

end Rows
end Go.Proofs.Ytieanejabjhnjaa
