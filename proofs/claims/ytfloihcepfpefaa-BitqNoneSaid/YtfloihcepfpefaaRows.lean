/-
  No cell of these rows narrows 'for every input' (looked for: loops, veiled, ifaces, maps, wideKeys, modest, calm, conditions, laid).
  DERIVED. THE GIVEN ROWS OF THIS SEAT. 8 by the template 'for every input the law returns true; each argument reads behind the call as it read before'; 0 by the template 'total and deterministic' (their statements: YtfloihcepfpefaaTotals.lean).
  GIVEN WITH THE SEED: the statements are not yours to turn. If you find one false, say at which input.
  Laid BY PROGRAM, IN A SANDBOX (cutbox-rows.mjs): the forced cells as the released guide's own fill.sh prints them over the translation b60f5fbd4cf9d124… (all of the seat's roots in one cut). By AI agents, Wed Nov 11 2026. No macro, syntax, notation, axiom, sorry.
-/
import Derived.Test.YtfloihcepfpefaaChecked
import GoSem.Claim
import GoSem.ClaimJoined
import GoSem.ClaimMapViews
import Derived.JoinedTies
import Derived.KernelRfl
namespace Go.Proofs.Ytfloihcepfpefaa
/- THE CELL 'sum', in the pinned program and in every row, IS THE sha256 OF THE DUMP (.gsa) THAT YtfloihcepfpefaaProg.lean LOADS. Nothing in Lean hashes anything: it is a label: what it is worth is what the hold of that sum in a sandbox is worth. -/
noncomputable def Try.pinned : Pinned := { name := "ytfloihcepfpefaa", sum := "b60f5fbd4cf9d12480bf56c4cf07be05c39513894367e12f3982039912366659", checked := Try.checked }
namespace Rows
def none {H : Type} : Left H := { results := [], args := [] }

/-- 'boatswainlaw02.BitqFalls': WHATEVER THE INPUT: true; the input reads as it did. -/
def bitqFallsSpec : ChangeSpec := { name := "bitqFalls", fn := fun _ => fun
  | [d1, d2] => { results := [.lit (.bool true)], args := [d1, d2] }
  | _ => none }
def bitqFallsRow : OpenClaim := { program := "ytfloihcepfpefaa", sum := "b60f5fbd4cf9d12480bf56c4cf07be05c39513894367e12f3982039912366659", func := "boatswain/boatswainlaw02.BitqFalls", spec := "bitqFalls", apart := false }
def BitqFallsSaid : Prop := bitqFallsRow.holds Try.pinned (OpenSpec.ofChange bitqFallsSpec)

/-- ITS FALSE NEIGHBOUR: 'it returns false'. Refute it at one input. -/
def bitqFallsWrong : ChangeSpec := { name := "bitqFalls", fn := fun _ => fun
  | [d1, d2] => { results := [.lit (.bool false)], args := [d1, d2] }
  | _ => none }
def BitqFallsWrongFalsely : Prop := bitqFallsRow.holds Try.pinned (OpenSpec.ofChange bitqFallsWrong)

/-- 'boatswainlaw02.BitqTop': WHATEVER THE INPUT: true; the input reads as it did. -/
def bitqTopSpec : ChangeSpec := { name := "bitqTop", fn := fun _ => fun
  | [d1, d2, d3] => { results := [.lit (.bool true)], args := [d1, d2, d3] }
  | _ => none }
def bitqTopRow : OpenClaim := { program := "ytfloihcepfpefaa", sum := "b60f5fbd4cf9d12480bf56c4cf07be05c39513894367e12f3982039912366659", func := "boatswain/boatswainlaw02.BitqTop", spec := "bitqTop", apart := false }
def BitqTopSaid : Prop := bitqTopRow.holds Try.pinned (OpenSpec.ofChange bitqTopSpec)

/-- ITS FALSE NEIGHBOUR: 'it returns false'. Refute it at one input. -/
def bitqTopWrong : ChangeSpec := { name := "bitqTop", fn := fun _ => fun
  | [d1, d2, d3] => { results := [.lit (.bool false)], args := [d1, d2, d3] }
  | _ => none }
def BitqTopWrongFalsely : Prop := bitqTopRow.holds Try.pinned (OpenSpec.ofChange bitqTopWrong)

/-- 'boatswainlaw02.BitqFirst': WHATEVER THE INPUT: true; the input reads as it did. -/
def bitqFirstSpec : ChangeSpec := { name := "bitqFirst", fn := fun _ => fun
  | [d1, d2] => { results := [.lit (.bool true)], args := [d1, d2] }
  | _ => none }
def bitqFirstRow : OpenClaim := { program := "ytfloihcepfpefaa", sum := "b60f5fbd4cf9d12480bf56c4cf07be05c39513894367e12f3982039912366659", func := "boatswain/boatswainlaw02.BitqFirst", spec := "bitqFirst", unfollowed := true, recurses := true, apart := false }
def BitqFirstSaid : Prop := bitqFirstRow.holds Try.pinned (OpenSpec.ofChange bitqFirstSpec)

/-- ITS FALSE NEIGHBOUR: 'it returns false'. Refute it at one input. -/
def bitqFirstWrong : ChangeSpec := { name := "bitqFirst", fn := fun _ => fun
  | [d1, d2] => { results := [.lit (.bool false)], args := [d1, d2] }
  | _ => none }
def BitqFirstWrongFalsely : Prop := bitqFirstRow.holds Try.pinned (OpenSpec.ofChange bitqFirstWrong)

/-- 'boatswainlaw02.BitqMask': WHATEVER THE INPUT: true; the input reads as it did. -/
def bitqMaskSpec : ChangeSpec := { name := "bitqMask", fn := fun _ => fun
  | [d1, d2] => { results := [.lit (.bool true)], args := [d1, d2] }
  | _ => none }
def bitqMaskRow : OpenClaim := { program := "ytfloihcepfpefaa", sum := "b60f5fbd4cf9d12480bf56c4cf07be05c39513894367e12f3982039912366659", func := "boatswain/boatswainlaw02.BitqMask", spec := "bitqMask", unfollowed := true, recurses := true, apart := false }
def BitqMaskSaid : Prop := bitqMaskRow.holds Try.pinned (OpenSpec.ofChange bitqMaskSpec)

/-- ITS FALSE NEIGHBOUR: 'it returns false'. Refute it at one input. -/
def bitqMaskWrong : ChangeSpec := { name := "bitqMask", fn := fun _ => fun
  | [d1, d2] => { results := [.lit (.bool false)], args := [d1, d2] }
  | _ => none }
def BitqMaskWrongFalsely : Prop := bitqMaskRow.holds Try.pinned (OpenSpec.ofChange bitqMaskWrong)

/-- 'boatswainlaw02.BitqPlays': WHATEVER THE INPUT: true; the input reads as it did. -/
def bitqPlaysSpec : ChangeSpec := { name := "bitqPlays", fn := fun _ => fun
  | [d1, d2, d3] => { results := [.lit (.bool true)], args := [d1, d2, d3] }
  | _ => none }
def bitqPlaysRow : OpenClaim := { program := "ytfloihcepfpefaa", sum := "b60f5fbd4cf9d12480bf56c4cf07be05c39513894367e12f3982039912366659", func := "boatswain/boatswainlaw02.BitqPlays", spec := "bitqPlays", unfollowed := true, recurses := true, apart := false }
def BitqPlaysSaid : Prop := bitqPlaysRow.holds Try.pinned (OpenSpec.ofChange bitqPlaysSpec)

/-- ITS FALSE NEIGHBOUR: 'it returns false'. Refute it at one input. -/
def bitqPlaysWrong : ChangeSpec := { name := "bitqPlays", fn := fun _ => fun
  | [d1, d2, d3] => { results := [.lit (.bool false)], args := [d1, d2, d3] }
  | _ => none }
def BitqPlaysWrongFalsely : Prop := bitqPlaysRow.holds Try.pinned (OpenSpec.ofChange bitqPlaysWrong)

/-- 'boatswainlaw02.BitqRemoves': WHATEVER THE INPUT: true; the input reads as it did. -/
def bitqRemovesSpec : ChangeSpec := { name := "bitqRemoves", fn := fun _ => fun
  | [d1, d2, d3] => { results := [.lit (.bool true)], args := [d1, d2, d3] }
  | _ => none }
def bitqRemovesRow : OpenClaim := { program := "ytfloihcepfpefaa", sum := "b60f5fbd4cf9d12480bf56c4cf07be05c39513894367e12f3982039912366659", func := "boatswain/boatswainlaw02.BitqRemoves", spec := "bitqRemoves", unfollowed := true, recurses := true, apart := false }
def BitqRemovesSaid : Prop := bitqRemovesRow.holds Try.pinned (OpenSpec.ofChange bitqRemovesSpec)

/-- ITS FALSE NEIGHBOUR: 'it returns false'. Refute it at one input. -/
def bitqRemovesWrong : ChangeSpec := { name := "bitqRemoves", fn := fun _ => fun
  | [d1, d2, d3] => { results := [.lit (.bool false)], args := [d1, d2, d3] }
  | _ => none }
def BitqRemovesWrongFalsely : Prop := bitqRemovesRow.holds Try.pinned (OpenSpec.ofChange bitqRemovesWrong)

/-- 'boatswainlaw02.BitqForks': WHATEVER THE INPUT: true; the input reads as it did. -/
def bitqForksSpec : ChangeSpec := { name := "bitqForks", fn := fun _ => fun
  | [d1, d2] => { results := [.lit (.bool true)], args := [d1, d2] }
  | _ => none }
def bitqForksRow : OpenClaim := { program := "ytfloihcepfpefaa", sum := "b60f5fbd4cf9d12480bf56c4cf07be05c39513894367e12f3982039912366659", func := "boatswain/boatswainlaw02.BitqForks", spec := "bitqForks", unfollowed := true, recurses := true, apart := false }
def BitqForksSaid : Prop := bitqForksRow.holds Try.pinned (OpenSpec.ofChange bitqForksSpec)

/-- ITS FALSE NEIGHBOUR: 'it returns false'. Refute it at one input. -/
def bitqForksWrong : ChangeSpec := { name := "bitqForks", fn := fun _ => fun
  | [d1, d2] => { results := [.lit (.bool false)], args := [d1, d2] }
  | _ => none }
def BitqForksWrongFalsely : Prop := bitqForksRow.holds Try.pinned (OpenSpec.ofChange bitqForksWrong)

/-- 'boatswainlaw02.BitqNone': WHATEVER THE INPUT: true; the input reads as it did. -/
def bitqNoneSpec : ChangeSpec := { name := "bitqNone", fn := fun _ => fun
  | [d1, d2] => { results := [.lit (.bool true)], args := [d1, d2] }
  | _ => none }
def bitqNoneRow : OpenClaim := { program := "ytfloihcepfpefaa", sum := "b60f5fbd4cf9d12480bf56c4cf07be05c39513894367e12f3982039912366659", func := "boatswain/boatswainlaw02.BitqNone", spec := "bitqNone", unfollowed := true, recurses := true, apart := false }
def BitqNoneSaid : Prop := bitqNoneRow.holds Try.pinned (OpenSpec.ofChange bitqNoneSpec)

/-- ITS FALSE NEIGHBOUR: 'it returns false'. Refute it at one input. -/
def bitqNoneWrong : ChangeSpec := { name := "bitqNone", fn := fun _ => fun
  | [d1, d2] => { results := [.lit (.bool false)], args := [d1, d2] }
  | _ => none }
def BitqNoneWrongFalsely : Prop := bitqNoneRow.holds Try.pinned (OpenSpec.ofChange bitqNoneWrong)

/- THE SECOND FORM. 'bulk': how many values and letters a reading holds, each counted each time it is reached (what is shared counts as often as it is met; a slice's spare places count too). A statement '..UptoSaid' is the law's where the arguments, and the package variables that the reading takes, are together of bulk at most 1048576: NARROWER than '..Said'. Prove '..Said' where nothing that the law and all that it calls make is longer than what came in: it says more and counts as full. Else prove '..UptoSaid'. A law counts once. -/
mutual
def uptoBulk {H : Type} : DataW H → Nat
  | .lit (.string bytes) => bytes.length + 1
  | .lit _ => 1
  | .nil => 1
  | .ptr d => uptoBulk d + 1
  | .slice elems spare => uptoBulkAll elems + uptoBulkAll spare + 1
  | .agg parts => uptoBulkAll parts + 1
  | .iface _ d => uptoBulk d + 1
  | .map entries => uptoBulkEntries entries + 1
  | .held _ => 1
def uptoBulkAll {H : Type} : List (DataW H) → Nat
  | [] => 0
  | d :: r => uptoBulk d + uptoBulkAll r
def uptoBulkEntries {H : Type} : List (Lit × DataW H) → Nat
  | [] => 0
  | x :: r => uptoBulkEntry x + uptoBulkEntries r
def uptoBulkEntry {H : Type} : Lit × DataW H → Nat
  | (.string bytes, d) => bytes.length + uptoBulk d + 1
  | (_, d) => uptoBulk d + 1
 end
def uptoSmall : (H : Type) → List (DataW H) → Bool := fun _ ds => decide (uptoBulkAll ds ≤ 1048576)
def OpenSpec.upto (s : _root_.Go.ChangeSpec) : _root_.Go.OpenSpec := { _root_.Go.OpenSpec.ofChange s with cond := some uptoSmall }

/-- 'boatswainlaw02.BitqFalls', WHERE WHAT IT READS IS OF BULK AT MOST 1048576: true; the input reads as it did. -/
def bitqFallsUptoRow : OpenClaim := { program := "ytfloihcepfpefaa", sum := "b60f5fbd4cf9d12480bf56c4cf07be05c39513894367e12f3982039912366659", func := "boatswain/boatswainlaw02.BitqFalls", spec := "bitqFalls", apart := false, narrowed := true }
def BitqFallsUptoSaid : Prop := bitqFallsUptoRow.holds Try.pinned (OpenSpec.upto bitqFallsSpec)

/-- 'boatswainlaw02.BitqTop', WHERE WHAT IT READS IS OF BULK AT MOST 1048576: true; the input reads as it did. -/
def bitqTopUptoRow : OpenClaim := { program := "ytfloihcepfpefaa", sum := "b60f5fbd4cf9d12480bf56c4cf07be05c39513894367e12f3982039912366659", func := "boatswain/boatswainlaw02.BitqTop", spec := "bitqTop", apart := false, narrowed := true }
def BitqTopUptoSaid : Prop := bitqTopUptoRow.holds Try.pinned (OpenSpec.upto bitqTopSpec)

/-- 'boatswainlaw02.BitqFirst', WHERE WHAT IT READS IS OF BULK AT MOST 1048576: true; the input reads as it did. -/
def bitqFirstUptoRow : OpenClaim := { program := "ytfloihcepfpefaa", sum := "b60f5fbd4cf9d12480bf56c4cf07be05c39513894367e12f3982039912366659", func := "boatswain/boatswainlaw02.BitqFirst", spec := "bitqFirst", unfollowed := true, recurses := true, apart := false, narrowed := true }
def BitqFirstUptoSaid : Prop := bitqFirstUptoRow.holds Try.pinned (OpenSpec.upto bitqFirstSpec)

/-- 'boatswainlaw02.BitqMask', WHERE WHAT IT READS IS OF BULK AT MOST 1048576: true; the input reads as it did. -/
def bitqMaskUptoRow : OpenClaim := { program := "ytfloihcepfpefaa", sum := "b60f5fbd4cf9d12480bf56c4cf07be05c39513894367e12f3982039912366659", func := "boatswain/boatswainlaw02.BitqMask", spec := "bitqMask", unfollowed := true, recurses := true, apart := false, narrowed := true }
def BitqMaskUptoSaid : Prop := bitqMaskUptoRow.holds Try.pinned (OpenSpec.upto bitqMaskSpec)

/-- 'boatswainlaw02.BitqPlays', WHERE WHAT IT READS IS OF BULK AT MOST 1048576: true; the input reads as it did. -/
def bitqPlaysUptoRow : OpenClaim := { program := "ytfloihcepfpefaa", sum := "b60f5fbd4cf9d12480bf56c4cf07be05c39513894367e12f3982039912366659", func := "boatswain/boatswainlaw02.BitqPlays", spec := "bitqPlays", unfollowed := true, recurses := true, apart := false, narrowed := true }
def BitqPlaysUptoSaid : Prop := bitqPlaysUptoRow.holds Try.pinned (OpenSpec.upto bitqPlaysSpec)

/-- 'boatswainlaw02.BitqRemoves', WHERE WHAT IT READS IS OF BULK AT MOST 1048576: true; the input reads as it did. -/
def bitqRemovesUptoRow : OpenClaim := { program := "ytfloihcepfpefaa", sum := "b60f5fbd4cf9d12480bf56c4cf07be05c39513894367e12f3982039912366659", func := "boatswain/boatswainlaw02.BitqRemoves", spec := "bitqRemoves", unfollowed := true, recurses := true, apart := false, narrowed := true }
def BitqRemovesUptoSaid : Prop := bitqRemovesUptoRow.holds Try.pinned (OpenSpec.upto bitqRemovesSpec)

/-- 'boatswainlaw02.BitqForks', WHERE WHAT IT READS IS OF BULK AT MOST 1048576: true; the input reads as it did. -/
def bitqForksUptoRow : OpenClaim := { program := "ytfloihcepfpefaa", sum := "b60f5fbd4cf9d12480bf56c4cf07be05c39513894367e12f3982039912366659", func := "boatswain/boatswainlaw02.BitqForks", spec := "bitqForks", unfollowed := true, recurses := true, apart := false, narrowed := true }
def BitqForksUptoSaid : Prop := bitqForksUptoRow.holds Try.pinned (OpenSpec.upto bitqForksSpec)

/-- 'boatswainlaw02.BitqNone', WHERE WHAT IT READS IS OF BULK AT MOST 1048576: true; the input reads as it did. -/
def bitqNoneUptoRow : OpenClaim := { program := "ytfloihcepfpefaa", sum := "b60f5fbd4cf9d12480bf56c4cf07be05c39513894367e12f3982039912366659", func := "boatswain/boatswainlaw02.BitqNone", spec := "bitqNone", unfollowed := true, recurses := true, apart := false, narrowed := true }
def BitqNoneUptoSaid : Prop := bitqNoneUptoRow.holds Try.pinned (OpenSpec.upto bitqNoneSpec)

end Rows
end Go.Proofs.Ytfloihcepfpefaa
