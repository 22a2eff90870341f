/- Slices of ids that a function fills. -/
import Derived.Test.YtlicnplclfclcaaGxT
import Derived.Test.YtlicnplclfclcaaGxG
import Derived.Test.YtlicnplclfclcaaIx
namespace Go.Proofs
open Go Go.Gx
variable {oo : World}
abbrev ownI (v : Value) (l : List Int) : HP := own v 3 1 l.length (ints l)
end Go.Proofs
