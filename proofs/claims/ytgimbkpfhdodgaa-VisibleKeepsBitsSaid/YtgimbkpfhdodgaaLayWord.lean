/- The model of layout.Word. No program in sight. -/
import Derived.Test.YtgimbkpfhdodgaaBd
namespace Go.Proofs.Ytgimbkpfhdodgaa
set_option linter.unusedVariables false
set_option linter.unusedSimpArgs false
def placeM (from' many n size at' : Int) : Int := if n < 0 ∨ many ≤ n then -1 else IntKind.i64.wrap (IntKind.i64.wrap (from' + IntKind.i64.wrap (size * n)) + at')
def layWordE (t l k s m a0 a1 a2 a3 a4 a5 a6 a7 n : Int) : List DV := [.int (placeM a6 l n 4 0)]

end Go.Proofs.Ytgimbkpfhdodgaa
