/- The model of bits.Mul. No program in sight. -/
import Derived.Test.YtlaebfjfnbiooaaDoorNx
import Derived.Test.YtlaebfjfnbiooaaDoorBd
namespace Go.Proofs.YtlaebfjfnbiooaaDoor
set_option linter.unusedVariables false
set_option linter.unusedSimpArgs false
theorem u64_eq (n : Int) : IntKind.u64.wrap n = n % 18446744073709551616 := by
  simp [IntKind.wrap, IntKind.bits, IntKind.signed]
def bMulE (x y : Int) : List DV := [.int 0, .int (x * y)]

end Go.Proofs.YtlaebfjfnbiooaaDoor
