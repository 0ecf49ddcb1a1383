/- The model of disk.New. No program in sight. -/
import Derived.Test.YtlaebfjfnbiooaaDoorBMul
import Derived.Test.YtlaebfjfnbiooaaDoorBd
namespace Go.Proofs.YtlaebfjfnbiooaaDoor
set_option linter.unusedVariables false
set_option linter.unusedSimpArgs false
def noughtM : List UInt8 := List.replicate 32 0
def newM (n : Int) : List (List UInt8) := if 0 ≤ n ∧ n ≤ 512 then List.replicate n.toNat noughtM else []
def dNewE (n : Int) : List DV := [.list ((newM n).map DV.str), .list [], .int (if 0 ≤ n ∧ n ≤ 512 then 0 else 1)]

end Go.Proofs.YtlaebfjfnbiooaaDoor
