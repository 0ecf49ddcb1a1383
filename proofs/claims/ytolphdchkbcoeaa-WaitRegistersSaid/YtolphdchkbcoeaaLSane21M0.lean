/- What a run knows of. No condition. -/
import Derived.Test.YtolphdchkbcoeaaRDo
import Derived.Test.YtolphdchkbcoeaaTNext
import Derived.Test.YtolphdchkbcoeaaRCell
import Derived.Test.YtolphdchkbcoeaaROfM
import Derived.Test.YtolphdchkbcoeaaRIn
import Derived.Test.YtolphdchkbcoeaaRWt
import Derived.Test.YtolphdchkbcoeaaRWord
import Derived.Test.YtolphdchkbcoeaaRWk
import Derived.Test.YtolphdchkbcoeaaCut
import Derived.Test.YtolphdchkbcoeaaOpen
namespace Go.Proofs.Ytolphdchkbcoeaa
set_option linter.unusedVariables false
set_option linter.unusedSimpArgs false
set_option maxRecDepth 100000
def lSane21Sm : List (Nat × Smy) := [(24, ⟨3, [.agg [.rows false [.int .i64]], .agg [.pl (.int .i64), .pl (.int .i64), .pl (.int .i64), .pl (.int .i64), .pl .str]], [.agg [.rows false [.int .i64]], .agg [.pl (.int .i64), .pl .bool], .one (.pl (.int .i64))], lenC [(0, 1000000)], some rDoF⟩), (10, ⟨106, [.agg [.pl (.int .i64), .pl (.int .i64), .pl (.int .i64), .pl (.int .i64), .pl (.int .i64), .pl (.int .i64), .pl (.int .i64), .pl (.int .i64), .pl (.int .i64), .pl (.int .i64), .pl (.int .i64), .pl (.int .i64), .pl (.int .i64)], .one (.pl (.int .i64)), .agg [.pl (.int .i64), .pl (.int .i64), .pl (.int .i64), .pl (.int .i64), .pl (.int .i64), .pl (.int .i64), .pl (.int .i64), .rows false [.int .i64, .int .i64, .int .i64], .rows false [.int .i64, .int .i64], .rows false [.bool]], .one (.rows false [.int .i64, .bool])], [.agg [.pl (.int .i64), .pl (.int .i64), .pl (.int .i64), .pl (.int .i64), .pl .str], .agg [.pl (.int .i64), .pl (.int .i64), .pl (.int .i64), .pl (.int .i64), .pl .bool, .pl .bool, .pl (.int .i64)], .one (.pl .bool)], lenC [(21, 1000000), (24, 1000000)], some tNextF⟩), (18, ⟨24, [.agg [.rows false [.int .i64]], .one (.pl (.int .i64))], [.one (.pl (.int .i64))], fun _ => [], some rCellF⟩), (25, ⟨128, [.agg [.pl (.int .i64), .pl (.int .i64), .pl (.int .i64), .pl (.int .i64), .pl (.int .i64)]], [.agg [.pl (.int .i64), .pl (.int .i64), .pl (.int .i64), .pl (.int .i64), .pl (.int .i64), .pl (.int .i64), .pl (.int .i64), .pl (.int .i64), .pl (.int .i64), .pl (.int .i64), .pl (.int .i64), .pl (.int .i64), .pl (.int .i64)], .one (.pl (.int .i64))], fun _ => [], some rOfMF⟩), (21, ⟨57, [.one (.pl (.int .i64)), .one (.pl (.int .i64))], [.one (.pl .bool)], fun _ => [], some rInF⟩), (22, ⟨52, [.agg [.pl (.int .i64), .pl (.int .i64), .pl (.int .i64), .pl (.int .i64), .pl (.int .i64), .pl (.int .i64), .pl (.int .i64), .pl (.int .i64), .pl (.int .i64), .pl (.int .i64), .pl (.int .i64), .pl (.int .i64), .pl (.int .i64)], .one (.pl (.int .i64))], [.one (.pl (.int .i64))], fun _ => [], some rWtF⟩), (19, ⟨31, [.agg [.pl (.int .i64), .pl (.int .i64), .pl (.int .i64), .pl (.int .i64), .pl (.int .i64), .pl (.int .i64), .pl (.int .i64), .pl (.int .i64), .pl (.int .i64), .pl (.int .i64), .pl (.int .i64), .pl (.int .i64), .pl (.int .i64)], .one (.pl (.int .i64))], [.one (.pl (.int .i64))], fun _ => [], some rWordF⟩), (27, ⟨110, [.agg [.pl (.int .i64), .pl (.int .i64), .pl (.int .i64), .pl (.int .i64), .pl (.int .i64), .pl (.int .i64), .pl (.int .i64), .pl (.int .i64), .pl (.int .i64), .pl (.int .i64), .pl (.int .i64), .pl (.int .i64), .pl (.int .i64)], .one (.pl (.int .i64))], [.one (.pl (.int .i64))], fun _ => [], some rWkF⟩)]
def lSane21La : List (LK × LA) := []
end Go.Proofs.Ytolphdchkbcoeaa
