/- LockNext: the law returns true for every input, and each argument reads afterwards as it read before. No condition. -/
import Derived.Test.YthofaloahjpidaaLSane16
import Derived.Test.YthofaloahjpidaaLayOf
import Derived.Test.YthofaloahjpidaaLkNext
import Derived.Test.YthofaloahjpidaaRkNext
import Derived.Test.YthofaloahjpidaaBd
import Derived.Test.YthofaloahjpidaaOpen
namespace Go.Proofs.Ythofaloahjpidaa
set_option linter.unusedVariables false
set_option linter.unusedSimpArgs false
set_option maxRecDepth 100000


def lockNextF (ds : List DV) : List DV := [.bool true]
/-- What the executor makes of it. -/
def lockNextTree : PT :=
(.br (.un .not (.bin .le (.un .len (.var 11)) (.int 20)))
 (.leaf [(.bin .idx (.fn 18 .nil) (.int 0))])
 (.br (.un .not (.bin .le (.un .len (.var 8)) (.int 20)))
  (.leaf [(.bin .idx (.fn 18 .nil) (.int 0))])
  (.br (.un .not (.bin .le (.un .len (.var 9)) (.int 20)))
   (.leaf [(.bin .idx (.fn 18 .nil) (.int 0))])
   (.br (.un .not (.bin .le (.un .len (.var 10)) (.int 20)))
    (.leaf [(.bin .idx (.fn 18 .nil) (.int 0))])
    (.br (.bin .idx (.fn 18 .nil) (.int 0))
     (.br (.bin .and (.bin .eq (.bin .idx (.fn 33 (.bin .cons (.int 3) (.bin .cons (.int 2) (.bin .cons (.int 0) (.bin .cons (.int 0) (.bin .cons (.int 0) (.bin .cons (.int 0) (.bin .cons (.int 1) (.bin .cons (.int 2) (.bin .cons (.int 3) (.bin .cons (.int 4) (.bin .cons (.int 16) (.bin .cons (.int 16) (.bin .cons (.int 24) (.bin .cons (.un (.wrap .i64) (.bin .tmod (.var 0) (.int 3))) (.bin .cons (.var 1) (.bin .cons (.var 2) (.bin .cons (.var 3) (.bin .cons (.var 4) (.bin .cons (.var 5) (.bin .cons (.var 6) (.bin .cons (.var 7) (.bin .cons (.var 8) (.bin .cons (.var 9) (.bin .cons (.var 10) (.bin .cons (.var 11) .nil)))))))))))))))))))))))))) (.int 0)) (.bin .idx (.fn 34 (.bin .cons (.int 3) (.bin .cons (.int 2) (.bin .cons (.int 0) (.bin .cons (.int 0) (.bin .cons (.int 0) (.bin .cons (.int 0) (.bin .cons (.int 1) (.bin .cons (.int 2) (.bin .cons (.int 3) (.bin .cons (.int 4) (.bin .cons (.int 16) (.bin .cons (.int 16) (.bin .cons (.int 24) (.bin .cons (.un (.wrap .i64) (.bin .tmod (.var 0) (.int 3))) (.bin .cons (.var 1) (.bin .cons (.var 2) (.bin .cons (.var 3) (.bin .cons (.var 4) (.bin .cons (.var 5) (.bin .cons (.var 6) (.bin .cons (.var 7) (.bin .cons (.var 8) (.bin .cons (.var 9) (.bin .cons (.var 10) (.bin .cons (.var 11) .nil)))))))))))))))))))))))))) (.int 0))) (.bin .and (.bin .eq (.bin .idx (.fn 33 (.bin .cons (.int 3) (.bin .cons (.int 2) (.bin .cons (.int 0) (.bin .cons (.int 0) (.bin .cons (.int 0) (.bin .cons (.int 0) (.bin .cons (.int 1) (.bin .cons (.int 2) (.bin .cons (.int 3) (.bin .cons (.int 4) (.bin .cons (.int 16) (.bin .cons (.int 16) (.bin .cons (.int 24) (.bin .cons (.un (.wrap .i64) (.bin .tmod (.var 0) (.int 3))) (.bin .cons (.var 1) (.bin .cons (.var 2) (.bin .cons (.var 3) (.bin .cons (.var 4) (.bin .cons (.var 5) (.bin .cons (.var 6) (.bin .cons (.var 7) (.bin .cons (.var 8) (.bin .cons (.var 9) (.bin .cons (.var 10) (.bin .cons (.var 11) .nil)))))))))))))))))))))))))) (.int 1)) (.bin .idx (.fn 34 (.bin .cons (.int 3) (.bin .cons (.int 2) (.bin .cons (.int 0) (.bin .cons (.int 0) (.bin .cons (.int 0) (.bin .cons (.int 0) (.bin .cons (.int 1) (.bin .cons (.int 2) (.bin .cons (.int 3) (.bin .cons (.int 4) (.bin .cons (.int 16) (.bin .cons (.int 16) (.bin .cons (.int 24) (.bin .cons (.un (.wrap .i64) (.bin .tmod (.var 0) (.int 3))) (.bin .cons (.var 1) (.bin .cons (.var 2) (.bin .cons (.var 3) (.bin .cons (.var 4) (.bin .cons (.var 5) (.bin .cons (.var 6) (.bin .cons (.var 7) (.bin .cons (.var 8) (.bin .cons (.var 9) (.bin .cons (.var 10) (.bin .cons (.var 11) .nil)))))))))))))))))))))))))) (.int 1))) (.bin .and (.bin .eq (.bin .idx (.fn 33 (.bin .cons (.int 3) (.bin .cons (.int 2) (.bin .cons (.int 0) (.bin .cons (.int 0) (.bin .cons (.int 0) (.bin .cons (.int 0) (.bin .cons (.int 1) (.bin .cons (.int 2) (.bin .cons (.int 3) (.bin .cons (.int 4) (.bin .cons (.int 16) (.bin .cons (.int 16) (.bin .cons (.int 24) (.bin .cons (.un (.wrap .i64) (.bin .tmod (.var 0) (.int 3))) (.bin .cons (.var 1) (.bin .cons (.var 2) (.bin .cons (.var 3) (.bin .cons (.var 4) (.bin .cons (.var 5) (.bin .cons (.var 6) (.bin .cons (.var 7) (.bin .cons (.var 8) (.bin .cons (.var 9) (.bin .cons (.var 10) (.bin .cons (.var 11) .nil)))))))))))))))))))))))))) (.int 2)) (.bin .idx (.fn 34 (.bin .cons (.int 3) (.bin .cons (.int 2) (.bin .cons (.int 0) (.bin .cons (.int 0) (.bin .cons (.int 0) (.bin .cons (.int 0) (.bin .cons (.int 1) (.bin .cons (.int 2) (.bin .cons (.int 3) (.bin .cons (.int 4) (.bin .cons (.int 16) (.bin .cons (.int 16) (.bin .cons (.int 24) (.bin .cons (.un (.wrap .i64) (.bin .tmod (.var 0) (.int 3))) (.bin .cons (.var 1) (.bin .cons (.var 2) (.bin .cons (.var 3) (.bin .cons (.var 4) (.bin .cons (.var 5) (.bin .cons (.var 6) (.bin .cons (.var 7) (.bin .cons (.var 8) (.bin .cons (.var 9) (.bin .cons (.var 10) (.bin .cons (.var 11) .nil)))))))))))))))))))))))))) (.int 2))) (.bin .and (.bin .eq (.bin .idx (.fn 33 (.bin .cons (.int 3) (.bin .cons (.int 2) (.bin .cons (.int 0) (.bin .cons (.int 0) (.bin .cons (.int 0) (.bin .cons (.int 0) (.bin .cons (.int 1) (.bin .cons (.int 2) (.bin .cons (.int 3) (.bin .cons (.int 4) (.bin .cons (.int 16) (.bin .cons (.int 16) (.bin .cons (.int 24) (.bin .cons (.un (.wrap .i64) (.bin .tmod (.var 0) (.int 3))) (.bin .cons (.var 1) (.bin .cons (.var 2) (.bin .cons (.var 3) (.bin .cons (.var 4) (.bin .cons (.var 5) (.bin .cons (.var 6) (.bin .cons (.var 7) (.bin .cons (.var 8) (.bin .cons (.var 9) (.bin .cons (.var 10) (.bin .cons (.var 11) .nil)))))))))))))))))))))))))) (.int 3)) (.bin .idx (.fn 34 (.bin .cons (.int 3) (.bin .cons (.int 2) (.bin .cons (.int 0) (.bin .cons (.int 0) (.bin .cons (.int 0) (.bin .cons (.int 0) (.bin .cons (.int 1) (.bin .cons (.int 2) (.bin .cons (.int 3) (.bin .cons (.int 4) (.bin .cons (.int 16) (.bin .cons (.int 16) (.bin .cons (.int 24) (.bin .cons (.un (.wrap .i64) (.bin .tmod (.var 0) (.int 3))) (.bin .cons (.var 1) (.bin .cons (.var 2) (.bin .cons (.var 3) (.bin .cons (.var 4) (.bin .cons (.var 5) (.bin .cons (.var 6) (.bin .cons (.var 7) (.bin .cons (.var 8) (.bin .cons (.var 9) (.bin .cons (.var 10) (.bin .cons (.var 11) .nil)))))))))))))))))))))))))) (.int 3))) (.bin .eqs (.bin .idx (.fn 33 (.bin .cons (.int 3) (.bin .cons (.int 2) (.bin .cons (.int 0) (.bin .cons (.int 0) (.bin .cons (.int 0) (.bin .cons (.int 0) (.bin .cons (.int 1) (.bin .cons (.int 2) (.bin .cons (.int 3) (.bin .cons (.int 4) (.bin .cons (.int 16) (.bin .cons (.int 16) (.bin .cons (.int 24) (.bin .cons (.un (.wrap .i64) (.bin .tmod (.var 0) (.int 3))) (.bin .cons (.var 1) (.bin .cons (.var 2) (.bin .cons (.var 3) (.bin .cons (.var 4) (.bin .cons (.var 5) (.bin .cons (.var 6) (.bin .cons (.var 7) (.bin .cons (.var 8) (.bin .cons (.var 9) (.bin .cons (.var 10) (.bin .cons (.var 11) .nil)))))))))))))))))))))))))) (.int 4)) (.bin .idx (.fn 34 (.bin .cons (.int 3) (.bin .cons (.int 2) (.bin .cons (.int 0) (.bin .cons (.int 0) (.bin .cons (.int 0) (.bin .cons (.int 0) (.bin .cons (.int 1) (.bin .cons (.int 2) (.bin .cons (.int 3) (.bin .cons (.int 4) (.bin .cons (.int 16) (.bin .cons (.int 16) (.bin .cons (.int 24) (.bin .cons (.un (.wrap .i64) (.bin .tmod (.var 0) (.int 3))) (.bin .cons (.var 1) (.bin .cons (.var 2) (.bin .cons (.var 3) (.bin .cons (.var 4) (.bin .cons (.var 5) (.bin .cons (.var 6) (.bin .cons (.var 7) (.bin .cons (.var 8) (.bin .cons (.var 9) (.bin .cons (.var 10) (.bin .cons (.var 11) .nil)))))))))))))))))))))))))) (.int 4)))))))
      (.br (.bin .and (.bin .eq (.bin .idx (.fn 33 (.bin .cons (.int 3) (.bin .cons (.int 2) (.bin .cons (.int 0) (.bin .cons (.int 0) (.bin .cons (.int 0) (.bin .cons (.int 0) (.bin .cons (.int 1) (.bin .cons (.int 2) (.bin .cons (.int 3) (.bin .cons (.int 4) (.bin .cons (.int 16) (.bin .cons (.int 16) (.bin .cons (.int 24) (.bin .cons (.un (.wrap .i64) (.bin .tmod (.var 0) (.int 3))) (.bin .cons (.var 1) (.bin .cons (.var 2) (.bin .cons (.var 3) (.bin .cons (.var 4) (.bin .cons (.var 5) (.bin .cons (.var 6) (.bin .cons (.var 7) (.bin .cons (.var 8) (.bin .cons (.var 9) (.bin .cons (.var 10) (.bin .cons (.var 11) .nil)))))))))))))))))))))))))) (.int 5)) (.bin .idx (.fn 34 (.bin .cons (.int 3) (.bin .cons (.int 2) (.bin .cons (.int 0) (.bin .cons (.int 0) (.bin .cons (.int 0) (.bin .cons (.int 0) (.bin .cons (.int 1) (.bin .cons (.int 2) (.bin .cons (.int 3) (.bin .cons (.int 4) (.bin .cons (.int 16) (.bin .cons (.int 16) (.bin .cons (.int 24) (.bin .cons (.un (.wrap .i64) (.bin .tmod (.var 0) (.int 3))) (.bin .cons (.var 1) (.bin .cons (.var 2) (.bin .cons (.var 3) (.bin .cons (.var 4) (.bin .cons (.var 5) (.bin .cons (.var 6) (.bin .cons (.var 7) (.bin .cons (.var 8) (.bin .cons (.var 9) (.bin .cons (.var 10) (.bin .cons (.var 11) .nil)))))))))))))))))))))))))) (.int 5))) (.bin .and (.bin .eq (.bin .idx (.fn 33 (.bin .cons (.int 3) (.bin .cons (.int 2) (.bin .cons (.int 0) (.bin .cons (.int 0) (.bin .cons (.int 0) (.bin .cons (.int 0) (.bin .cons (.int 1) (.bin .cons (.int 2) (.bin .cons (.int 3) (.bin .cons (.int 4) (.bin .cons (.int 16) (.bin .cons (.int 16) (.bin .cons (.int 24) (.bin .cons (.un (.wrap .i64) (.bin .tmod (.var 0) (.int 3))) (.bin .cons (.var 1) (.bin .cons (.var 2) (.bin .cons (.var 3) (.bin .cons (.var 4) (.bin .cons (.var 5) (.bin .cons (.var 6) (.bin .cons (.var 7) (.bin .cons (.var 8) (.bin .cons (.var 9) (.bin .cons (.var 10) (.bin .cons (.var 11) .nil)))))))))))))))))))))))))) (.int 6)) (.bin .idx (.fn 34 (.bin .cons (.int 3) (.bin .cons (.int 2) (.bin .cons (.int 0) (.bin .cons (.int 0) (.bin .cons (.int 0) (.bin .cons (.int 0) (.bin .cons (.int 1) (.bin .cons (.int 2) (.bin .cons (.int 3) (.bin .cons (.int 4) (.bin .cons (.int 16) (.bin .cons (.int 16) (.bin .cons (.int 24) (.bin .cons (.un (.wrap .i64) (.bin .tmod (.var 0) (.int 3))) (.bin .cons (.var 1) (.bin .cons (.var 2) (.bin .cons (.var 3) (.bin .cons (.var 4) (.bin .cons (.var 5) (.bin .cons (.var 6) (.bin .cons (.var 7) (.bin .cons (.var 8) (.bin .cons (.var 9) (.bin .cons (.var 10) (.bin .cons (.var 11) .nil)))))))))))))))))))))))))) (.int 6))) (.bin .and (.bin .eq (.bin .idx (.fn 33 (.bin .cons (.int 3) (.bin .cons (.int 2) (.bin .cons (.int 0) (.bin .cons (.int 0) (.bin .cons (.int 0) (.bin .cons (.int 0) (.bin .cons (.int 1) (.bin .cons (.int 2) (.bin .cons (.int 3) (.bin .cons (.int 4) (.bin .cons (.int 16) (.bin .cons (.int 16) (.bin .cons (.int 24) (.bin .cons (.un (.wrap .i64) (.bin .tmod (.var 0) (.int 3))) (.bin .cons (.var 1) (.bin .cons (.var 2) (.bin .cons (.var 3) (.bin .cons (.var 4) (.bin .cons (.var 5) (.bin .cons (.var 6) (.bin .cons (.var 7) (.bin .cons (.var 8) (.bin .cons (.var 9) (.bin .cons (.var 10) (.bin .cons (.var 11) .nil)))))))))))))))))))))))))) (.int 7)) (.bin .idx (.fn 34 (.bin .cons (.int 3) (.bin .cons (.int 2) (.bin .cons (.int 0) (.bin .cons (.int 0) (.bin .cons (.int 0) (.bin .cons (.int 0) (.bin .cons (.int 1) (.bin .cons (.int 2) (.bin .cons (.int 3) (.bin .cons (.int 4) (.bin .cons (.int 16) (.bin .cons (.int 16) (.bin .cons (.int 24) (.bin .cons (.un (.wrap .i64) (.bin .tmod (.var 0) (.int 3))) (.bin .cons (.var 1) (.bin .cons (.var 2) (.bin .cons (.var 3) (.bin .cons (.var 4) (.bin .cons (.var 5) (.bin .cons (.var 6) (.bin .cons (.var 7) (.bin .cons (.var 8) (.bin .cons (.var 9) (.bin .cons (.var 10) (.bin .cons (.var 11) .nil)))))))))))))))))))))))))) (.int 7))) (.bin .and (.bin .eq (.bin .idx (.fn 33 (.bin .cons (.int 3) (.bin .cons (.int 2) (.bin .cons (.int 0) (.bin .cons (.int 0) (.bin .cons (.int 0) (.bin .cons (.int 0) (.bin .cons (.int 1) (.bin .cons (.int 2) (.bin .cons (.int 3) (.bin .cons (.int 4) (.bin .cons (.int 16) (.bin .cons (.int 16) (.bin .cons (.int 24) (.bin .cons (.un (.wrap .i64) (.bin .tmod (.var 0) (.int 3))) (.bin .cons (.var 1) (.bin .cons (.var 2) (.bin .cons (.var 3) (.bin .cons (.var 4) (.bin .cons (.var 5) (.bin .cons (.var 6) (.bin .cons (.var 7) (.bin .cons (.var 8) (.bin .cons (.var 9) (.bin .cons (.var 10) (.bin .cons (.var 11) .nil)))))))))))))))))))))))))) (.int 8)) (.bin .idx (.fn 34 (.bin .cons (.int 3) (.bin .cons (.int 2) (.bin .cons (.int 0) (.bin .cons (.int 0) (.bin .cons (.int 0) (.bin .cons (.int 0) (.bin .cons (.int 1) (.bin .cons (.int 2) (.bin .cons (.int 3) (.bin .cons (.int 4) (.bin .cons (.int 16) (.bin .cons (.int 16) (.bin .cons (.int 24) (.bin .cons (.un (.wrap .i64) (.bin .tmod (.var 0) (.int 3))) (.bin .cons (.var 1) (.bin .cons (.var 2) (.bin .cons (.var 3) (.bin .cons (.var 4) (.bin .cons (.var 5) (.bin .cons (.var 6) (.bin .cons (.var 7) (.bin .cons (.var 8) (.bin .cons (.var 9) (.bin .cons (.var 10) (.bin .cons (.var 11) .nil)))))))))))))))))))))))))) (.int 8))) (.bin .and (.bin .eqb (.bin .idx (.fn 33 (.bin .cons (.int 3) (.bin .cons (.int 2) (.bin .cons (.int 0) (.bin .cons (.int 0) (.bin .cons (.int 0) (.bin .cons (.int 0) (.bin .cons (.int 1) (.bin .cons (.int 2) (.bin .cons (.int 3) (.bin .cons (.int 4) (.bin .cons (.int 16) (.bin .cons (.int 16) (.bin .cons (.int 24) (.bin .cons (.un (.wrap .i64) (.bin .tmod (.var 0) (.int 3))) (.bin .cons (.var 1) (.bin .cons (.var 2) (.bin .cons (.var 3) (.bin .cons (.var 4) (.bin .cons (.var 5) (.bin .cons (.var 6) (.bin .cons (.var 7) (.bin .cons (.var 8) (.bin .cons (.var 9) (.bin .cons (.var 10) (.bin .cons (.var 11) .nil)))))))))))))))))))))))))) (.int 9)) (.bin .idx (.fn 34 (.bin .cons (.int 3) (.bin .cons (.int 2) (.bin .cons (.int 0) (.bin .cons (.int 0) (.bin .cons (.int 0) (.bin .cons (.int 0) (.bin .cons (.int 1) (.bin .cons (.int 2) (.bin .cons (.int 3) (.bin .cons (.int 4) (.bin .cons (.int 16) (.bin .cons (.int 16) (.bin .cons (.int 24) (.bin .cons (.un (.wrap .i64) (.bin .tmod (.var 0) (.int 3))) (.bin .cons (.var 1) (.bin .cons (.var 2) (.bin .cons (.var 3) (.bin .cons (.var 4) (.bin .cons (.var 5) (.bin .cons (.var 6) (.bin .cons (.var 7) (.bin .cons (.var 8) (.bin .cons (.var 9) (.bin .cons (.var 10) (.bin .cons (.var 11) .nil)))))))))))))))))))))))))) (.int 9))) (.bin .and (.bin .eqb (.bin .idx (.fn 33 (.bin .cons (.int 3) (.bin .cons (.int 2) (.bin .cons (.int 0) (.bin .cons (.int 0) (.bin .cons (.int 0) (.bin .cons (.int 0) (.bin .cons (.int 1) (.bin .cons (.int 2) (.bin .cons (.int 3) (.bin .cons (.int 4) (.bin .cons (.int 16) (.bin .cons (.int 16) (.bin .cons (.int 24) (.bin .cons (.un (.wrap .i64) (.bin .tmod (.var 0) (.int 3))) (.bin .cons (.var 1) (.bin .cons (.var 2) (.bin .cons (.var 3) (.bin .cons (.var 4) (.bin .cons (.var 5) (.bin .cons (.var 6) (.bin .cons (.var 7) (.bin .cons (.var 8) (.bin .cons (.var 9) (.bin .cons (.var 10) (.bin .cons (.var 11) .nil)))))))))))))))))))))))))) (.int 10)) (.bin .idx (.fn 34 (.bin .cons (.int 3) (.bin .cons (.int 2) (.bin .cons (.int 0) (.bin .cons (.int 0) (.bin .cons (.int 0) (.bin .cons (.int 0) (.bin .cons (.int 1) (.bin .cons (.int 2) (.bin .cons (.int 3) (.bin .cons (.int 4) (.bin .cons (.int 16) (.bin .cons (.int 16) (.bin .cons (.int 24) (.bin .cons (.un (.wrap .i64) (.bin .tmod (.var 0) (.int 3))) (.bin .cons (.var 1) (.bin .cons (.var 2) (.bin .cons (.var 3) (.bin .cons (.var 4) (.bin .cons (.var 5) (.bin .cons (.var 6) (.bin .cons (.var 7) (.bin .cons (.var 8) (.bin .cons (.var 9) (.bin .cons (.var 10) (.bin .cons (.var 11) .nil)))))))))))))))))))))))))) (.int 10))) (.bin .eq (.bin .idx (.fn 33 (.bin .cons (.int 3) (.bin .cons (.int 2) (.bin .cons (.int 0) (.bin .cons (.int 0) (.bin .cons (.int 0) (.bin .cons (.int 0) (.bin .cons (.int 1) (.bin .cons (.int 2) (.bin .cons (.int 3) (.bin .cons (.int 4) (.bin .cons (.int 16) (.bin .cons (.int 16) (.bin .cons (.int 24) (.bin .cons (.un (.wrap .i64) (.bin .tmod (.var 0) (.int 3))) (.bin .cons (.var 1) (.bin .cons (.var 2) (.bin .cons (.var 3) (.bin .cons (.var 4) (.bin .cons (.var 5) (.bin .cons (.var 6) (.bin .cons (.var 7) (.bin .cons (.var 8) (.bin .cons (.var 9) (.bin .cons (.var 10) (.bin .cons (.var 11) .nil)))))))))))))))))))))))))) (.int 11)) (.bin .idx (.fn 34 (.bin .cons (.int 3) (.bin .cons (.int 2) (.bin .cons (.int 0) (.bin .cons (.int 0) (.bin .cons (.int 0) (.bin .cons (.int 0) (.bin .cons (.int 1) (.bin .cons (.int 2) (.bin .cons (.int 3) (.bin .cons (.int 4) (.bin .cons (.int 16) (.bin .cons (.int 16) (.bin .cons (.int 24) (.bin .cons (.un (.wrap .i64) (.bin .tmod (.var 0) (.int 3))) (.bin .cons (.var 1) (.bin .cons (.var 2) (.bin .cons (.var 3) (.bin .cons (.var 4) (.bin .cons (.var 5) (.bin .cons (.var 6) (.bin .cons (.var 7) (.bin .cons (.var 8) (.bin .cons (.var 9) (.bin .cons (.var 10) (.bin .cons (.var 11) .nil)))))))))))))))))))))))))) (.int 11)))))))))
       (.leaf [(.bin .eqb (.bin .idx (.fn 33 (.bin .cons (.int 3) (.bin .cons (.int 2) (.bin .cons (.int 0) (.bin .cons (.int 0) (.bin .cons (.int 0) (.bin .cons (.int 0) (.bin .cons (.int 1) (.bin .cons (.int 2) (.bin .cons (.int 3) (.bin .cons (.int 4) (.bin .cons (.int 16) (.bin .cons (.int 16) (.bin .cons (.int 24) (.bin .cons (.un (.wrap .i64) (.bin .tmod (.var 0) (.int 3))) (.bin .cons (.var 1) (.bin .cons (.var 2) (.bin .cons (.var 3) (.bin .cons (.var 4) (.bin .cons (.var 5) (.bin .cons (.var 6) (.bin .cons (.var 7) (.bin .cons (.var 8) (.bin .cons (.var 9) (.bin .cons (.var 10) (.bin .cons (.var 11) .nil)))))))))))))))))))))))))) (.int 12)) (.bin .idx (.fn 34 (.bin .cons (.int 3) (.bin .cons (.int 2) (.bin .cons (.int 0) (.bin .cons (.int 0) (.bin .cons (.int 0) (.bin .cons (.int 0) (.bin .cons (.int 1) (.bin .cons (.int 2) (.bin .cons (.int 3) (.bin .cons (.int 4) (.bin .cons (.int 16) (.bin .cons (.int 16) (.bin .cons (.int 24) (.bin .cons (.un (.wrap .i64) (.bin .tmod (.var 0) (.int 3))) (.bin .cons (.var 1) (.bin .cons (.var 2) (.bin .cons (.var 3) (.bin .cons (.var 4) (.bin .cons (.var 5) (.bin .cons (.var 6) (.bin .cons (.var 7) (.bin .cons (.var 8) (.bin .cons (.var 9) (.bin .cons (.var 10) (.bin .cons (.var 11) .nil)))))))))))))))))))))))))) (.int 12)))])
       (.leaf [(.bool false)]))
      (.leaf [(.bool false)]))
     (.leaf [(.bool false)]))))))

def lockNextSm : List (Nat × Smy) := [(12, ⟨18, [], [.one (.pl .bool)], fun _ => [], none⟩), (53, ⟨21, [.agg [.pl (.int .i64), .pl (.int .i64), .pl (.int .i64), .pl (.int .i64), .pl (.int .i64)]], [.agg [.pl (.int .i64), .pl (.int .i64), .pl (.int .i64), .pl (.int .i64), .pl (.int .i64), .pl (.int .i64), .pl (.int .i64), .pl (.int .i64), .pl (.int .i64), .pl (.int .i64), .pl (.int .i64), .pl (.int .i64), .pl (.int .i64)], .one (.pl (.int .i64))], fun _ => [], some layOfF⟩), (13, ⟨33, [.agg [.pl (.int .i64), .pl (.int .i64), .pl (.int .i64), .pl (.int .i64), .pl (.int .i64), .pl (.int .i64), .pl (.int .i64), .pl (.int .i64), .pl (.int .i64), .pl (.int .i64), .pl (.int .i64), .pl (.int .i64), .pl (.int .i64)], .one (.pl (.int .i64)), .agg [.pl (.int .i64), .pl (.int .i64), .pl (.int .i64), .pl (.int .i64), .pl (.int .i64), .pl (.int .i64), .pl (.int .i64), .rows false [.int .i64, .int .i64, .int .i64], .rows false [.int .i64, .int .i64], .rows false [.bool]], .one (.rows false [.int .i64, .bool])], [.agg [.pl (.int .i64), .pl (.int .i64), .pl (.int .i64), .pl (.int .i64), .pl .str], .agg [.pl (.int .i64), .pl (.int .i64), .pl (.int .i64), .pl (.int .i64), .pl .bool, .pl .bool, .pl (.int .i64)], .one (.pl .bool)], fun _ => [], none⟩), (15, ⟨34, [.agg [.pl (.int .i64), .pl (.int .i64), .pl (.int .i64), .pl (.int .i64), .pl (.int .i64), .pl (.int .i64), .pl (.int .i64), .pl (.int .i64), .pl (.int .i64), .pl (.int .i64), .pl (.int .i64), .pl (.int .i64), .pl (.int .i64)], .one (.pl (.int .i64)), .agg [.pl (.int .i64), .pl (.int .i64), .pl (.int .i64), .pl (.int .i64), .pl (.int .i64), .pl (.int .i64), .pl (.int .i64), .rows false [.int .i64, .int .i64, .int .i64], .rows false [.int .i64, .int .i64], .rows false [.bool]], .one (.rows false [.int .i64, .bool])], [.agg [.pl (.int .i64), .pl (.int .i64), .pl (.int .i64), .pl (.int .i64), .pl .str], .agg [.pl (.int .i64), .pl (.int .i64), .pl (.int .i64), .pl (.int .i64), .pl .bool, .pl .bool, .pl (.int .i64)], .one (.pl .bool)], fun _ => [], none⟩)]
def lockNextLa : List (LK × LA) := []
def lockNextPhi : Nat → DV → DV := fun n d => match n with
  | 18 => .list (lSane16F d.l)
  | 21 => .list (layOfF d.l)
  | 33 => .list (lkNextF d.l)
  | 34 => .list (rkNextF d.l)
  | _ => d
theorem lockNextS : SmyOk Try.prog lockNextPhi lockNextSm := (smy_cons (fun _ => True) lSane16F lSane16_pure (fun _ _ _ _ => trivial) (fun _ => rfl) (fun _ h => by cases h) (smy_cons (fun _ => True) layOfF layOf_pure (fun _ _ _ _ => trivial) (fun _ => rfl) (fun _ h => by cases h; rfl) (smy_cons (fun _ => True) lkNextF lkNext_pure (fun _ _ _ _ => trivial) (fun _ => rfl) (fun _ h => by cases h) (smy_cons (fun _ => True) rkNextF rkNext_pure (fun _ _ _ _ => trivial) (fun _ => rfl) (fun _ h => by cases h) smy_nil))))
theorem lockNextT : treeOk ⟨Try.prog, lockNextSm, lockNextLa⟩ 4000 3 [.one (.pl (.int .u8)), .agg [.pl (.int .i64), .pl (.int .i64), .pl (.int .i64), .pl (.int .i64), .pl (.int .i64), .pl (.int .i64), .pl (.int .i64), .rows false [.int .i64, .int .i64, .int .i64], .rows false [.int .i64, .int .i64], .rows false [.bool]], .one (.rows false [.int .i64, .bool])] [.one (.pl .bool)] (rng (0) 255 (.var 0) ++ ([])) lockNextTree = true := by decide +kernel
set_option maxHeartbeats 1000000 in
theorem lockNext_pure : Pure Try.prog 3 [.one (.pl (.int .u8)), .agg [.pl (.int .i64), .pl (.int .i64), .pl (.int .i64), .pl (.int .i64), .pl (.int .i64), .pl (.int .i64), .pl (.int .i64), .rows false [.int .i64, .int .i64, .int .i64], .rows false [.int .i64, .int .i64], .rows false [.bool]], .one (.rows false [.int .i64, .bool])] [.one (.pl .bool)] (Wts (clsOf [.one (.pl (.int .u8)), .agg [.pl (.int .i64), .pl (.int .i64), .pl (.int .i64), .pl (.int .i64), .pl (.int .i64), .pl (.int .i64), .pl (.int .i64), .rows false [.int .i64, .int .i64, .int .i64], .rows false [.int .i64, .int .i64], .rows false [.bool]], .one (.rows false [.int .i64, .bool])])) lockNextF := by
  refine pure_tree (X := ⟨Try.prog, lockNextSm, lockNextLa⟩) (Checked.mixed Try.checked) lockNextS (by decide +kernel) (by decide +kernel) lockNextT (by decide +kernel) ?_
  intro ds hl hp
  obtain ⟨d0, d1, d2, d3, d4, d5, d6, d7, d8, d9, d10, d11, rfl⟩ := len12 hl
  obtain ⟨_, _, he, w0, hp⟩ := hp
  cases he
  have r0 : 0 ≤ d0.i ∧ d0.i ≤ 255 := wt_i w0 rfl rfl
  clear w0
  obtain ⟨_, _, he, w1, hp⟩ := hp
  cases he
  have r1 : -9223372036854775808 ≤ d1.i ∧ d1.i ≤ 9223372036854775807 := wt_i w1 rfl rfl
  clear w1
  obtain ⟨_, _, he, w2, hp⟩ := hp
  cases he
  have r2 : -9223372036854775808 ≤ d2.i ∧ d2.i ≤ 9223372036854775807 := wt_i w2 rfl rfl
  clear w2
  obtain ⟨_, _, he, w3, hp⟩ := hp
  cases he
  have r3 : -9223372036854775808 ≤ d3.i ∧ d3.i ≤ 9223372036854775807 := wt_i w3 rfl rfl
  clear w3
  obtain ⟨_, _, he, w4, hp⟩ := hp
  cases he
  have r4 : -9223372036854775808 ≤ d4.i ∧ d4.i ≤ 9223372036854775807 := wt_i w4 rfl rfl
  clear w4
  obtain ⟨_, _, he, w5, hp⟩ := hp
  cases he
  have r5 : -9223372036854775808 ≤ d5.i ∧ d5.i ≤ 9223372036854775807 := wt_i w5 rfl rfl
  clear w5
  obtain ⟨_, _, he, w6, hp⟩ := hp
  cases he
  have r6 : -9223372036854775808 ≤ d6.i ∧ d6.i ≤ 9223372036854775807 := wt_i w6 rfl rfl
  clear w6
  obtain ⟨_, _, he, w7, hp⟩ := hp
  cases he
  have r7 : -9223372036854775808 ≤ d7.i ∧ d7.i ≤ 9223372036854775807 := wt_i w7 rfl rfl
  clear w7
  obtain ⟨_, _, he, w8, hp⟩ := hp
  cases he
  have b8 : ((d8.l.map deciii).length : Int) ≤ 9223372036854775807 := by rw [List.length_map]; exact wt_len w8
  have v8 := wt_iii w8
  clear w8
  obtain ⟨_, _, he, w9, hp⟩ := hp
  cases he
  have b9 : ((d9.l.map decii).length : Int) ≤ 9223372036854775807 := by rw [List.length_map]; exact wt_len w9
  have v9 := wt_ii w9
  clear w9
  obtain ⟨_, _, he, w10, hp⟩ := hp
  cases he
  have b10 : ((d10.l.map DV.b).length : Int) ≤ 9223372036854775807 := by rw [List.length_map]; exact wt_len w10
  clear w10
  obtain ⟨_, _, he, w11, hp⟩ := hp
  cases he
  have b11 : ((d11.l.map decib).length : Int) ≤ 9223372036854775807 := by rw [List.length_map]; exact wt_len w11
  have v11 := wt_ib w11
  clear w11
  have hN : nrmL (clsOf [.one (.pl (.int .u8)), .agg [.pl (.int .i64), .pl (.int .i64), .pl (.int .i64), .pl (.int .i64), .pl (.int .i64), .pl (.int .i64), .pl (.int .i64), .rows false [.int .i64, .int .i64, .int .i64], .rows false [.int .i64, .int .i64], .rows false [.bool]], .one (.rows false [.int .i64, .bool])]) [d0, d1, d2, d3, d4, d5, d6, d7, d8, d9, d10, d11] = [.int d0.i, .int d1.i, .int d2.i, .int d3.i, .int d4.i, .int d5.i, .int d6.i, .int d7.i, .list ((d8.l.map deciii).map enciii), .list ((d9.l.map decii).map encii), .list ((d10.l.map DV.b).map DV.bool), .list ((d11.l.map decib).map encib)] := by
    simp only [clsOf, Sh.cls, List.append_nil, List.cons_append, List.nil_append, nrmL, Cl.nrm, CK.nrm, map_Lb, map_Lib, map_Lii, map_Liii]
  have hF : lockNextF [d0, d1, d2, d3, d4, d5, d6, d7, d8, d9, d10, d11] = [.bool true] := rfl
  rw [hN, hF]
  clear hN hp hl hF
  generalize d0.i = x0 at r0 ⊢
  generalize d1.i = x1 at r1 ⊢
  generalize d2.i = x2 at r2 ⊢
  generalize d3.i = x3 at r3 ⊢
  generalize d4.i = x4 at r4 ⊢
  generalize d5.i = x5 at r5 ⊢
  generalize d6.i = x6 at r6 ⊢
  generalize d7.i = x7 at r7 ⊢
  generalize d8.l.map deciii = x8 at b8 v8 ⊢
  generalize d9.l.map decii = x9 at b9 v9 ⊢
  generalize d10.l.map DV.b = x10 at b10 ⊢
  generalize d11.l.map decib = x11 at b11 v11 ⊢
  refine ⟨(rng_ok (e := .var 0) r0.1 r0.2 (facts_nil _)), ?_⟩
  unfold lockNextTree
  simp only [Sat, clsOf, Sh.cls, List.append_nil, List.cons_append, List.nil_append, nrmL, Cl.nrm, CK.nrm, List.map_cons, List.map_nil, List.length_cons, List.length_nil, List.cons.injEq, DV.bool.injEq, DV.int.injEq, DV.list.injEq, DV.str.injEq, and_true, true_and]
  simp only [q_le, q_eq, q_eqs, q_eqb, q_and, q_or, q_not, q_bool, iff_true, iff_false, Bool.not_true, Bool.not_false, Bool.false_eq_true, Bool.true_eq_false, eq_self, Bool.not_not]
  simp only [Bool.not_true, Bool.not_false, Bool.true_eq_false, SE.den, evU, evT, ev_le, ev_eq, ev_eqs, ev_eqb, ev_slt, ev_and, ev_or, ev_add, ev_sub, ev_mul, ev_tdiv, ev_tmod, ev_band, ev_bor, ev_bxor, ev_bandn, ev_shl, ev_shr, ev_cat, ev_byte, ev_idx, ev_cons, ev_snoc, ev_app, ev_take, ev_drop, ev_stake, ev_sdrop, ev_rep, leB_q, eqB_q, eqsB_q, not_q, i_if, b_if, l_if, s_if, i_int, b_bool, s_str, l_list, envL, List.getElem?_cons_succ, List.getElem?_cons_zero, List.getElem?_nil, Option.getD_some, Option.getD_none, Int.toNat_natCast, Int.toNat_zero, Int.reduceToNat, List.length_map, get_Li, get_Lb, get_Ls, set_Li, inj_Li, inj_Lb, inj_Ls, rows_i, rows_b, rows_s, Int.zero_add, iff_true, iff_false, and_true, true_and, Bool.false_eq_true, eq_self, not_true_eq_false, not_false_eq_true, List.length_replicate, DV.int.injEq, DV.bool.injEq, DV.str.injEq, DV.list.injEq, List.cons.injEq, f_ib_0, rows_ib, inj_Lib, f_ib_1, rows_ib, inj_Lib, f_ii_0, rows_ii, inj_Lii, f_ii_1, rows_ii, inj_Lii, f_iii_0, rows_iii, inj_Liii, f_iii_1, rows_iii, inj_Liii, f_iii_2, rows_iii, inj_Liii, lockNextPhi, lSane16F, lSane16E, layOfF, layOfE, lkNextF, lkNextE, rkNextF, rkNextE, gi, gb, gs, gLi, gLu, gLb, gLs, dece_i, dece_b, dece_s, gLib, deces_ib, gLii, deces_ii, gLiii, deces_iii, nx_0, nx_1, nx_2, nx_3, nx_4, nx_5, nx_6, nx_7, nx_8, nx_9, nx_10, nx_11, nx_12]
  have hw := at_ib v11 (by unfold dib; omega) 0
  have h0 : halfM (x11[0]?.getD dib).1 = (x11[0]?.getD dib).1 / 2 := halfM_eq hw.1 hw.2
  have hc : ∀ wc vc me k b, lkM (fun x => x / 2) wc vc me k b x11 = lkM halfM wc vc me k b x11 := fun wc vc me k b => lkM_congr _ _ _ _ _ _ h0.symm
  simp [hc]
namespace row
open Go.ChangeShapes Go.WideShapes Go.ChangeAt Go.RowKit Go.Joins Go.Deep Go.Proofs.Ythofaloahjpidaa
theorem lifted (os : Os) (started : os.Started) (H : Type) (enc : TypeId × Value → H) :
    ReturnsInHanded {} Try.checked os 3 .any (Rows.lockNextSpec.pre6 enc Try.prog Try.f3 Rows.lockNextRow.domain false) (Rows.lockNextSpec.post enc Try.prog Try.f3 false true false false) := by
  refine returnsInHanded_of_change (C := Try.checked) own started (by kernel_rfl) Try.func3
    (ChangeSpec.witness6 (enc := enc) (C := Try.checked) false ⟨#[], #[.int .u8 0, .agg #[.int .i64 0, .int .i64 0, .int .i64 0, .int .i64 0, .int .i64 0, .int .i64 0, .int .i64 0, .slice none 0 0, .slice none 0 0, .slice none 0 0], .slice none 0 0], []⟩ 8 (by kernel_rfl) (by kernel_rfl) (by kernel_rfl) (by kernel_rfl)) ?_
  intro W base args ds gs before hval0 hW hcnd _
  have hval : ∀ (j : Nat) t v, Try.f3.params[j]? = some t → args[j]? = some v → Value.okWide Try.prog W .any base t v := hval0
  have hW' := hW
  obtain ⟨p, q, hA0, hV, rfl, hfz, hnd⟩ := hW
  have hA : DataW.TrodAll enc Try.prog W 0 (fun _ => true) true Try.f3.params.toList args.toList ds p := hA0
  have hval2 : ∀ (j : Nat) t v, Try.f3.params.toList[j]? = some t → args.toList[j]? = some v → Value.okWide Try.prog W .any base t v := fun j t v a b => hval j t v (by simpa using a) (by simpa using b)
  have hcall := law_of lockNext_pure (fun _ h => h) (by rw [Try.params3]; kernel_rfl) hA hval2
  rw [Try.params3] at hA
  obtain ⟨v0, vs0, d0, ds0, p0, q0, hargs, rfl, rfl, h0, r0⟩ := trodAll_cons hA
  obtain ⟨v1, vs1, d1, ds1, p1, q1, rfl, rfl, rfl, h1, r1⟩ := trodAll_cons r0
  obtain ⟨v2, vs2, d2, ds2, p2, q2, rfl, rfl, rfl, h2, r2⟩ := trodAll_cons r1
  obtain ⟨rfl, rfl, rfl⟩ := trodAll_nil r2
  obtain rfl : args = #[v0, v1, v2] := by cases args; simp_all
  obtain ⟨rfl, rfl⟩ := trodVars_none hV
  have lt0 : ∀ x ∈ p0, x.block < W.heap.size := by obtain ⟨m, hm⟩ := h0; exact DataW.trod_lt m _ _ _ hm
  have lt1 : ∀ x ∈ p1, x.block < W.heap.size := by obtain ⟨m, hm⟩ := h1; exact DataW.trod_lt m _ _ _ hm
  have lt2 : ∀ x ∈ p2, x.block < W.heap.size := by obtain ⟨m, hm⟩ := h2; exact DataW.trod_lt m _ _ _ hm
  clear hA0 hval0 hval2
  refine Calls.mono hcall fun e W' ⟨he, bel⟩ => ?_
  subst he
  exact ⟨_, rfl, _, _, _, [], _, [], hW', trodAll_mk1 (shut_bool Try.underlying4 _), (trodAll_cons_mk (Below.trod laidOut (by kernel_rfl) (of_decide_eq_true (by kernel_rfl)) h0 bel lt0) (trodAll_cons_mk (Below.trod laidOut (by kernel_rfl) (of_decide_eq_true (by kernel_rfl)) h1 bel lt1) (trodAll_cons_mk (Below.trod laidOut (by kernel_rfl) (of_decide_eq_true (by kernel_rfl)) h2 bel lt2) trodAll_mk0))), rfl, bel.frame _, fun h => by cases h⟩
theorem over : Rows.lockNextRow.holds Try.pinned (OpenSpec.ofChange Rows.lockNextSpec) :=
  OpenClaim.holds_of_wide 3 Try.f3 rfl rfl rfl rfl rfl rfl rfl ⟨rfl, rfl, rfl, rfl, rfl⟩ rfl rfl rfl rfl rfl (by kernel_rfl) Try.func3 (by kernel_rfl)
    (of_decide_eq_true (by kernel_rfl)) (by unfold Func.isWrapper; first | (rw [if_pos (by decide +kernel)]; kernel_rfl) | (rw [if_neg (by decide +kernel)]; exact ⟨rfl, rfl⟩))
    (fun os started H enc _ => lifted os started H enc)
end row
theorem lockNext_proved : Rows.LockNextSaid := row.over
end Go.Proofs.Ythofaloahjpidaa
