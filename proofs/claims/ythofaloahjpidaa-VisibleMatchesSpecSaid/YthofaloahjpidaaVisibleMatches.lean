/- VisibleMatchesSpec: the law returns true for every input, and each argument reads afterwards as it read before. No condition. -/
import Derived.Test.YthofaloahjpidaaLSane18
import Derived.Test.YthofaloahjpidaaROf
import Derived.Test.YthofaloahjpidaaViNext
import Derived.Test.YthofaloahjpidaaRvNext
import Derived.Test.YthofaloahjpidaaBd
import Derived.Test.YthofaloahjpidaaOpen
namespace Go.Proofs.Ythofaloahjpidaa
set_option linter.unusedVariables false
set_option linter.unusedSimpArgs false
set_option maxRecDepth 100000


def visibleMatchesF (ds : List DV) : List DV := [.bool true]
/-- What the executor makes of it. -/
def visibleMatchesTree : PT :=
(.br (.bin .eq (.bin .idx (.fn 41 (.bin .cons (.var 0) (.bin .cons (.var 1) (.bin .cons (.var 2) (.bin .cons (.var 3) (.bin .cons (.var 4) .nil)))))) (.int 13)) (.int 0))
 (.br (.un .not (.bin .and (.bin .and (.bin .eq (.bin .idx (.fn 41 (.bin .cons (.var 0) (.bin .cons (.var 1) (.bin .cons (.var 2) (.bin .cons (.var 3) (.bin .cons (.var 4) .nil)))))) (.int 0)) (.var 0)) (.bin .and (.bin .eq (.bin .idx (.fn 41 (.bin .cons (.var 0) (.bin .cons (.var 1) (.bin .cons (.var 2) (.bin .cons (.var 3) (.bin .cons (.var 4) .nil)))))) (.int 1)) (.var 1)) (.bin .and (.bin .eq (.bin .idx (.fn 41 (.bin .cons (.var 0) (.bin .cons (.var 1) (.bin .cons (.var 2) (.bin .cons (.var 3) (.bin .cons (.var 4) .nil)))))) (.int 2)) (.var 2)) (.bin .and (.bin .eq (.bin .idx (.fn 41 (.bin .cons (.var 0) (.bin .cons (.var 1) (.bin .cons (.var 2) (.bin .cons (.var 3) (.bin .cons (.var 4) .nil)))))) (.int 3)) (.var 3)) (.bin .eq (.bin .idx (.fn 41 (.bin .cons (.var 0) (.bin .cons (.var 1) (.bin .cons (.var 2) (.bin .cons (.var 3) (.bin .cons (.var 4) .nil)))))) (.int 4)) (.var 4)))))) (.bin .and (.bin .eq (.bin .idx (.fn 41 (.bin .cons (.var 0) (.bin .cons (.var 1) (.bin .cons (.var 2) (.bin .cons (.var 3) (.bin .cons (.var 4) .nil)))))) (.int 5)) (.var 5)) (.bin .and (.bin .eq (.bin .idx (.fn 41 (.bin .cons (.var 0) (.bin .cons (.var 1) (.bin .cons (.var 2) (.bin .cons (.var 3) (.bin .cons (.var 4) .nil)))))) (.int 6)) (.var 6)) (.bin .and (.bin .eq (.bin .idx (.fn 41 (.bin .cons (.var 0) (.bin .cons (.var 1) (.bin .cons (.var 2) (.bin .cons (.var 3) (.bin .cons (.var 4) .nil)))))) (.int 7)) (.var 7)) (.bin .and (.bin .eq (.bin .idx (.fn 41 (.bin .cons (.var 0) (.bin .cons (.var 1) (.bin .cons (.var 2) (.bin .cons (.var 3) (.bin .cons (.var 4) .nil)))))) (.int 8)) (.var 8)) (.bin .and (.bin .eq (.bin .idx (.fn 41 (.bin .cons (.var 0) (.bin .cons (.var 1) (.bin .cons (.var 2) (.bin .cons (.var 3) (.bin .cons (.var 4) .nil)))))) (.int 9)) (.var 9)) (.bin .and (.bin .eq (.bin .idx (.fn 41 (.bin .cons (.var 0) (.bin .cons (.var 1) (.bin .cons (.var 2) (.bin .cons (.var 3) (.bin .cons (.var 4) .nil)))))) (.int 10)) (.var 10)) (.bin .and (.bin .eq (.bin .idx (.fn 41 (.bin .cons (.var 0) (.bin .cons (.var 1) (.bin .cons (.var 2) (.bin .cons (.var 3) (.bin .cons (.var 4) .nil)))))) (.int 11)) (.var 11)) (.bin .eq (.bin .idx (.fn 41 (.bin .cons (.var 0) (.bin .cons (.var 1) (.bin .cons (.var 2) (.bin .cons (.var 3) (.bin .cons (.var 4) .nil)))))) (.int 12)) (.var 12)))))))))))
  (.leaf [(.bin .idx (.fn 20 .nil) (.int 0))])
  (.br (.un .not (.bin .le (.un .len (.var 24)) (.int 60)))
   (.leaf [(.bin .idx (.fn 20 .nil) (.int 0))])
   (.br (.bin .idx (.fn 20 .nil) (.int 0))
    (.br (.bin .and (.bin .eq (.bin .idx (.fn 56 (.bin .cons (.var 0) (.bin .cons (.var 1) (.bin .cons (.var 2) (.bin .cons (.var 3) (.bin .cons (.var 4) (.bin .cons (.var 5) (.bin .cons (.var 6) (.bin .cons (.var 7) (.bin .cons (.var 8) (.bin .cons (.var 9) (.bin .cons (.var 10) (.bin .cons (.var 11) (.bin .cons (.var 12) (.bin .cons (.var 13) (.bin .cons (.var 14) (.bin .cons (.var 15) (.bin .cons (.var 16) (.bin .cons (.var 17) (.bin .cons (.var 18) (.bin .cons (.var 19) (.bin .cons (.var 20) (.bin .cons (.var 21) (.bin .cons (.var 22) (.bin .cons (.var 23) (.bin .cons (.var 24) .nil)))))))))))))))))))))))))) (.int 0)) (.bin .idx (.fn 60 (.bin .cons (.var 0) (.bin .cons (.var 1) (.bin .cons (.var 2) (.bin .cons (.var 3) (.bin .cons (.var 4) (.bin .cons (.var 5) (.bin .cons (.var 6) (.bin .cons (.var 7) (.bin .cons (.var 8) (.bin .cons (.var 9) (.bin .cons (.var 10) (.bin .cons (.var 11) (.bin .cons (.var 12) (.bin .cons (.var 13) (.bin .cons (.var 14) (.bin .cons (.var 15) (.bin .cons (.var 16) (.bin .cons (.var 17) (.bin .cons (.var 18) (.bin .cons (.var 19) (.bin .cons (.var 20) (.bin .cons (.var 21) (.bin .cons (.var 22) (.bin .cons (.var 23) (.bin .cons (.var 24) .nil)))))))))))))))))))))))))) (.int 0))) (.bin .and (.bin .eq (.bin .idx (.fn 56 (.bin .cons (.var 0) (.bin .cons (.var 1) (.bin .cons (.var 2) (.bin .cons (.var 3) (.bin .cons (.var 4) (.bin .cons (.var 5) (.bin .cons (.var 6) (.bin .cons (.var 7) (.bin .cons (.var 8) (.bin .cons (.var 9) (.bin .cons (.var 10) (.bin .cons (.var 11) (.bin .cons (.var 12) (.bin .cons (.var 13) (.bin .cons (.var 14) (.bin .cons (.var 15) (.bin .cons (.var 16) (.bin .cons (.var 17) (.bin .cons (.var 18) (.bin .cons (.var 19) (.bin .cons (.var 20) (.bin .cons (.var 21) (.bin .cons (.var 22) (.bin .cons (.var 23) (.bin .cons (.var 24) .nil)))))))))))))))))))))))))) (.int 1)) (.bin .idx (.fn 60 (.bin .cons (.var 0) (.bin .cons (.var 1) (.bin .cons (.var 2) (.bin .cons (.var 3) (.bin .cons (.var 4) (.bin .cons (.var 5) (.bin .cons (.var 6) (.bin .cons (.var 7) (.bin .cons (.var 8) (.bin .cons (.var 9) (.bin .cons (.var 10) (.bin .cons (.var 11) (.bin .cons (.var 12) (.bin .cons (.var 13) (.bin .cons (.var 14) (.bin .cons (.var 15) (.bin .cons (.var 16) (.bin .cons (.var 17) (.bin .cons (.var 18) (.bin .cons (.var 19) (.bin .cons (.var 20) (.bin .cons (.var 21) (.bin .cons (.var 22) (.bin .cons (.var 23) (.bin .cons (.var 24) .nil)))))))))))))))))))))))))) (.int 1))) (.bin .and (.bin .eq (.bin .idx (.fn 56 (.bin .cons (.var 0) (.bin .cons (.var 1) (.bin .cons (.var 2) (.bin .cons (.var 3) (.bin .cons (.var 4) (.bin .cons (.var 5) (.bin .cons (.var 6) (.bin .cons (.var 7) (.bin .cons (.var 8) (.bin .cons (.var 9) (.bin .cons (.var 10) (.bin .cons (.var 11) (.bin .cons (.var 12) (.bin .cons (.var 13) (.bin .cons (.var 14) (.bin .cons (.var 15) (.bin .cons (.var 16) (.bin .cons (.var 17) (.bin .cons (.var 18) (.bin .cons (.var 19) (.bin .cons (.var 20) (.bin .cons (.var 21) (.bin .cons (.var 22) (.bin .cons (.var 23) (.bin .cons (.var 24) .nil)))))))))))))))))))))))))) (.int 2)) (.bin .idx (.fn 60 (.bin .cons (.var 0) (.bin .cons (.var 1) (.bin .cons (.var 2) (.bin .cons (.var 3) (.bin .cons (.var 4) (.bin .cons (.var 5) (.bin .cons (.var 6) (.bin .cons (.var 7) (.bin .cons (.var 8) (.bin .cons (.var 9) (.bin .cons (.var 10) (.bin .cons (.var 11) (.bin .cons (.var 12) (.bin .cons (.var 13) (.bin .cons (.var 14) (.bin .cons (.var 15) (.bin .cons (.var 16) (.bin .cons (.var 17) (.bin .cons (.var 18) (.bin .cons (.var 19) (.bin .cons (.var 20) (.bin .cons (.var 21) (.bin .cons (.var 22) (.bin .cons (.var 23) (.bin .cons (.var 24) .nil)))))))))))))))))))))))))) (.int 2))) (.bin .and (.bin .eq (.bin .idx (.fn 56 (.bin .cons (.var 0) (.bin .cons (.var 1) (.bin .cons (.var 2) (.bin .cons (.var 3) (.bin .cons (.var 4) (.bin .cons (.var 5) (.bin .cons (.var 6) (.bin .cons (.var 7) (.bin .cons (.var 8) (.bin .cons (.var 9) (.bin .cons (.var 10) (.bin .cons (.var 11) (.bin .cons (.var 12) (.bin .cons (.var 13) (.bin .cons (.var 14) (.bin .cons (.var 15) (.bin .cons (.var 16) (.bin .cons (.var 17) (.bin .cons (.var 18) (.bin .cons (.var 19) (.bin .cons (.var 20) (.bin .cons (.var 21) (.bin .cons (.var 22) (.bin .cons (.var 23) (.bin .cons (.var 24) .nil)))))))))))))))))))))))))) (.int 3)) (.bin .idx (.fn 60 (.bin .cons (.var 0) (.bin .cons (.var 1) (.bin .cons (.var 2) (.bin .cons (.var 3) (.bin .cons (.var 4) (.bin .cons (.var 5) (.bin .cons (.var 6) (.bin .cons (.var 7) (.bin .cons (.var 8) (.bin .cons (.var 9) (.bin .cons (.var 10) (.bin .cons (.var 11) (.bin .cons (.var 12) (.bin .cons (.var 13) (.bin .cons (.var 14) (.bin .cons (.var 15) (.bin .cons (.var 16) (.bin .cons (.var 17) (.bin .cons (.var 18) (.bin .cons (.var 19) (.bin .cons (.var 20) (.bin .cons (.var 21) (.bin .cons (.var 22) (.bin .cons (.var 23) (.bin .cons (.var 24) .nil)))))))))))))))))))))))))) (.int 3))) (.bin .eqs (.bin .idx (.fn 56 (.bin .cons (.var 0) (.bin .cons (.var 1) (.bin .cons (.var 2) (.bin .cons (.var 3) (.bin .cons (.var 4) (.bin .cons (.var 5) (.bin .cons (.var 6) (.bin .cons (.var 7) (.bin .cons (.var 8) (.bin .cons (.var 9) (.bin .cons (.var 10) (.bin .cons (.var 11) (.bin .cons (.var 12) (.bin .cons (.var 13) (.bin .cons (.var 14) (.bin .cons (.var 15) (.bin .cons (.var 16) (.bin .cons (.var 17) (.bin .cons (.var 18) (.bin .cons (.var 19) (.bin .cons (.var 20) (.bin .cons (.var 21) (.bin .cons (.var 22) (.bin .cons (.var 23) (.bin .cons (.var 24) .nil)))))))))))))))))))))))))) (.int 4)) (.bin .idx (.fn 60 (.bin .cons (.var 0) (.bin .cons (.var 1) (.bin .cons (.var 2) (.bin .cons (.var 3) (.bin .cons (.var 4) (.bin .cons (.var 5) (.bin .cons (.var 6) (.bin .cons (.var 7) (.bin .cons (.var 8) (.bin .cons (.var 9) (.bin .cons (.var 10) (.bin .cons (.var 11) (.bin .cons (.var 12) (.bin .cons (.var 13) (.bin .cons (.var 14) (.bin .cons (.var 15) (.bin .cons (.var 16) (.bin .cons (.var 17) (.bin .cons (.var 18) (.bin .cons (.var 19) (.bin .cons (.var 20) (.bin .cons (.var 21) (.bin .cons (.var 22) (.bin .cons (.var 23) (.bin .cons (.var 24) .nil)))))))))))))))))))))))))) (.int 4)))))))
     (.br (.bin .and (.bin .eq (.bin .idx (.fn 56 (.bin .cons (.var 0) (.bin .cons (.var 1) (.bin .cons (.var 2) (.bin .cons (.var 3) (.bin .cons (.var 4) (.bin .cons (.var 5) (.bin .cons (.var 6) (.bin .cons (.var 7) (.bin .cons (.var 8) (.bin .cons (.var 9) (.bin .cons (.var 10) (.bin .cons (.var 11) (.bin .cons (.var 12) (.bin .cons (.var 13) (.bin .cons (.var 14) (.bin .cons (.var 15) (.bin .cons (.var 16) (.bin .cons (.var 17) (.bin .cons (.var 18) (.bin .cons (.var 19) (.bin .cons (.var 20) (.bin .cons (.var 21) (.bin .cons (.var 22) (.bin .cons (.var 23) (.bin .cons (.var 24) .nil)))))))))))))))))))))))))) (.int 5)) (.bin .idx (.fn 60 (.bin .cons (.var 0) (.bin .cons (.var 1) (.bin .cons (.var 2) (.bin .cons (.var 3) (.bin .cons (.var 4) (.bin .cons (.var 5) (.bin .cons (.var 6) (.bin .cons (.var 7) (.bin .cons (.var 8) (.bin .cons (.var 9) (.bin .cons (.var 10) (.bin .cons (.var 11) (.bin .cons (.var 12) (.bin .cons (.var 13) (.bin .cons (.var 14) (.bin .cons (.var 15) (.bin .cons (.var 16) (.bin .cons (.var 17) (.bin .cons (.var 18) (.bin .cons (.var 19) (.bin .cons (.var 20) (.bin .cons (.var 21) (.bin .cons (.var 22) (.bin .cons (.var 23) (.bin .cons (.var 24) .nil)))))))))))))))))))))))))) (.int 5))) (.bin .and (.bin .eq (.bin .idx (.fn 56 (.bin .cons (.var 0) (.bin .cons (.var 1) (.bin .cons (.var 2) (.bin .cons (.var 3) (.bin .cons (.var 4) (.bin .cons (.var 5) (.bin .cons (.var 6) (.bin .cons (.var 7) (.bin .cons (.var 8) (.bin .cons (.var 9) (.bin .cons (.var 10) (.bin .cons (.var 11) (.bin .cons (.var 12) (.bin .cons (.var 13) (.bin .cons (.var 14) (.bin .cons (.var 15) (.bin .cons (.var 16) (.bin .cons (.var 17) (.bin .cons (.var 18) (.bin .cons (.var 19) (.bin .cons (.var 20) (.bin .cons (.var 21) (.bin .cons (.var 22) (.bin .cons (.var 23) (.bin .cons (.var 24) .nil)))))))))))))))))))))))))) (.int 6)) (.bin .idx (.fn 60 (.bin .cons (.var 0) (.bin .cons (.var 1) (.bin .cons (.var 2) (.bin .cons (.var 3) (.bin .cons (.var 4) (.bin .cons (.var 5) (.bin .cons (.var 6) (.bin .cons (.var 7) (.bin .cons (.var 8) (.bin .cons (.var 9) (.bin .cons (.var 10) (.bin .cons (.var 11) (.bin .cons (.var 12) (.bin .cons (.var 13) (.bin .cons (.var 14) (.bin .cons (.var 15) (.bin .cons (.var 16) (.bin .cons (.var 17) (.bin .cons (.var 18) (.bin .cons (.var 19) (.bin .cons (.var 20) (.bin .cons (.var 21) (.bin .cons (.var 22) (.bin .cons (.var 23) (.bin .cons (.var 24) .nil)))))))))))))))))))))))))) (.int 6))) (.bin .and (.bin .eq (.bin .idx (.fn 56 (.bin .cons (.var 0) (.bin .cons (.var 1) (.bin .cons (.var 2) (.bin .cons (.var 3) (.bin .cons (.var 4) (.bin .cons (.var 5) (.bin .cons (.var 6) (.bin .cons (.var 7) (.bin .cons (.var 8) (.bin .cons (.var 9) (.bin .cons (.var 10) (.bin .cons (.var 11) (.bin .cons (.var 12) (.bin .cons (.var 13) (.bin .cons (.var 14) (.bin .cons (.var 15) (.bin .cons (.var 16) (.bin .cons (.var 17) (.bin .cons (.var 18) (.bin .cons (.var 19) (.bin .cons (.var 20) (.bin .cons (.var 21) (.bin .cons (.var 22) (.bin .cons (.var 23) (.bin .cons (.var 24) .nil)))))))))))))))))))))))))) (.int 7)) (.bin .idx (.fn 60 (.bin .cons (.var 0) (.bin .cons (.var 1) (.bin .cons (.var 2) (.bin .cons (.var 3) (.bin .cons (.var 4) (.bin .cons (.var 5) (.bin .cons (.var 6) (.bin .cons (.var 7) (.bin .cons (.var 8) (.bin .cons (.var 9) (.bin .cons (.var 10) (.bin .cons (.var 11) (.bin .cons (.var 12) (.bin .cons (.var 13) (.bin .cons (.var 14) (.bin .cons (.var 15) (.bin .cons (.var 16) (.bin .cons (.var 17) (.bin .cons (.var 18) (.bin .cons (.var 19) (.bin .cons (.var 20) (.bin .cons (.var 21) (.bin .cons (.var 22) (.bin .cons (.var 23) (.bin .cons (.var 24) .nil)))))))))))))))))))))))))) (.int 7))) (.bin .and (.bin .eq (.bin .idx (.fn 56 (.bin .cons (.var 0) (.bin .cons (.var 1) (.bin .cons (.var 2) (.bin .cons (.var 3) (.bin .cons (.var 4) (.bin .cons (.var 5) (.bin .cons (.var 6) (.bin .cons (.var 7) (.bin .cons (.var 8) (.bin .cons (.var 9) (.bin .cons (.var 10) (.bin .cons (.var 11) (.bin .cons (.var 12) (.bin .cons (.var 13) (.bin .cons (.var 14) (.bin .cons (.var 15) (.bin .cons (.var 16) (.bin .cons (.var 17) (.bin .cons (.var 18) (.bin .cons (.var 19) (.bin .cons (.var 20) (.bin .cons (.var 21) (.bin .cons (.var 22) (.bin .cons (.var 23) (.bin .cons (.var 24) .nil)))))))))))))))))))))))))) (.int 8)) (.bin .idx (.fn 60 (.bin .cons (.var 0) (.bin .cons (.var 1) (.bin .cons (.var 2) (.bin .cons (.var 3) (.bin .cons (.var 4) (.bin .cons (.var 5) (.bin .cons (.var 6) (.bin .cons (.var 7) (.bin .cons (.var 8) (.bin .cons (.var 9) (.bin .cons (.var 10) (.bin .cons (.var 11) (.bin .cons (.var 12) (.bin .cons (.var 13) (.bin .cons (.var 14) (.bin .cons (.var 15) (.bin .cons (.var 16) (.bin .cons (.var 17) (.bin .cons (.var 18) (.bin .cons (.var 19) (.bin .cons (.var 20) (.bin .cons (.var 21) (.bin .cons (.var 22) (.bin .cons (.var 23) (.bin .cons (.var 24) .nil)))))))))))))))))))))))))) (.int 8))) (.bin .and (.bin .eqb (.bin .idx (.fn 56 (.bin .cons (.var 0) (.bin .cons (.var 1) (.bin .cons (.var 2) (.bin .cons (.var 3) (.bin .cons (.var 4) (.bin .cons (.var 5) (.bin .cons (.var 6) (.bin .cons (.var 7) (.bin .cons (.var 8) (.bin .cons (.var 9) (.bin .cons (.var 10) (.bin .cons (.var 11) (.bin .cons (.var 12) (.bin .cons (.var 13) (.bin .cons (.var 14) (.bin .cons (.var 15) (.bin .cons (.var 16) (.bin .cons (.var 17) (.bin .cons (.var 18) (.bin .cons (.var 19) (.bin .cons (.var 20) (.bin .cons (.var 21) (.bin .cons (.var 22) (.bin .cons (.var 23) (.bin .cons (.var 24) .nil)))))))))))))))))))))))))) (.int 9)) (.bin .idx (.fn 60 (.bin .cons (.var 0) (.bin .cons (.var 1) (.bin .cons (.var 2) (.bin .cons (.var 3) (.bin .cons (.var 4) (.bin .cons (.var 5) (.bin .cons (.var 6) (.bin .cons (.var 7) (.bin .cons (.var 8) (.bin .cons (.var 9) (.bin .cons (.var 10) (.bin .cons (.var 11) (.bin .cons (.var 12) (.bin .cons (.var 13) (.bin .cons (.var 14) (.bin .cons (.var 15) (.bin .cons (.var 16) (.bin .cons (.var 17) (.bin .cons (.var 18) (.bin .cons (.var 19) (.bin .cons (.var 20) (.bin .cons (.var 21) (.bin .cons (.var 22) (.bin .cons (.var 23) (.bin .cons (.var 24) .nil)))))))))))))))))))))))))) (.int 9))) (.bin .and (.bin .eqb (.bin .idx (.fn 56 (.bin .cons (.var 0) (.bin .cons (.var 1) (.bin .cons (.var 2) (.bin .cons (.var 3) (.bin .cons (.var 4) (.bin .cons (.var 5) (.bin .cons (.var 6) (.bin .cons (.var 7) (.bin .cons (.var 8) (.bin .cons (.var 9) (.bin .cons (.var 10) (.bin .cons (.var 11) (.bin .cons (.var 12) (.bin .cons (.var 13) (.bin .cons (.var 14) (.bin .cons (.var 15) (.bin .cons (.var 16) (.bin .cons (.var 17) (.bin .cons (.var 18) (.bin .cons (.var 19) (.bin .cons (.var 20) (.bin .cons (.var 21) (.bin .cons (.var 22) (.bin .cons (.var 23) (.bin .cons (.var 24) .nil)))))))))))))))))))))))))) (.int 10)) (.bin .idx (.fn 60 (.bin .cons (.var 0) (.bin .cons (.var 1) (.bin .cons (.var 2) (.bin .cons (.var 3) (.bin .cons (.var 4) (.bin .cons (.var 5) (.bin .cons (.var 6) (.bin .cons (.var 7) (.bin .cons (.var 8) (.bin .cons (.var 9) (.bin .cons (.var 10) (.bin .cons (.var 11) (.bin .cons (.var 12) (.bin .cons (.var 13) (.bin .cons (.var 14) (.bin .cons (.var 15) (.bin .cons (.var 16) (.bin .cons (.var 17) (.bin .cons (.var 18) (.bin .cons (.var 19) (.bin .cons (.var 20) (.bin .cons (.var 21) (.bin .cons (.var 22) (.bin .cons (.var 23) (.bin .cons (.var 24) .nil)))))))))))))))))))))))))) (.int 10))) (.bin .eq (.bin .idx (.fn 56 (.bin .cons (.var 0) (.bin .cons (.var 1) (.bin .cons (.var 2) (.bin .cons (.var 3) (.bin .cons (.var 4) (.bin .cons (.var 5) (.bin .cons (.var 6) (.bin .cons (.var 7) (.bin .cons (.var 8) (.bin .cons (.var 9) (.bin .cons (.var 10) (.bin .cons (.var 11) (.bin .cons (.var 12) (.bin .cons (.var 13) (.bin .cons (.var 14) (.bin .cons (.var 15) (.bin .cons (.var 16) (.bin .cons (.var 17) (.bin .cons (.var 18) (.bin .cons (.var 19) (.bin .cons (.var 20) (.bin .cons (.var 21) (.bin .cons (.var 22) (.bin .cons (.var 23) (.bin .cons (.var 24) .nil)))))))))))))))))))))))))) (.int 11)) (.bin .idx (.fn 60 (.bin .cons (.var 0) (.bin .cons (.var 1) (.bin .cons (.var 2) (.bin .cons (.var 3) (.bin .cons (.var 4) (.bin .cons (.var 5) (.bin .cons (.var 6) (.bin .cons (.var 7) (.bin .cons (.var 8) (.bin .cons (.var 9) (.bin .cons (.var 10) (.bin .cons (.var 11) (.bin .cons (.var 12) (.bin .cons (.var 13) (.bin .cons (.var 14) (.bin .cons (.var 15) (.bin .cons (.var 16) (.bin .cons (.var 17) (.bin .cons (.var 18) (.bin .cons (.var 19) (.bin .cons (.var 20) (.bin .cons (.var 21) (.bin .cons (.var 22) (.bin .cons (.var 23) (.bin .cons (.var 24) .nil)))))))))))))))))))))))))) (.int 11)))))))))
      (.br (.bin .eqb (.bin .idx (.fn 56 (.bin .cons (.var 0) (.bin .cons (.var 1) (.bin .cons (.var 2) (.bin .cons (.var 3) (.bin .cons (.var 4) (.bin .cons (.var 5) (.bin .cons (.var 6) (.bin .cons (.var 7) (.bin .cons (.var 8) (.bin .cons (.var 9) (.bin .cons (.var 10) (.bin .cons (.var 11) (.bin .cons (.var 12) (.bin .cons (.var 13) (.bin .cons (.var 14) (.bin .cons (.var 15) (.bin .cons (.var 16) (.bin .cons (.var 17) (.bin .cons (.var 18) (.bin .cons (.var 19) (.bin .cons (.var 20) (.bin .cons (.var 21) (.bin .cons (.var 22) (.bin .cons (.var 23) (.bin .cons (.var 24) .nil)))))))))))))))))))))))))) (.int 12)) (.bin .idx (.fn 60 (.bin .cons (.var 0) (.bin .cons (.var 1) (.bin .cons (.var 2) (.bin .cons (.var 3) (.bin .cons (.var 4) (.bin .cons (.var 5) (.bin .cons (.var 6) (.bin .cons (.var 7) (.bin .cons (.var 8) (.bin .cons (.var 9) (.bin .cons (.var 10) (.bin .cons (.var 11) (.bin .cons (.var 12) (.bin .cons (.var 13) (.bin .cons (.var 14) (.bin .cons (.var 15) (.bin .cons (.var 16) (.bin .cons (.var 17) (.bin .cons (.var 18) (.bin .cons (.var 19) (.bin .cons (.var 20) (.bin .cons (.var 21) (.bin .cons (.var 22) (.bin .cons (.var 23) (.bin .cons (.var 24) .nil)))))))))))))))))))))))))) (.int 12)))
       (.br (.bin .eq (.var 4) (.int 1))
        (.leaf [(.bool true)])
        (.br (.bin .eq (.var 4) (.int 3))
         (.leaf [(.bin .eqb (.bin .le (.int 2) (.var 20)) (.un .not (.bin .le (.var 20) (.int 1))))])
         (.leaf [(.bool true)])))
       (.leaf [(.bool false)]))
      (.leaf [(.bool false)]))
     (.leaf [(.bool false)]))
    (.leaf [(.bool false)]))))
 (.leaf [(.bin .idx (.fn 20 .nil) (.int 0))]))

def visibleMatchesSm : List (Nat × Smy) := [(27, ⟨20, [], [.one (.pl .bool)], fun _ => [], none⟩), (33, ⟨41, [.agg [.pl (.int .i64), .pl (.int .i64), .pl (.int .i64), .pl (.int .i64), .pl (.int .i64)]], [.agg [.pl (.int .i64), .pl (.int .i64), .pl (.int .i64), .pl (.int .i64), .pl (.int .i64), .pl (.int .i64), .pl (.int .i64), .pl (.int .i64), .pl (.int .i64), .pl (.int .i64), .pl (.int .i64), .pl (.int .i64), .pl (.int .i64)], .one (.pl (.int .i64))], fun _ => [], none⟩), (29, ⟨56, [.agg [.pl (.int .i64), .pl (.int .i64), .pl (.int .i64), .pl (.int .i64), .pl (.int .i64), .pl (.int .i64), .pl (.int .i64), .pl (.int .i64), .pl (.int .i64), .pl (.int .i64), .pl (.int .i64), .pl (.int .i64), .pl (.int .i64)], .one (.pl (.int .i64)), .agg [.pl (.int .i64), .pl (.int .i64), .pl (.int .i64), .pl (.int .i64), .pl (.int .i64), .pl (.int .i64), .pl (.int .i64), .rows false [.int .i64, .int .i64, .int .i64], .rows false [.int .i64, .int .i64], .rows false [.bool]], .one (.rows false [.int .i64, .bool])], [.agg [.pl (.int .i64), .pl (.int .i64), .pl (.int .i64), .pl (.int .i64), .pl .str], .agg [.pl (.int .i64), .pl (.int .i64), .pl (.int .i64), .pl (.int .i64), .pl .bool, .pl .bool, .pl (.int .i64)], .one (.pl .bool)], lenC [(24, 1000000)], none⟩), (30, ⟨60, [.agg [.pl (.int .i64), .pl (.int .i64), .pl (.int .i64), .pl (.int .i64), .pl (.int .i64), .pl (.int .i64), .pl (.int .i64), .pl (.int .i64), .pl (.int .i64), .pl (.int .i64), .pl (.int .i64), .pl (.int .i64), .pl (.int .i64)], .one (.pl (.int .i64)), .agg [.pl (.int .i64), .pl (.int .i64), .pl (.int .i64), .pl (.int .i64), .pl (.int .i64), .pl (.int .i64), .pl (.int .i64), .rows false [.int .i64, .int .i64, .int .i64], .rows false [.int .i64, .int .i64], .rows false [.bool]], .one (.rows false [.int .i64, .bool])], [.agg [.pl (.int .i64), .pl (.int .i64), .pl (.int .i64), .pl (.int .i64), .pl .str], .agg [.pl (.int .i64), .pl (.int .i64), .pl (.int .i64), .pl (.int .i64), .pl .bool, .pl .bool, .pl (.int .i64)], .one (.pl .bool)], lenC [(24, 1000000)], none⟩)]
def visibleMatchesLa : List (LK × LA) := []
def visibleMatchesPhi : Nat → DV → DV := fun n d => match n with
  | 20 => .list (lSane18F d.l)
  | 41 => .list (rOfF d.l)
  | 56 => .list (viNextF d.l)
  | 60 => .list (rvNextF d.l)
  | _ => d
theorem visibleMatchesS : SmyOk Try.prog visibleMatchesPhi visibleMatchesSm := (smy_cons (fun _ => True) lSane18F lSane18_pure (fun _ _ _ _ => trivial) (fun _ => rfl) (fun _ h => by cases h) (smy_cons (fun _ => True) rOfF rOf_pure (fun _ _ _ _ => trivial) (fun _ => rfl) (fun _ h => by cases h) (smy_cons (lenP [(24, 1000000)]) viNextF viNext_pure (len_hp [(24, 1000000)]) (fun _ => rfl) (fun _ h => by cases h) (smy_cons (lenP [(24, 1000000)]) rvNextF rvNext_pure (len_hp [(24, 1000000)]) (fun _ => rfl) (fun _ h => by cases h) smy_nil))))
theorem visibleMatchesT : treeOk ⟨Try.prog, visibleMatchesSm, visibleMatchesLa⟩ 4000 8 [.agg [.pl (.int .i64), .pl (.int .i64), .pl (.int .i64), .pl (.int .i64), .pl (.int .i64), .pl (.int .i64), .pl (.int .i64), .pl (.int .i64), .pl (.int .i64), .pl (.int .i64), .pl (.int .i64), .pl (.int .i64), .pl (.int .i64), .pl (.int .i64), .pl (.int .i64), .pl (.int .i64), .pl (.int .i64), .pl (.int .i64), .pl (.int .i64), .pl (.int .i64), .pl (.int .i64), .rows false [.int .i64, .int .i64, .int .i64], .rows false [.int .i64, .int .i64], .rows false [.bool], .rows false [.int .i64, .bool]]] [.one (.pl .bool)] (rng 0 9223372036854775807 (.un .len (.var 24)) ++ ([])) visibleMatchesTree = true := by decide +kernel
set_option maxHeartbeats 1000000 in
theorem visibleMatches_pure : Pure Try.prog 8 [.agg [.pl (.int .i64), .pl (.int .i64), .pl (.int .i64), .pl (.int .i64), .pl (.int .i64), .pl (.int .i64), .pl (.int .i64), .pl (.int .i64), .pl (.int .i64), .pl (.int .i64), .pl (.int .i64), .pl (.int .i64), .pl (.int .i64), .pl (.int .i64), .pl (.int .i64), .pl (.int .i64), .pl (.int .i64), .pl (.int .i64), .pl (.int .i64), .pl (.int .i64), .pl (.int .i64), .rows false [.int .i64, .int .i64, .int .i64], .rows false [.int .i64, .int .i64], .rows false [.bool], .rows false [.int .i64, .bool]]] [.one (.pl .bool)] (Wts (clsOf [.agg [.pl (.int .i64), .pl (.int .i64), .pl (.int .i64), .pl (.int .i64), .pl (.int .i64), .pl (.int .i64), .pl (.int .i64), .pl (.int .i64), .pl (.int .i64), .pl (.int .i64), .pl (.int .i64), .pl (.int .i64), .pl (.int .i64), .pl (.int .i64), .pl (.int .i64), .pl (.int .i64), .pl (.int .i64), .pl (.int .i64), .pl (.int .i64), .pl (.int .i64), .pl (.int .i64), .rows false [.int .i64, .int .i64, .int .i64], .rows false [.int .i64, .int .i64], .rows false [.bool], .rows false [.int .i64, .bool]]])) visibleMatchesF := by
  refine pure_tree (X := ⟨Try.prog, visibleMatchesSm, visibleMatchesLa⟩) (Checked.mixed Try.checked) visibleMatchesS (by decide +kernel) (by decide +kernel) visibleMatchesT (by decide +kernel) ?_
  intro ds hl hp
  obtain ⟨d0, d1, d2, d3, d4, d5, d6, d7, d8, d9, d10, d11, d12, d13, d14, d15, d16, d17, d18, d19, d20, d21, d22, d23, d24, rfl⟩ := len25 hl
  obtain ⟨_, _, he, w0, hp⟩ := hp
  cases he
  have r0 : -9223372036854775808 ≤ d0.i ∧ d0.i ≤ 9223372036854775807 := wt_i w0 rfl rfl
  clear w0
  obtain ⟨_, _, he, w1, hp⟩ := hp
  cases he
  have r1 : -9223372036854775808 ≤ d1.i ∧ d1.i ≤ 9223372036854775807 := wt_i w1 rfl rfl
  clear w1
  obtain ⟨_, _, he, w2, hp⟩ := hp
  cases he
  have r2 : -9223372036854775808 ≤ d2.i ∧ d2.i ≤ 9223372036854775807 := wt_i w2 rfl rfl
  clear w2
  obtain ⟨_, _, he, w3, hp⟩ := hp
  cases he
  have r3 : -9223372036854775808 ≤ d3.i ∧ d3.i ≤ 9223372036854775807 := wt_i w3 rfl rfl
  clear w3
  obtain ⟨_, _, he, w4, hp⟩ := hp
  cases he
  have r4 : -9223372036854775808 ≤ d4.i ∧ d4.i ≤ 9223372036854775807 := wt_i w4 rfl rfl
  clear w4
  obtain ⟨_, _, he, w5, hp⟩ := hp
  cases he
  have r5 : -9223372036854775808 ≤ d5.i ∧ d5.i ≤ 9223372036854775807 := wt_i w5 rfl rfl
  clear w5
  obtain ⟨_, _, he, w6, hp⟩ := hp
  cases he
  have r6 : -9223372036854775808 ≤ d6.i ∧ d6.i ≤ 9223372036854775807 := wt_i w6 rfl rfl
  clear w6
  obtain ⟨_, _, he, w7, hp⟩ := hp
  cases he
  have r7 : -9223372036854775808 ≤ d7.i ∧ d7.i ≤ 9223372036854775807 := wt_i w7 rfl rfl
  clear w7
  obtain ⟨_, _, he, w8, hp⟩ := hp
  cases he
  have r8 : -9223372036854775808 ≤ d8.i ∧ d8.i ≤ 9223372036854775807 := wt_i w8 rfl rfl
  clear w8
  obtain ⟨_, _, he, w9, hp⟩ := hp
  cases he
  have r9 : -9223372036854775808 ≤ d9.i ∧ d9.i ≤ 9223372036854775807 := wt_i w9 rfl rfl
  clear w9
  obtain ⟨_, _, he, w10, hp⟩ := hp
  cases he
  have r10 : -9223372036854775808 ≤ d10.i ∧ d10.i ≤ 9223372036854775807 := wt_i w10 rfl rfl
  clear w10
  obtain ⟨_, _, he, w11, hp⟩ := hp
  cases he
  have r11 : -9223372036854775808 ≤ d11.i ∧ d11.i ≤ 9223372036854775807 := wt_i w11 rfl rfl
  clear w11
  obtain ⟨_, _, he, w12, hp⟩ := hp
  cases he
  have r12 : -9223372036854775808 ≤ d12.i ∧ d12.i ≤ 9223372036854775807 := wt_i w12 rfl rfl
  clear w12
  obtain ⟨_, _, he, w13, hp⟩ := hp
  cases he
  have r13 : -9223372036854775808 ≤ d13.i ∧ d13.i ≤ 9223372036854775807 := wt_i w13 rfl rfl
  clear w13
  obtain ⟨_, _, he, w14, hp⟩ := hp
  cases he
  have r14 : -9223372036854775808 ≤ d14.i ∧ d14.i ≤ 9223372036854775807 := wt_i w14 rfl rfl
  clear w14
  obtain ⟨_, _, he, w15, hp⟩ := hp
  cases he
  have r15 : -9223372036854775808 ≤ d15.i ∧ d15.i ≤ 9223372036854775807 := wt_i w15 rfl rfl
  clear w15
  obtain ⟨_, _, he, w16, hp⟩ := hp
  cases he
  have r16 : -9223372036854775808 ≤ d16.i ∧ d16.i ≤ 9223372036854775807 := wt_i w16 rfl rfl
  clear w16
  obtain ⟨_, _, he, w17, hp⟩ := hp
  cases he
  have r17 : -9223372036854775808 ≤ d17.i ∧ d17.i ≤ 9223372036854775807 := wt_i w17 rfl rfl
  clear w17
  obtain ⟨_, _, he, w18, hp⟩ := hp
  cases he
  have r18 : -9223372036854775808 ≤ d18.i ∧ d18.i ≤ 9223372036854775807 := wt_i w18 rfl rfl
  clear w18
  obtain ⟨_, _, he, w19, hp⟩ := hp
  cases he
  have r19 : -9223372036854775808 ≤ d19.i ∧ d19.i ≤ 9223372036854775807 := wt_i w19 rfl rfl
  clear w19
  obtain ⟨_, _, he, w20, hp⟩ := hp
  cases he
  have r20 : -9223372036854775808 ≤ d20.i ∧ d20.i ≤ 9223372036854775807 := wt_i w20 rfl rfl
  clear w20
  obtain ⟨_, _, he, w21, hp⟩ := hp
  cases he
  have b21 : ((d21.l.map deciii).length : Int) ≤ 9223372036854775807 := by rw [List.length_map]; exact wt_len w21
  have v21 := wt_iii w21
  clear w21
  obtain ⟨_, _, he, w22, hp⟩ := hp
  cases he
  have b22 : ((d22.l.map decii).length : Int) ≤ 9223372036854775807 := by rw [List.length_map]; exact wt_len w22
  have v22 := wt_ii w22
  clear w22
  obtain ⟨_, _, he, w23, hp⟩ := hp
  cases he
  have b23 : ((d23.l.map DV.b).length : Int) ≤ 9223372036854775807 := by rw [List.length_map]; exact wt_len w23
  clear w23
  obtain ⟨_, _, he, w24, hp⟩ := hp
  cases he
  have b24 : ((d24.l.map decib).length : Int) ≤ 9223372036854775807 := by rw [List.length_map]; exact wt_len w24
  have v24 := wt_ib w24
  clear w24
  have hN : nrmL (clsOf [.agg [.pl (.int .i64), .pl (.int .i64), .pl (.int .i64), .pl (.int .i64), .pl (.int .i64), .pl (.int .i64), .pl (.int .i64), .pl (.int .i64), .pl (.int .i64), .pl (.int .i64), .pl (.int .i64), .pl (.int .i64), .pl (.int .i64), .pl (.int .i64), .pl (.int .i64), .pl (.int .i64), .pl (.int .i64), .pl (.int .i64), .pl (.int .i64), .pl (.int .i64), .pl (.int .i64), .rows false [.int .i64, .int .i64, .int .i64], .rows false [.int .i64, .int .i64], .rows false [.bool], .rows false [.int .i64, .bool]]]) [d0, d1, d2, d3, d4, d5, d6, d7, d8, d9, d10, d11, d12, d13, d14, d15, d16, d17, d18, d19, d20, d21, d22, d23, d24] = [.int d0.i, .int d1.i, .int d2.i, .int d3.i, .int d4.i, .int d5.i, .int d6.i, .int d7.i, .int d8.i, .int d9.i, .int d10.i, .int d11.i, .int d12.i, .int d13.i, .int d14.i, .int d15.i, .int d16.i, .int d17.i, .int d18.i, .int d19.i, .int d20.i, .list ((d21.l.map deciii).map enciii), .list ((d22.l.map decii).map encii), .list ((d23.l.map DV.b).map DV.bool), .list ((d24.l.map decib).map encib)] := by
    simp only [clsOf, Sh.cls, List.append_nil, List.cons_append, List.nil_append, nrmL, Cl.nrm, CK.nrm, map_Lb, map_Lib, map_Lii, map_Liii]
  have hF : visibleMatchesF [d0, d1, d2, d3, d4, d5, d6, d7, d8, d9, d10, d11, d12, d13, d14, d15, d16, d17, d18, d19, d20, d21, d22, d23, d24] = [.bool true] := rfl
  rw [hN, hF]
  clear hN hp hl hF
  generalize d0.i = x0 at r0 ⊢
  generalize d1.i = x1 at r1 ⊢
  generalize d2.i = x2 at r2 ⊢
  generalize d3.i = x3 at r3 ⊢
  generalize d4.i = x4 at r4 ⊢
  generalize d5.i = x5 at r5 ⊢
  generalize d6.i = x6 at r6 ⊢
  generalize d7.i = x7 at r7 ⊢
  generalize d8.i = x8 at r8 ⊢
  generalize d9.i = x9 at r9 ⊢
  generalize d10.i = x10 at r10 ⊢
  generalize d11.i = x11 at r11 ⊢
  generalize d12.i = x12 at r12 ⊢
  generalize d13.i = x13 at r13 ⊢
  generalize d14.i = x14 at r14 ⊢
  generalize d15.i = x15 at r15 ⊢
  generalize d16.i = x16 at r16 ⊢
  generalize d17.i = x17 at r17 ⊢
  generalize d18.i = x18 at r18 ⊢
  generalize d19.i = x19 at r19 ⊢
  generalize d20.i = x20 at r20 ⊢
  generalize d21.l.map deciii = x21 at b21 v21 ⊢
  generalize d22.l.map decii = x22 at b22 v22 ⊢
  generalize d23.l.map DV.b = x23 at b23 ⊢
  generalize d24.l.map decib = x24 at b24 v24 ⊢
  refine ⟨(rng_ok (e := .un .len (.var 24)) (Int.natCast_nonneg _) (by show ((x24.map _).length : Int) ≤ _; rw [List.length_map]; exact b24) (facts_nil _)), ?_⟩
  unfold visibleMatchesTree
  simp only [Sat, clsOf, Sh.cls, List.append_nil, List.cons_append, List.nil_append, nrmL, Cl.nrm, CK.nrm, List.map_cons, List.map_nil, List.length_cons, List.length_nil, List.cons.injEq, DV.bool.injEq, DV.int.injEq, DV.list.injEq, DV.str.injEq, and_true, true_and]
  simp only [q_le, q_eq, q_eqs, q_eqb, q_and, q_or, q_not, q_bool, iff_true, iff_false, Bool.not_true, Bool.not_false, Bool.false_eq_true, Bool.true_eq_false, eq_self, Bool.not_not]
  simp only [Bool.not_true, Bool.not_false, Bool.true_eq_false, SE.den, evU, evT, ev_le, ev_eq, ev_eqs, ev_eqb, ev_slt, ev_and, ev_or, ev_add, ev_sub, ev_mul, ev_tdiv, ev_tmod, ev_band, ev_bor, ev_bxor, ev_bandn, ev_shl, ev_shr, ev_cat, ev_byte, ev_idx, ev_cons, ev_snoc, ev_app, ev_take, ev_drop, ev_stake, ev_sdrop, ev_rep, leB_q, eqB_q, eqsB_q, not_q, i_if, b_if, l_if, s_if, i_int, b_bool, s_str, l_list, envL, List.getElem?_cons_succ, List.getElem?_cons_zero, List.getElem?_nil, Option.getD_some, Option.getD_none, Int.toNat_natCast, Int.toNat_zero, Int.reduceToNat, List.length_map, get_Li, get_Lb, get_Ls, set_Li, inj_Li, inj_Lb, inj_Ls, rows_i, rows_b, rows_s, Int.zero_add, iff_true, iff_false, and_true, true_and, Bool.false_eq_true, eq_self, not_true_eq_false, not_false_eq_true, List.length_replicate, DV.int.injEq, DV.bool.injEq, DV.str.injEq, DV.list.injEq, List.cons.injEq, f_ib_0, rows_ib, inj_Lib, f_ib_1, rows_ib, inj_Lib, f_ii_0, rows_ii, inj_Lii, f_ii_1, rows_ii, inj_Lii, f_iii_0, rows_iii, inj_Liii, f_iii_1, rows_iii, inj_Liii, f_iii_2, rows_iii, inj_Liii, visibleMatchesPhi, lSane18F, lSane18E, rOfF, rOfE, viNextF, viNextE, rvNextF, rvNextE, gi, gb, gs, gLi, gLu, gLb, gLs, dece_i, dece_b, dece_s, gLib, deces_ib, gLii, deces_ii, gLiii, deces_iii, nx_0, nx_1, nx_2, nx_3, nx_4, nx_5, nx_6, nx_7, nx_8, nx_9, nx_10, nx_11, nx_12]
  have hc : ∀ cr cw st me k, viTopM (fun m => IntKind.i64.wrap (withM m me)) (fun m => IntKind.i64.wrap (offM m me)) cr cw st me k x24 = viTopM (fun m => rwithM m me) (fun m => roffM m me) cr cw st me k x24 := fun cr cw st me k => by
    unfold viTopM
    rw [viM_congr (log := x24) (chg := fun m => IntKind.i64.wrap (withM m me)) (chg' := fun m => rwithM m me) fun r hr => by
        have := v24 r hr
        unfold withM rwithM
        split
        · exact w64 this.1 this.2
        · rfl]
    rw [viM_congr (log := x24) (chg := fun m => IntKind.i64.wrap (offM m me)) (chg' := fun m => roffM m me) fun r hr => by
        have := v24 r hr
        unfold offM roffM
        split
        · rfl
        · exact w64 this.1 this.2]
  simp only [hc]
  clear v21 v22 v24 hc
  clear b21 b22 b23
  generalize viTopM _ _ _ _ _ _ _ x24 = N
  have hwr : IntKind.i64.wrap x20 = x20 := w64 r20.1 r20.2
  simp only [and_self, true_imp_iff, not_true_eq_false, false_imp_iff, and_true, true_and, implies_true, hwr]
  repeat' (first | apply And.intro | intro)
  all_goals first | exact True.intro | rfl | contradiction | omega | (simp_all; done) | trace_state
namespace row
open Go.ChangeShapes Go.WideShapes Go.ChangeAt Go.RowKit Go.Joins Go.Deep Go.Proofs.Ythofaloahjpidaa
theorem lifted (os : Os) (started : os.Started) (H : Type) (enc : TypeId × Value → H) :
    ReturnsInHanded {} Try.checked os 8 .any (Rows.visibleMatchesSpecSpec.pre6 enc Try.prog Try.f8 Rows.visibleMatchesSpecRow.domain false) (Rows.visibleMatchesSpecSpec.post enc Try.prog Try.f8 false true false false) := by
  refine returnsInHanded_of_change (C := Try.checked) own started (by kernel_rfl) Try.func8
    (ChangeSpec.witness6 (enc := enc) (C := Try.checked) false ⟨#[], #[.agg #[.int .i64 0, .int .i64 0, .int .i64 0, .int .i64 0, .int .i64 0, .int .i64 0, .int .i64 0, .int .i64 0, .int .i64 0, .int .i64 0, .int .i64 0, .int .i64 0, .int .i64 0, .int .i64 0, .int .i64 0, .int .i64 0, .int .i64 0, .int .i64 0, .int .i64 0, .int .i64 0, .int .i64 0, .slice none 0 0, .slice none 0 0, .slice none 0 0, .slice none 0 0]], []⟩ 8 (by kernel_rfl) (by kernel_rfl) (by kernel_rfl) (by kernel_rfl)) ?_
  intro W base args ds gs before hval0 hW hcnd _
  have hval : ∀ (j : Nat) t v, Try.f8.params[j]? = some t → args[j]? = some v → Value.okWide Try.prog W .any base t v := hval0
  have hW' := hW
  obtain ⟨p, q, hA0, hV, rfl, hfz, hnd⟩ := hW
  have hA : DataW.TrodAll enc Try.prog W 0 (fun _ => true) true Try.f8.params.toList args.toList ds p := hA0
  have hval2 : ∀ (j : Nat) t v, Try.f8.params.toList[j]? = some t → args.toList[j]? = some v → Value.okWide Try.prog W .any base t v := fun j t v a b => hval j t v (by simpa using a) (by simpa using b)
  have hcall := law_of visibleMatches_pure (fun _ h => h) (by rw [Try.params8]; kernel_rfl) hA hval2
  rw [Try.params8] at hA
  obtain ⟨v0, vs0, d0, ds0, p0, q0, hargs, rfl, rfl, h0, r0⟩ := trodAll_cons hA
  obtain ⟨rfl, rfl, rfl⟩ := trodAll_nil r0
  obtain rfl : args = #[v0] := by cases args; simp_all
  obtain ⟨rfl, rfl⟩ := trodVars_none hV
  have lt0 : ∀ x ∈ p0, x.block < W.heap.size := by obtain ⟨m, hm⟩ := h0; exact DataW.trod_lt m _ _ _ hm
  clear hA0 hval0 hval2
  refine Calls.mono hcall fun e W' ⟨he, bel⟩ => ?_
  subst he
  exact ⟨_, rfl, _, _, _, [], _, [], hW', trodAll_mk1 (shut_bool Try.underlying4 _), (trodAll_cons_mk (Below.trod laidOut (by kernel_rfl) (of_decide_eq_true (by kernel_rfl)) h0 bel lt0) trodAll_mk0), rfl, bel.frame _, fun h => by cases h⟩
theorem over : Rows.visibleMatchesSpecRow.holds Try.pinned (OpenSpec.ofChange Rows.visibleMatchesSpecSpec) :=
  OpenClaim.holds_of_wide 8 Try.f8 rfl rfl rfl rfl rfl rfl rfl ⟨rfl, rfl, rfl, rfl, rfl⟩ rfl rfl rfl rfl rfl (by kernel_rfl) Try.func8 (by kernel_rfl)
    (of_decide_eq_true (by kernel_rfl)) (by unfold Func.isWrapper; first | (rw [if_pos (by decide +kernel)]; kernel_rfl) | (rw [if_neg (by decide +kernel)]; exact ⟨rfl, rfl⟩))
    (fun os started H enc _ => lifted os started H enc)
end row
theorem visibleMatches_proved : Rows.VisibleMatchesSpecSaid := row.over
end Go.Proofs.Ythofaloahjpidaa
