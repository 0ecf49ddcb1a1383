/- DurableSurvivesCrash: the law returns true for every input, and each argument reads afterwards as it read before. No condition. -/
import Derived.Test.YtkfjgggiopegbaaDoorTie
import Derived.Test.YtkfjgggiopegbaaDoorCards
import Derived.Lay
import Derived.SevenTiedAt
import Derived.Test.YtkfjgggiopegbaaDoorQf
section
namespace Go.Proofs.YtkfjgggiopegbaaDoor
set_option linter.unusedVariables false
set_option linter.unusedSimpArgs false
set_option maxRecDepth 100000
def durableCrashF (ds : List DV) : List DV := [.bool true]
def durableCrashN0 : SE := (.bin .idx (.fn 169 (.bin .cons (.bin .idx (.bin .idx (.bin .idx (.fn 168 (.bin .cons (.var 0) .nil)) (.int 0)) (.bin .add (.int 0) (.var 7))) (.int 0)) (.bin .cons (.bin .idx (.bin .idx (.bin .idx (.fn 168 (.bin .cons (.var 0) .nil)) (.int 0)) (.bin .add (.int 0) (.var 7))) (.int 1)) (.bin .cons (.var 3) .nil)))) (.int 0))
def durableCrashN1 : SE := (.un .len durableCrashN0)
def durableCrashN2 : SE := (.un .not (.bin .le durableCrashN1 (.var 14)))
def durableCrashN3 : SE := (.bin .idx durableCrashN0 (.bin .add (.int 0) (.var 14)))
def durableCrashN4 : SE := (.bin .idx durableCrashN3 (.int 0))
def durableCrashN5 : SE := (.fn 131 (.bin .cons (.var 15) (.bin .cons (.var 16) (.bin .cons (.var 17) (.bin .cons durableCrashN4 (.bin .cons (.bin .idx durableCrashN3 (.int 1)) (.bin .cons (.bin .idx durableCrashN3 (.int 2)) (.bin .cons (.bin .idx durableCrashN3 (.int 3)) (.bin .cons (.bin .idx durableCrashN3 (.int 4)) .nil)))))))))
def durableCrashN6 : SE := (.un .not (.bin .eq (.bin .idx durableCrashN5 (.int 5)) (.int 0)))
def durableCrashN7 : SE := (.un .not (.bin .idx durableCrashN5 (.int 4)))
def durableCrashN8 : SE := (.un (.wrap .i64) (.bin .sub (.un (.wrap .i64) (.bin .add (.var 3) durableCrashN1)) (.int 1)))
def durableCrashN9 : SE := (.bin .idx durableCrashN5 (.int 0))
def durableCrashN10 : SE := (.bin .idx durableCrashN5 (.int 1))
def durableCrashN11 : SE := (.bin .idx durableCrashN5 (.int 2))
def durableCrashN12 : PT := (.br durableCrashN2 (.br (.un .not (.bin .le (.var 11) (.int 0))) (.asrt (.bin .le (.int 0) (.var 14)) (.asrt (.bin .le (.un .len (.var 15)) (.int 1000000)) (.asrt (.bin .le (.un .len (.var 16)) (.int 1000000)) (.asrt (.bin .le (.un .len (.var 17)) (.int 1000000)) (.br durableCrashN6 .fail (.br durableCrashN7 .fail (.br (.bin .eq durableCrashN4 (.int 6)) (.leaf [(.un (.wrap .i64) (.bin .sub (.var 11) (.int 1))), (.un (.wrap .i64) (.bin .add (.var 7) (.int 1))), durableCrashN8, (.un (.wrap .i64) (.bin .add (.var 14) (.int 1))), durableCrashN9, durableCrashN10, durableCrashN11]) (.leaf [(.un (.wrap .i64) (.bin .sub (.var 11) (.int 1))), (.var 12), (.var 13), (.un (.wrap .i64) (.bin .add (.var 14) (.int 1))), durableCrashN9, durableCrashN10, durableCrashN11])))))))) .fail) .fail)
def durableCrashN13 : PT := (.leaf [durableCrashN8, (.var 11), (.var 12), (.var 13), (.un (.wrap .i64) (.bin .add (.var 7) (.int 1))), (.var 15), (.var 16), (.var 17)])
def durableCrashN14 : SE := (.fn 165 (.bin .cons (.int 1) (.bin .cons (.int 5) (.bin .cons (.int 0) (.bin .cons (.int 40) (.bin .cons (.int 0) (.bin .cons (.int 0) (.bin .cons (.int 1) (.bin .cons (.int 2) (.bin .cons (.int 3) (.bin .cons (.int 4) (.bin .cons (.int 8) (.bin .cons (.int 8) (.bin .cons (.int 28) (.bin .cons (.bin .cons (.int (-1)) (.bin .cons (.int (-2)) (.bin .cons (.int (-3)) (.bin .cons (.int (-4)) (.bin .cons (.int (-5)) .nil))))) (.bin .cons (.bin .idx (.fn 86 (.bin .cons (.var 9) (.bin .cons (.var 10) (.bin .cons (.var 2) .nil)))) (.int 0)) (.bin .cons (.bin .idx (.fn 86 (.bin .cons (.var 9) (.bin .cons (.var 10) (.bin .cons (.var 2) .nil)))) (.int 1)) .nil)))))))))))))))))
def durableCrashN15 : SE := (.bin .idx durableCrashN14 (.int 1))
def durableCrashN16 : SE := (.un .len durableCrashN15)
def durableCrashN17 : SE := (.un .not (.bin .le durableCrashN16 (.var 12)))
def durableCrashN18 : SE := (.bin .idx durableCrashN15 (.bin .add (.int 0) (.var 12)))
def durableCrashN19 : SE := (.bin .idx durableCrashN18 (.int 1))
def durableCrashN20 : SE := (.bin .le (.un .len durableCrashN19) (.int 1000000))
def durableCrashN21 : SE := (.un .not (.bin .idx (.fn 113 (.bin .cons (.bin .idx durableCrashN18 (.int 0)) (.bin .cons durableCrashN19 (.bin .cons (.bin .idx (.bin .idx (.bin .idx (.fn 168 (.bin .cons (.var 0) .nil)) (.int 0)) (.bin .add (.int 0) (.var 12))) (.int 0)) (.bin .cons (.bin .idx (.bin .idx (.bin .idx (.fn 168 (.bin .cons (.var 0) .nil)) (.int 0)) (.bin .add (.int 0) (.var 12))) (.int 1)) .nil))))) (.int 0)))
def durableCrashN22 : SE := (.bin .idx (.bin .cons (.int (-1)) (.bin .cons (.int (-2)) (.bin .cons (.int (-3)) (.bin .cons (.int (-4)) (.bin .cons (.int (-5)) .nil))))) (.bin .add (.int 0) (.var 13)))
def durableCrashN23 : SE := (.un .not (.bin .le durableCrashN16 (.var 16)))
def durableCrashN24 : SE := (.un .not (.bin .le (.un .len (.bin .idx (.bin .idx (.bin .idx (.fn 168 (.bin .cons (.var 0) .nil)) (.int 0)) (.bin .add (.int 0) (.var 16))) (.int 1))) (.var 19)))
def durableCrashN25 : PT := (.asrt (.bin .le (.int 0) (.var 16)) (.asrt (.un .not (.bin .le (.un .len (.bin .idx (.fn 168 (.bin .cons (.var 0) .nil)) (.int 0))) (.var 16))) (.br durableCrashN24 (.asrt (.bin .le (.int 0) (.var 19)) (.br (.bin .eq (.bin .idx (.bin .idx (.bin .idx (.bin .idx (.bin .idx (.fn 168 (.bin .cons (.var 0) .nil)) (.int 0)) (.bin .add (.int 0) (.var 16))) (.int 1)) (.var 19)) (.int 0)) (.var 13)) (.leaf [(.bin .idx (.bin .idx (.bin .idx (.bin .idx (.bin .idx (.fn 168 (.bin .cons (.var 0) .nil)) (.int 0)) (.bin .add (.int 0) (.var 16))) (.int 1)) (.var 19)) (.int 1)), (.bin .idx (.bin .idx (.bin .idx (.fn 168 (.bin .cons (.var 0) .nil)) (.int 0)) (.bin .add (.int 0) (.var 16))) (.int 0)), (.un (.wrap .i64) (.bin .add (.var 19) (.int 1)))]) (.leaf [(.var 17), (.var 18), (.un (.wrap .i64) (.bin .add (.var 19) (.int 1)))]))) .fail)))
def durableCrashN26 : PT := (.br durableCrashN23 (.loop 17 [(.var 14), (.var 15), (.int 0)] durableCrashN25 (.asrt (.bin .le (.int 0) (.var 16)) (.asrt (.un .not (.bin .le (.un .len (.bin .idx (.fn 168 (.bin .cons (.var 0) .nil)) (.int 0))) (.var 16))) (.br durableCrashN24 (.asrt (.bin .le (.int 0) (.var 19)) .fail) (.leaf [(.var 17), (.var 18), (.un (.wrap .i64) (.bin .add (.var 16) (.int 1)))]))))) .fail)
def durableCrashN27 : PT := (.loop 17 [(.var 14), (.var 15), (.int 0)] durableCrashN25 (.asrt (.bin .le (.int 0) (.var 16)) (.asrt (.un .not (.bin .le (.un .len (.bin .idx (.fn 168 (.bin .cons (.var 0) .nil)) (.int 0))) (.var 16))) (.br durableCrashN24 (.asrt (.bin .le (.int 0) (.var 19)) .fail) .fail))))
def durableCrashN28 : SE := (.bin .idx durableCrashN14 (.int 0))
def durableCrashN29 : SE := (.bin .cons (.int 1) (.bin .cons (.int 5) (.bin .cons (.int 0) (.bin .cons (.int 40) (.bin .cons (.int 0) (.bin .cons (.int 0) (.bin .cons (.int 1) (.bin .cons (.int 2) (.bin .cons (.int 3) (.bin .cons (.int 4) (.bin .cons (.int 8) (.bin .cons (.int 8) (.bin .cons (.int 28) (.bin .cons (.var 13) .nil))))))))))))))
def durableCrashN30 : SE := (.un .not (.bin .eq (.bin .idx (.fn 24 (.bin .cons durableCrashN28 (.bin .cons (.bin .idx (.fn 32 durableCrashN29) (.int 0)) .nil))) (.int 0)) (.var 14)))
def durableCrashN31 : SE := (.un .not (.bin .eq (.bin .idx (.fn 24 (.bin .cons durableCrashN28 (.bin .cons (.bin .idx (.fn 31 durableCrashN29) (.int 0)) .nil))) (.int 0)) (.un (.wrap .i64) (.bin .mul (.int 2) (.var 15)))))
def durableCrashN32 : PT := (.br (.un .not (.bin .le (.int 5) (.var 13))) (.asrt (.bin .le (.int 0) (.var 13)) (.loop 14 [durableCrashN22, (.int 0), (.int 0)] durableCrashN26 (.br durableCrashN23 durableCrashN27 (.br durableCrashN30 .fail (.br durableCrashN31 .fail (.leaf [(.un (.wrap .i64) (.bin .add (.var 13) (.int 1)))])))))) .fail)
def durableCrashN33 : PT := (.asrt (.bin .le (.int 0) (.var 13)) (.loop 14 [durableCrashN22, (.int 0), (.int 0)] durableCrashN26 (.br durableCrashN23 durableCrashN27 (.br durableCrashN30 (.leaf [(.bool false)]) (.br durableCrashN31 (.leaf [(.bool false)]) .fail)))))
def durableCrashN34 : SE := (.bin .eq (.bin .idx (.fn 24 (.bin .cons durableCrashN28 (.bin .cons (.int 0) .nil))) (.int 0)) (.var 11))
def durableCrashN35 : SE := (.bin .idx (.fn 24 (.bin .cons durableCrashN28 (.bin .cons (.int 3) .nil))) (.int 0))
def durableCrashTree : PT :=
(.br (.un .not (.bin .le (.un .len (.var 0)) (.int 8))) (.leaf [(.bin .idx (.fn 133 .nil) (.int 0))]) (.br (.un .not (.bin .le (.un .len (.var 2)) (.int 20))) (.leaf [(.bin .idx (.fn 133 .nil) (.int 0))]) (.loop 3 [(.int 0), (.bin .tmod (.un (.wrap .i64) (.var 1)) (.int 60)), (.int 0), (.int 0), (.int 0), (.bin .cons (.int 0) (.bin .cons (.int 0) (.bin .cons (.int 0) (.bin .cons (.int 0) .nil)))), (.bin .cons (.str [0, 0, 0, 0, 0, 0, 0, 0, 0, 0, 0, 0, 0, 0, 0, 0, 0, 0, 0, 0, 0, 0, 0, 0, 0, 0, 0, 0, 0, 0, 0, 0]) (.bin .cons (.str [0, 0, 0, 0, 0, 0, 0, 0, 0, 0, 0, 0, 0, 0, 0, 0, 0, 0, 0, 0, 0, 0, 0, 0, 0, 0, 0, 0, 0, 0, 0, 0]) (.bin .cons (.str [0, 0, 0, 0, 0, 0, 0, 0, 0, 0, 0, 0, 0, 0, 0, 0, 0, 0, 0, 0, 0, 0, 0, 0, 0, 0, 0, 0, 0, 0, 0, 0]) (.bin .cons (.str [0, 0, 0, 0, 0, 0, 0, 0, 0, 0, 0, 0, 0, 0, 0, 0, 0, 0, 0, 0, 0, 0, 0, 0, 0, 0, 0, 0, 0, 0, 0, 0]) (.bin .cons (.str [0, 0, 0, 0, 0, 0, 0, 0, 0, 0, 0, 0, 0, 0, 0, 0, 0, 0, 0, 0, 0, 0, 0, 0, 0, 0, 0, 0, 0, 0, 0, 0]) (.bin .cons (.str [0, 0, 0, 0, 0, 0, 0, 0, 0, 0, 0, 0, 0, 0, 0, 0, 0, 0, 0, 0, 0, 0, 0, 0, 0, 0, 0, 0, 0, 0, 0, 0]) (.bin .cons (.str [0, 0, 0, 0, 0, 0, 0, 0, 0, 0, 0, 0, 0, 0, 0, 0, 0, 0, 0, 0, 0, 0, 0, 0, 0, 0, 0, 0, 0, 0, 0, 0]) (.bin .cons (.str [0, 0, 0, 0, 0, 0, 0, 0, 0, 0, 0, 0, 0, 0, 0, 0, 0, 0, 0, 0, 0, 0, 0, 0, 0, 0, 0, 0, 0, 0, 0, 0]) (.bin .cons (.str [0, 0, 0, 0, 0, 0, 0, 0, 0, 0, 0, 0, 0, 0, 0, 0, 0, 0, 0, 0, 0, 0, 0, 0, 0, 0, 0, 0, 0, 0, 0, 0]) (.bin .cons (.str [0, 0, 0, 0, 0, 0, 0, 0, 0, 0, 0, 0, 0, 0, 0, 0, 0, 0, 0, 0, 0, 0, 0, 0, 0, 0, 0, 0, 0, 0, 0, 0]) (.bin .cons (.str [0, 0, 0, 0, 0, 0, 0, 0, 0, 0, 0, 0, 0, 0, 0, 0, 0, 0, 0, 0, 0, 0, 0, 0, 0, 0, 0, 0, 0, 0, 0, 0]) (.bin .cons (.str [0, 0, 0, 0, 0, 0, 0, 0, 0, 0, 0, 0, 0, 0, 0, 0, 0, 0, 0, 0, 0, 0, 0, 0, 0, 0, 0, 0, 0, 0, 0, 0]) (.bin .cons (.str [0, 0, 0, 0, 0, 0, 0, 0, 0, 0, 0, 0, 0, 0, 0, 0, 0, 0, 0, 0, 0, 0, 0, 0, 0, 0, 0, 0, 0, 0, 0, 0]) (.bin .cons (.str [0, 0, 0, 0, 0, 0, 0, 0, 0, 0, 0, 0, 0, 0, 0, 0, 0, 0, 0, 0, 0, 0, 0, 0, 0, 0, 0, 0, 0, 0, 0, 0]) (.bin .cons (.str [0, 0, 0, 0, 0, 0, 0, 0, 0, 0, 0, 0, 0, 0, 0, 0, 0, 0, 0, 0, 0, 0, 0, 0, 0, 0, 0, 0, 0, 0, 0, 0]) (.bin .cons (.str [0, 0, 0, 0, 0, 0, 0, 0, 0, 0, 0, 0, 0, 0, 0, 0, 0, 0, 0, 0, 0, 0, 0, 0, 0, 0, 0, 0, 0, 0, 0, 0]) (.bin .cons (.str [0, 0, 0, 0, 0, 0, 0, 0, 0, 0, 0, 0, 0, 0, 0, 0, 0, 0, 0, 0, 0, 0, 0, 0, 0, 0, 0, 0, 0, 0, 0, 0]) (.bin .cons (.str [0, 0, 0, 0, 0, 0, 0, 0, 0, 0, 0, 0, 0, 0, 0, 0, 0, 0, 0, 0, 0, 0, 0, 0, 0, 0, 0, 0, 0, 0, 0, 0]) (.bin .cons (.str [0, 0, 0, 0, 0, 0, 0, 0, 0, 0, 0, 0, 0, 0, 0, 0, 0, 0, 0, 0, 0, 0, 0, 0, 0, 0, 0, 0, 0, 0, 0, 0]) (.bin .cons (.str [0, 0, 0, 0, 0, 0, 0, 0, 0, 0, 0, 0, 0, 0, 0, 0, 0, 0, 0, 0, 0, 0, 0, 0, 0, 0, 0, 0, 0, 0, 0, 0]) (.bin .cons (.str [0, 0, 0, 0, 0, 0, 0, 0, 0, 0, 0, 0, 0, 0, 0, 0, 0, 0, 0, 0, 0, 0, 0, 0, 0, 0, 0, 0, 0, 0, 0, 0]) (.bin .cons (.str [0, 0, 0, 0, 0, 0, 0, 0, 0, 0, 0, 0, 0, 0, 0, 0, 0, 0, 0, 0, 0, 0, 0, 0, 0, 0, 0, 0, 0, 0, 0, 0]) (.bin .cons (.str [0, 0, 0, 0, 0, 0, 0, 0, 0, 0, 0, 0, 0, 0, 0, 0, 0, 0, 0, 0, 0, 0, 0, 0, 0, 0, 0, 0, 0, 0, 0, 0]) (.bin .cons (.str [0, 0, 0, 0, 0, 0, 0, 0, 0, 0, 0, 0, 0, 0, 0, 0, 0, 0, 0, 0, 0, 0, 0, 0, 0, 0, 0, 0, 0, 0, 0, 0]) (.bin .cons (.str [0, 0, 0, 0, 0, 0, 0, 0, 0, 0, 0, 0, 0, 0, 0, 0, 0, 0, 0, 0, 0, 0, 0, 0, 0, 0, 0, 0, 0, 0, 0, 0]) (.bin .cons (.str [0, 0, 0, 0, 0, 0, 0, 0, 0, 0, 0, 0, 0, 0, 0, 0, 0, 0, 0, 0, 0, 0, 0, 0, 0, 0, 0, 0, 0, 0, 0, 0]) (.bin .cons (.str [0, 0, 0, 0, 0, 0, 0, 0, 0, 0, 0, 0, 0, 0, 0, 0, 0, 0, 0, 0, 0, 0, 0, 0, 0, 0, 0, 0, 0, 0, 0, 0]) (.bin .cons (.str [0, 0, 0, 0, 0, 0, 0, 0, 0, 0, 0, 0, 0, 0, 0, 0, 0, 0, 0, 0, 0, 0, 0, 0, 0, 0, 0, 0, 0, 0, 0, 0]) (.bin .cons (.str [0, 0, 0, 0, 0, 0, 0, 0, 0, 0, 0, 0, 0, 0, 0, 0, 0, 0, 0, 0, 0, 0, 0, 0, 0, 0, 0, 0, 0, 0, 0, 0]) (.bin .cons (.str [0, 0, 0, 0, 0, 0, 0, 0, 0, 0, 0, 0, 0, 0, 0, 0, 0, 0, 0, 0, 0, 0, 0, 0, 0, 0, 0, 0, 0, 0, 0, 0]) (.bin .cons (.str [0, 0, 0, 0, 0, 0, 0, 0, 0, 0, 0, 0, 0, 0, 0, 0, 0, 0, 0, 0, 0, 0, 0, 0, 0, 0, 0, 0, 0, 0, 0, 0]) (.bin .cons (.str [0, 0, 0, 0, 0, 0, 0, 0, 0, 0, 0, 0, 0, 0, 0, 0, 0, 0, 0, 0, 0, 0, 0, 0, 0, 0, 0, 0, 0, 0, 0, 0]) (.bin .cons (.str [0, 0, 0, 0, 0, 0, 0, 0, 0, 0, 0, 0, 0, 0, 0, 0, 0, 0, 0, 0, 0, 0, 0, 0, 0, 0, 0, 0, 0, 0, 0, 0]) (.bin .cons (.str [0, 0, 0, 0, 0, 0, 0, 0, 0, 0, 0, 0, 0, 0, 0, 0, 0, 0, 0, 0, 0, 0, 0, 0, 0, 0, 0, 0, 0, 0, 0, 0]) (.bin .cons (.str [0, 0, 0, 0, 0, 0, 0, 0, 0, 0, 0, 0, 0, 0, 0, 0, 0, 0, 0, 0, 0, 0, 0, 0, 0, 0, 0, 0, 0, 0, 0, 0]) (.bin .cons (.str [0, 0, 0, 0, 0, 0, 0, 0, 0, 0, 0, 0, 0, 0, 0, 0, 0, 0, 0, 0, 0, 0, 0, 0, 0, 0, 0, 0, 0, 0, 0, 0]) (.bin .cons (.str [0, 0, 0, 0, 0, 0, 0, 0, 0, 0, 0, 0, 0, 0, 0, 0, 0, 0, 0, 0, 0, 0, 0, 0, 0, 0, 0, 0, 0, 0, 0, 0]) (.bin .cons (.str [0, 0, 0, 0, 0, 0, 0, 0, 0, 0, 0, 0, 0, 0, 0, 0, 0, 0, 0, 0, 0, 0, 0, 0, 0, 0, 0, 0, 0, 0, 0, 0]) (.bin .cons (.str [0, 0, 0, 0, 0, 0, 0, 0, 0, 0, 0, 0, 0, 0, 0, 0, 0, 0, 0, 0, 0, 0, 0, 0, 0, 0, 0, 0, 0, 0, 0, 0]) (.bin .cons (.str [0, 0, 0, 0, 0, 0, 0, 0, 0, 0, 0, 0, 0, 0, 0, 0, 0, 0, 0, 0, 0, 0, 0, 0, 0, 0, 0, 0, 0, 0, 0, 0]) .nil)))))))))))))))))))))))))))))))))))))))), .nil] (.br (.un .not (.bin .le (.un .len (.bin .idx (.fn 168 (.bin .cons (.var 0) .nil)) (.int 0))) (.var 7))) (.asrt (.bin .le (.int 0) (.var 7)) (.asrt (.bin .le (.un .len (.bin .idx (.bin .idx (.bin .idx (.fn 168 (.bin .cons (.var 0) .nil)) (.int 0)) (.bin .add (.int 0) (.var 7))) (.int 1))) (.int 1000000)) (.loop 11 [(.var 4), (.var 5), (.var 6), (.int 0), (.var 8), (.var 9), (.var 10)] durableCrashN12 (.br durableCrashN2 (.br (.un .not (.bin .le (.var 11) (.int 0))) (.asrt (.bin .le (.int 0) (.var 14)) (.asrt (.bin .le (.un .len (.var 15)) (.int 1000000)) (.asrt (.bin .le (.un .len (.var 16)) (.int 1000000)) (.asrt (.bin .le (.un .len (.var 17)) (.int 1000000)) .fail)))) durableCrashN13) durableCrashN13)))) .fail) (.br (.un .not (.bin .le (.un .len (.bin .idx (.fn 168 (.bin .cons (.var 0) .nil)) (.int 0))) (.var 7))) (.asrt (.bin .le (.int 0) (.var 7)) (.asrt (.bin .le (.un .len (.bin .idx (.bin .idx (.bin .idx (.fn 168 (.bin .cons (.var 0) .nil)) (.int 0)) (.bin .add (.int 0) (.var 7))) (.int 1))) (.int 1000000)) (.loop 11 [(.var 4), (.var 5), (.var 6), (.int 0), (.var 8), (.var 9), (.var 10)] durableCrashN12 (.br durableCrashN2 (.br (.un .not (.bin .le (.var 11) (.int 0))) (.asrt (.bin .le (.int 0) (.var 14)) (.asrt (.bin .le (.un .len (.var 15)) (.int 1000000)) (.asrt (.bin .le (.un .len (.var 16)) (.int 1000000)) (.asrt (.bin .le (.un .len (.var 17)) (.int 1000000)) (.br durableCrashN6 (.leaf [(.bool false)]) (.br durableCrashN7 (.leaf [(.bool false)]) .fail)))))) .fail) .fail)))) (.asrt (.bin .le (.un .len (.var 9)) (.int 1000000)) (.asrt (.bin .le (.un .len (.var 10)) (.int 1000000)) (.asrt (.bin .idx (.fn 78 (.bin .cons (.var 9) (.bin .cons (.var 10) .nil))) (.int 0)) (.asrt (.bin .le (.un .len (.bin .idx (.fn 86 (.bin .cons (.var 9) (.bin .cons (.var 10) (.bin .cons (.var 2) .nil)))) (.int 0))) (.int 1000)) (.asrt (.bin .le (.un .len (.bin .idx (.fn 86 (.bin .cons (.var 9) (.bin .cons (.var 10) (.bin .cons (.var 2) .nil)))) (.int 1))) (.int 1000000)) (.br (.un .not (.bin .le (.var 5) durableCrashN16)) (.leaf [(.bool false)]) (.br (.un .not (.bin .le durableCrashN16 (.un (.wrap .i64) (.bin .add (.var 5) (.int 1))))) (.leaf [(.bool false)]) (.br (.un .not (.bin .le durableCrashN16 (.un .len (.bin .idx (.fn 168 (.bin .cons (.var 0) .nil)) (.int 0))))) (.leaf [(.bool false)]) (.loop 11 [(.int 0), (.int 0)] (.br durableCrashN17 (.asrt (.bin .le (.int 0) (.var 12)) (.asrt (.un .not (.bin .le (.un .len (.bin .idx (.fn 168 (.bin .cons (.var 0) .nil)) (.int 0))) (.var 12))) (.asrt durableCrashN20 (.asrt (.bin .le (.un .len (.bin .idx (.bin .idx (.bin .idx (.fn 168 (.bin .cons (.var 0) .nil)) (.int 0)) (.bin .add (.int 0) (.var 12))) (.int 1))) (.int 1000000)) (.br durableCrashN21 .fail (.leaf [(.bin .idx (.bin .idx (.bin .idx (.fn 168 (.bin .cons (.var 0) .nil)) (.int 0)) (.bin .add (.int 0) (.var 12))) (.int 0)), (.un (.wrap .i64) (.bin .add (.var 12) (.int 1)))])))))) .fail) (.br durableCrashN17 (.asrt (.bin .le (.int 0) (.var 12)) (.asrt (.un .not (.bin .le (.un .len (.bin .idx (.fn 168 (.bin .cons (.var 0) .nil)) (.int 0))) (.var 12))) (.asrt durableCrashN20 (.asrt (.bin .le (.un .len (.bin .idx (.bin .idx (.bin .idx (.fn 168 (.bin .cons (.var 0) .nil)) (.int 0)) (.bin .add (.int 0) (.var 12))) (.int 1))) (.int 1000000)) (.br durableCrashN21 (.leaf [(.bool false)]) .fail))))) (.br (.un .not (.bin .le durableCrashN16 (.var 5))) (.asrt (.bin .le (.int 0) (.var 5)) (.asrt (.un .not (.bin .le (.un .len (.bin .idx (.fn 168 (.bin .cons (.var 0) .nil)) (.int 0))) (.var 5))) (.asrt (.bin .le (.un .len (.bin .idx (.bin .idx (.bin .idx (.fn 168 (.bin .cons (.var 0) .nil)) (.int 0)) (.bin .add (.int 0) (.var 5))) (.int 1))) (.int 1000000)) (.loop 13 [(.int 0)] durableCrashN32 (.br (.un .not (.bin .le (.int 5) (.var 13))) durableCrashN33 (.br (.bin .idx (.fn 133 .nil) (.int 0)) (.br durableCrashN34 (.leaf [(.bin .eq durableCrashN35 (.un (.wrap .i64) (.bin .add (.var 6) (.un .len (.bin .idx (.fn 119 (.bin .cons (.bin .idx (.bin .idx (.bin .idx (.fn 168 (.bin .cons (.var 0) .nil)) (.int 0)) (.bin .add (.int 0) (.var 5))) (.int 0)) (.bin .cons (.bin .idx (.bin .idx (.bin .idx (.fn 168 (.bin .cons (.var 0) .nil)) (.int 0)) (.bin .add (.int 0) (.var 5))) (.int 1)) .nil))) (.int 0))))))]) (.leaf [(.bool false)])) (.leaf [(.bool false)]))))))) (.loop 13 [(.int 0)] durableCrashN32 (.br (.un .not (.bin .le (.int 5) (.var 13))) durableCrashN33 (.br (.bin .idx (.fn 133 .nil) (.int 0)) (.br durableCrashN34 (.leaf [(.bin .eq durableCrashN35 (.var 6))]) (.leaf [(.bool false)])) (.leaf [(.bool false)])))))))))))))))))))
def durableCrashSm : List (Nat × Smy) := [(19, ⟨133, [], [.one (.pl .bool)], fun _ => [], none⟩), (28, ⟨128, [.agg [.pl (.int .i64), .pl (.int .i64), .pl (.int .i64), .pl (.int .i64), .pl (.int .i64)]], [.agg [.pl (.int .i64), .pl (.int .i64), .pl (.int .i64), .pl (.int .i64), .pl (.int .i64), .pl (.int .i64), .pl (.int .i64), .pl (.int .i64), .pl (.int .i64), .pl (.int .i64), .pl (.int .i64), .pl (.int .i64), .pl (.int .i64)], .one (.pl (.int .i64))], fun _ => [], some rOfMF⟩), (29, ⟨168, [.one (.rows false [.int .u8])], [.one (.nst [.pl (.int .i64), .sub [.int .i64, .int .i64]])], lenC [(0, 1000)], none⟩), (30, ⟨74, [.one (.pl (.int .i64))], [.agg [.rows false [.str], .rows false [.int .i64, .str]], .one (.pl (.int .i64))], fun _ => [], some rDNewF⟩), (31, ⟨169, [.agg [.pl (.int .i64), .rows false [.int .i64, .int .i64]], .one (.pl (.int .i64))], [.one (.rows true [.int .i64, .int .i64, .int .i64, .int .i64, .str])], lenC [(1, 1000000)], none⟩), (32, ⟨131, [.agg [.rows false [.int .i64]], .agg [.rows false [.str], .rows false [.int .i64, .str]], .agg [.pl (.int .i64), .pl (.int .i64), .pl (.int .i64), .pl (.int .i64), .pl .str]], [.agg [.rows false [.int .i64]], .agg [.rows false [.str], .rows false [.int .i64, .str]], .agg [.pl (.int .i64), .pl .bool], .one (.pl (.int .i64))], lenC [(0, 1000000), (1, 1000000), (2, 1000000)], none⟩), (22, ⟨78, [.agg [.rows false [.str], .rows false [.int .i64, .str]]], [.one (.pl .bool)], lenC [(0, 1000000), (1, 1000000)], none⟩), (37, ⟨86, [.agg [.rows false [.str], .rows false [.int .i64, .str]], .one (.rows false [.int .i64])], [.agg [.rows false [.str], .rows false [.int .i64, .str]]], fun es => (lenC [(0, 1000000), (1, 1000000), (2, 1000000)]) es ++ [rightC 78 0 1 es], none⟩), (23, ⟨165, [.agg [.pl (.int .i64), .pl (.int .i64), .pl (.int .i64), .pl (.int .i64), .pl (.int .i64), .pl (.int .i64), .pl (.int .i64), .pl (.int .i64), .pl (.int .i64), .pl (.int .i64), .pl (.int .i64), .pl (.int .i64), .pl (.int .i64)], .one (.rows false [.int .i64]), .agg [.rows false [.str], .rows false [.int .i64, .str]]], [.agg [.rows false [.int .i64]], .one (.nst [.pl (.int .i64), .sub [.int .i64, .int .i64]])], fun es => (fun es => lenC [(13, 1000000), (14, 1000), (15, 1000000)] es ++ rgeC [(1, 0, 32), (5, 0, 0), (6, 1, 1), (8, 3, 3), (11, 4, 60), (12, 4, 300)] es) es ++ lyC es, none⟩), (14, ⟨113, [.agg [.pl (.int .i64), .rows false [.int .i64, .int .i64]], .agg [.pl (.int .i64), .rows false [.int .i64, .int .i64]]], [.one (.pl .bool)], lenC [(1, 1000000), (3, 1000000)], none⟩), (38, ⟨119, [.agg [.pl (.int .i64), .rows false [.int .i64, .int .i64]]], [.one (.rows true [.str])], lenC [(1, 1000000)], none⟩), (33, ⟨24, [.agg [.rows false [.int .i64]], .one (.pl (.int .i64))], [.one (.pl (.int .i64))], fun _ => [], none⟩), (34, ⟨32, [.agg [.pl (.int .i64), .pl (.int .i64), .pl (.int .i64), .pl (.int .i64), .pl (.int .i64), .pl (.int .i64), .pl (.int .i64), .pl (.int .i64), .pl (.int .i64), .pl (.int .i64), .pl (.int .i64), .pl (.int .i64), .pl (.int .i64)], .one (.pl (.int .i64))], [.one (.pl (.int .i64))], fun _ => [], none⟩), (35, ⟨31, [.agg [.pl (.int .i64), .pl (.int .i64), .pl (.int .i64), .pl (.int .i64), .pl (.int .i64), .pl (.int .i64), .pl (.int .i64), .pl (.int .i64), .pl (.int .i64), .pl (.int .i64), .pl (.int .i64), .pl (.int .i64), .pl (.int .i64)], .one (.pl (.int .i64))], [.one (.pl (.int .i64))], fun _ => [], none⟩)]
def durableCrashLa : List (LK × LA) := [(⟨267, 43, 31, 13, 13⟩, ⟨[(30, (.int .i64 (.var 13))), (31, .any), (32, .any), (33, .any), (34, .any), (184, .any), (185, .any), (186, .any), (187, .any), (188, .any), (189, .any), (190, .any), (191, .any), (192, .any), (193, .any), (194, .any), (195, .any), (196, .any), (197, .any), (198, .any), (199, .any), (200, .any), (201, .any), (202, .any), (203, .any), (204, .any), (205, .any), (206, .any), (207, .any), (208, .any), (209, .any), (210, .any), (211, .any), (212, .any), (213, .any), (214, .any), (215, .any), (216, .any), (217, .any), (218, .any), (219, .any), (220, .any), (221, .any), (222, .any), (223, .any), (224, .any), (225, .any), (226, .any), (227, .any), (228, .any), (229, .any), (230, .any), (231, .any), (232, .any), (233, .any), (234, .any), (235, .any), (236, .any), (237, .any), (238, .any), (239, .any), (240, .any), (241, .any), (242, .any), (243, .any), (244, .any), (245, .any), (246, .any), (247, .any), (248, .any), (249, .any)], [], [], 1, 0⟩),
  (⟨267, 48, 31, 14, 15⟩, ⟨[(31, (.int .i64 (.var 14))), (32, (.int .i64 (.var 15))), (33, (.int .i64 (.var 16))), (34, .any), (192, .any), (193, .any), (194, .any), (195, .any), (196, .any), (197, .any), (198, .any), (199, .any), (200, .any), (201, .any), (202, .any), (203, .any), (204, .any), (205, .any), (206, .any), (207, .any), (208, .any), (209, .any), (210, .any), (211, .any), (212, .any), (213, .any), (214, .any), (215, .any), (216, .any), (217, .any), (218, .any), (219, .any), (220, .any), (221, .any), (222, .any), (223, .any), (224, .any), (225, .any), (226, .any), (227, .any), (228, .any), (229, .any), (230, .any), (231, .any), (232, .any)], [], [], 3, 0⟩),
  (⟨267, 51, 31, 17, 16⟩, ⟨[(31, (.int .i64 (.var 17))), (32, (.int .i64 (.var 18))), (34, (.int .i64 (.var 19))), (198, .any), (199, .any), (200, .any), (201, .any), (202, .any), (203, .any), (204, .any), (205, .any), (206, .any), (207, .any), (208, .any), (209, .any), (210, .any), (211, .any), (212, .any), (213, .any), (214, .any), (215, .any), (216, .any), (217, .any), (218, .any), (219, .any), (220, .any), (221, .any), (222, .any), (223, .any), (224, .any), (225, .any), (226, .any), (227, .any), (228, .any), (229, .any), (230, .any), (231, .any), (232, .any)], [], [], 3, 0⟩),
  (⟨267, 43, 33, 13, 16⟩, ⟨[(30, (.int .i64 (.var 13))), (31, .any), (32, .any), (33, .any), (34, .any), (184, .any), (185, .any), (186, .any), (187, .any), (188, .any), (189, .any), (190, .any), (191, .any), (192, .any), (193, .any), (194, .any), (195, .any), (196, .any), (197, .any), (198, .any), (199, .any), (200, .any), (201, .any), (202, .any), (203, .any), (204, .any), (205, .any), (206, .any), (207, .any), (208, .any), (209, .any), (210, .any), (211, .any), (212, .any), (213, .any), (214, .any), (215, .any), (216, .any), (217, .any), (218, .any), (219, .any), (220, .any), (221, .any), (222, .any), (223, .any), (224, .any), (225, .any), (226, .any), (227, .any), (228, .any), (229, .any), (230, .any), (231, .any), (232, .any), (233, .any), (234, .any), (235, .any), (236, .any), (237, .any), (238, .any), (239, .any), (240, .any), (241, .any), (242, .any), (243, .any), (244, .any), (245, .any), (246, .any), (247, .any), (248, .any), (249, .any)], [], [], 1, 0⟩),
  (⟨267, 48, 33, 14, 18⟩, ⟨[(31, (.int .i64 (.var 14))), (32, (.int .i64 (.var 15))), (33, (.int .i64 (.var 16))), (34, .any), (192, .any), (193, .any), (194, .any), (195, .any), (196, .any), (197, .any), (198, .any), (199, .any), (200, .any), (201, .any), (202, .any), (203, .any), (204, .any), (205, .any), (206, .any), (207, .any), (208, .any), (209, .any), (210, .any), (211, .any), (212, .any), (213, .any), (214, .any), (215, .any), (216, .any), (217, .any), (218, .any), (219, .any), (220, .any), (221, .any), (222, .any), (223, .any), (224, .any), (225, .any), (226, .any), (227, .any), (228, .any), (229, .any), (230, .any), (231, .any), (232, .any)], [], [], 3, 0⟩),
  (⟨267, 51, 33, 17, 19⟩, ⟨[(31, (.int .i64 (.var 17))), (32, (.int .i64 (.var 18))), (34, (.int .i64 (.var 19))), (198, .any), (199, .any), (200, .any), (201, .any), (202, .any), (203, .any), (204, .any), (205, .any), (206, .any), (207, .any), (208, .any), (209, .any), (210, .any), (211, .any), (212, .any), (213, .any), (214, .any), (215, .any), (216, .any), (217, .any), (218, .any), (219, .any), (220, .any), (221, .any), (222, .any), (223, .any), (224, .any), (225, .any), (226, .any), (227, .any), (228, .any), (229, .any), (230, .any), (231, .any), (232, .any)], [], [], 3, 0⟩),
  (⟨267, 35, 31, 11, 11⟩, ⟨[(28, (.int .i64 (.var 11))), (29, (.int .i64 (.var 12))), (151, .any), (152, .any), (153, .any), (154, .any), (155, .any), (156, .any), (157, .any), (158, .any), (159, .any), (160, .any), (161, .any), (162, .any), (163, .any), (164, .any), (165, .any), (166, .any), (167, .any), (168, .any), (169, .any), (170, .any), (171, .any)], [], [], 2, 0⟩),
  (⟨267, 13, 11, 3, 2⟩, ⟨[(14, (.int .i64 (.var 3))), (15, (.int .i64 (.var 4))), (16, (.int .i64 (.var 5))), (17, (.int .i64 (.var 6))), (18, (.int .i64 (.var 7))), (19, .any), (20, .any), (21, .any), (22, .any), (23, .any), (24, .any), (60, .any), (61, .any), (62, .any), (63, .any), (64, .any), (65, .any), (66, .any), (67, .any), (68, .any), (69, .any), (70, .any), (71, .any), (72, .any), (73, .any), (74, .any), (75, .any), (76, .any), (77, .any), (78, .any), (79, .any), (80, .any), (81, .any), (82, .any), (83, .any), (84, .any), (85, .any), (86, .any), (87, .any), (88, .any), (89, .any), (90, .any), (91, .any), (92, .any), (93, .any), (94, .any), (95, .any), (96, .any), (97, .any), (98, .any), (99, .any), (100, .any), (101, .any), (102, .any), (103, .any), (104, .any), (105, .any), (106, .any), (107, .any), (108, .any), (109, .any), (110, .any), (111, .any), (112, .any), (113, .any), (114, .any), (115, .any), (116, .any), (117, .any), (118, .any), (119, .any), (120, .any), (121, .any), (122, .any)], [(10, (.cells [(.sl 11 1 (.int 0) (.un .len (.var 8)) none)])), (7, (.cells [(.sl 12 1 (.int 0) (.un .len (.var 9)) none), (.sl 13 2 (.int 0) (.un .len (.var 10)) none)])), (11, (.ro [.int .i64] (.var 8))), (12, (.ro [.str] (.var 9))), (13, (.ro [.int .i64, .str] (.var 10)))], [9], 8, 3⟩),
  (⟨267, 17, 16, 11, 5⟩, ⟨[(15, (.int .i64 (.var 11))), (16, (.int .i64 (.var 12))), (17, (.int .i64 (.var 13))), (20, (.int .i64 (.var 14))), (21, .any), (22, .any), (23, .any), (24, .any), (72, .any), (73, .any), (74, .any), (75, .any), (76, .any), (77, .any), (78, .any), (79, .any), (80, .any), (81, .any), (82, .any), (83, .any), (84, .any), (85, .any), (86, .any), (87, .any), (88, .any), (89, .any), (90, .any), (91, .any), (92, .any), (93, .any), (94, .any), (95, .any), (96, .any), (97, .any), (98, .any), (99, .any), (100, .any), (101, .any), (102, .any), (103, .any), (104, .any), (105, .any), (106, .any), (107, .any), (108, .any), (109, .any), (110, .any), (111, .any), (112, .any), (113, .any), (114, .any), (115, .any), (116, .any), (117, .any)], [(10, (.cells [(.sl 16 1 (.int 0) (.un .len (.var 15)) none)])), (7, (.cells [(.sl 17 1 (.int 0) (.un .len (.var 16)) none), (.sl 18 2 (.int 0) (.un .len (.var 17)) none)])), (16, (.ro [.int .i64] (.var 15))), (17, (.ro [.str] (.var 16))), (18, (.ro [.int .i64, .str] (.var 17)))], [], 7, 3⟩)]
def durableCrashPhi : Fs := ⟨fun n d => match n with
  | 133 => .list (lSane25F d.l)
  | 128 => .list (rOfMF d.l)
  | 168 => .list (lEntF d.l)
  | 74 => .list (rDNewF d.l)
  | 169 => .list (lRecF d.l)
  | 131 => .list (uDoF d.l)
  | 78 => .list (rDRightF d.l)
  | 86 => .list (dCrashF d.l)
  | 165 => .list (dBootF d.l)
  | 113 => .list (rOneF d.l)
  | 119 => .list (rRecordF d.l)
  | 24 => .list (rCellF d.l)
  | 32 => .list (rValF d.l)
  | 31 => .list (rWordF d.l)
  | _ => d, 147⟩
theorem durableCrashS : SmyOk true Tryd.prog durableCrashPhi durableCrashSm := (smy_cons (fun _ => True) lSane25F lSane25_pure (fun _ _ _ _ => trivial) (fun _ => rfl) (fun _ h => by cases h) (smy_cons (fun _ => True) rOfMF rOfM_pure (fun _ _ _ _ => trivial) (fun _ => rfl) (fun _ h => by cases h; rfl) (smy_cons (lenP [(0, 1000)]) lEntF lEnt_pure (len_hp [(0, 1000)]) (fun _ => rfl) (fun _ h => by cases h) (smy_cons (fun _ => True) rDNewF rDNew_pure (fun _ _ _ _ => trivial) (fun _ => rfl) (fun _ h => by cases h; rfl) (smy_cons (lenP [(1, 1000000)]) lRecF lRec_pure (len_hp [(1, 1000000)]) (fun _ => rfl) (fun _ h => by cases h) (smy_cons (lenP [(0, 1000000), (1, 1000000), (2, 1000000)]) uDoF uDo_pure (len_hp [(0, 1000000), (1, 1000000), (2, 1000000)]) (fun _ => rfl) (fun _ h => by cases h) (smy_cons (lenP [(0, 1000000), (1, 1000000)]) rDRightF rDRight_pure (len_hp [(0, 1000000), (1, 1000000)]) (fun _ => rfl) (fun _ h => by cases h) (smy_cons (fun ds => (lenP [(0, 1000000), (1, 1000000), (2, 1000000)]) ds ∧ rightDM (gLs ds 0) (gLis ds 1) = true) dCrashF dCrash_pure (right_hp 78 0 1 (len_hp [(0, 1000000), (1, 1000000), (2, 1000000)]) (fun _ => rfl)) (fun _ => rfl) (fun _ h => by cases h) (smy_cons (fun ds => (fun ds => lenP [(13, 1000000), (14, 1000), (15, 1000000)] ds ∧ rgeP [(1, 0, 32), (5, 0, 0), (6, 1, 1), (8, 3, 3), (11, 4, 60), (12, 4, 300)] ds) ds ∧ lyP ds) dBootF dBoot_pure (ly_hp (C := fun es => lenC [(13, 1000000), (14, 1000), (15, 1000000)] es ++ rgeC [(1, 0, 32), (5, 0, 0), (6, 1, 1), (8, 3, 3), (11, 4, 60), (12, 4, 300)] es) (Q := fun ds => lenP [(13, 1000000), (14, 1000), (15, 1000000)] ds ∧ rgeP [(1, 0, 32), (5, 0, 0), (6, 1, 1), (8, 3, 3), (11, 4, 60), (12, 4, 300)] ds) (both_hp [(13, 1000000), (14, 1000), (15, 1000000)] [(1, 0, 32), (5, 0, 0), (6, 1, 1), (8, 3, 3), (11, 4, 60), (12, 4, 300)])) (fun _ => rfl) (fun _ h => by cases h) (smy_cons (lenP [(1, 1000000), (3, 1000000)]) rOneF rOne_pure (len_hp [(1, 1000000), (3, 1000000)]) (fun _ => rfl) (fun _ h => by cases h) (smy_cons (lenP [(1, 1000000)]) rRecordF rRecord_pure (len_hp [(1, 1000000)]) (fun _ => rfl) (fun _ h => by cases h) (smy_cons (fun _ => True) rCellF rCell_pure (fun _ _ _ _ => trivial) (fun _ => rfl) (fun _ h => by cases h) (smy_cons (fun _ => True) rValF rVal_pure (fun _ _ _ _ => trivial) (fun _ => rfl) (fun _ h => by cases h) (smy_cons (fun _ => True) rWordF rWord_pure (fun _ _ _ _ => trivial) (fun _ => rfl) (fun _ h => by cases h) smy_nil))))))))))))))
theorem durableCrashT : treeOk ⟨Tryd.prog, durableCrashSm, durableCrashLa, true⟩ 4000 7 [.one (.rows false [.int .u8]), .one (.pl (.int .u8)), .one (.rows false [.int .i64])] [.one (.pl .bool)] (rng 0 9223372036854775807 (.un .len (.var 0)) ++ (rng (0) 255 (.var 1) ++ (rng 0 9223372036854775807 (.un .len (.var 2)) ++ ([])))) durableCrashTree = true := by decide +kernel
end Go.Proofs.YtkfjgggiopegbaaDoor
end
section
namespace Go.Proofs.YtkfjgggiopegbaaDoor
set_option linter.unusedVariables false
set_option linter.unusedSimpArgs false
set_option maxRecDepth 100000
set_option maxHeartbeats 1000000 in
theorem durableCrash_pure : PureE true Tryd.prog 7 [.one (.rows false [.int .u8]), .one (.pl (.int .u8)), .one (.rows false [.int .i64])] [.one (.pl .bool)] (Wts (clsOf [.one (.rows false [.int .u8]), .one (.pl (.int .u8)), .one (.rows false [.int .i64])])) durableCrashF := by
  refine pure_tree (X := ⟨Tryd.prog, durableCrashSm, durableCrashLa, true⟩) (by decide +kernel) (Checked.mixed Tryd.checked) durableCrashS (by decide +kernel) (by decide +kernel) durableCrashT (by decide +kernel) ?_
  intro ds hl hp
  obtain ⟨d0, d1, d2, rfl⟩ := len3 hl
  obtain ⟨_, _, he, w0, hp⟩ := hp
  cases he
  have b0 : ((d0.l.map DV.i).length : Int) ≤ 9223372036854775807 := by rw [List.length_map]; exact wt_len w0
  have v0 : ∀ v ∈ d0.l.map DV.i, 0 ≤ v ∧ v ≤ 255 := wt_ints w0 rfl rfl
  clear w0
  obtain ⟨_, _, he, w1, hp⟩ := hp
  cases he
  have r1 : 0 ≤ d1.i ∧ d1.i ≤ 255 := wt_i w1 rfl rfl
  clear w1
  obtain ⟨_, _, he, w2, hp⟩ := hp
  cases he
  have b2 : ((d2.l.map DV.i).length : Int) ≤ 9223372036854775807 := by rw [List.length_map]; exact wt_len w2
  have v2 : ∀ v ∈ d2.l.map DV.i, -9223372036854775808 ≤ v ∧ v ≤ 9223372036854775807 := wt_ints w2 rfl rfl
  clear w2
  have hN : nrmL (clsOf [.one (.rows false [.int .u8]), .one (.pl (.int .u8)), .one (.rows false [.int .i64])]) [d0, d1, d2] = [.list ((d0.l.map DV.i).map DV.int), .int d1.i, .list ((d2.l.map DV.i).map DV.int)] := by
    simp only [clsOf, Sh.cls, List.append_nil, List.cons_append, List.nil_append, nrmL, Cl.nrm, CK.nrm, map_Li]
  have hF : durableCrashF [d0, d1, d2] = [.bool true] := rfl
  rw [hN, hF]
  clear hN hp hl hF
  generalize d0.l.map DV.i = x0 at b0 v0 ⊢
  generalize d1.i = x1 at r1 ⊢
  generalize d2.l.map DV.i = x2 at b2 v2 ⊢
  refine ⟨(rng_ok (e := .un .len (.var 0)) (Int.natCast_nonneg _) (by show ((x0.map _).length : Int) ≤ _; rw [List.length_map]; exact b0) (rng_ok (e := .var 1) r1.1 r1.2 (rng_ok (e := .un .len (.var 2)) (Int.natCast_nonneg _) (by show ((x2.map _).length : Int) ≤ _; rw [List.length_map]; exact b2) (facts_nil _)))), ?_⟩
  unfold durableCrashTree
  simp only [Sat, clsOf, Sh.cls, List.append_nil, List.cons_append, List.nil_append, nrmL, Cl.nrm, CK.nrm, List.map_cons, List.map_nil, List.length_cons, List.length_nil, List.cons.injEq, DV.bool.injEq, and_true, true_and, durableCrashN0, durableCrashN1, durableCrashN2, durableCrashN3, durableCrashN4, durableCrashN5, durableCrashN6, durableCrashN7, durableCrashN8, durableCrashN9, durableCrashN10, durableCrashN11, durableCrashN12, durableCrashN13, durableCrashN14, durableCrashN15, durableCrashN16, durableCrashN17, durableCrashN18, durableCrashN19, durableCrashN20, durableCrashN21, durableCrashN22, durableCrashN23, durableCrashN24, durableCrashN25, durableCrashN26, durableCrashN27, durableCrashN28, durableCrashN29, durableCrashN30, durableCrashN31, durableCrashN32, durableCrashN33, durableCrashN34, durableCrashN35]
  simp only [q_le, q_eq, q_not, q_bool, iff_true, iff_false, Bool.not_true, Bool.not_false, Bool.false_eq_true, eq_self]
  simp only [Bool.true_eq_false, SE.den, evU, ev_add, ev_sub, ev_mul, ev_tmod, ev_idx, ev_cons, i_int, b_bool, l_list, envL, List.getElem?_cons_succ, List.getElem?_cons_zero, Option.getD_some, Int.toNat_zero, Int.reduceToNat, List.length_map, Int.zero_add, iff_true, Bool.false_eq_true, eq_self, f_En_0, f_En_1, f_ii_0, f_iiiis_0, f_iiiis_1, f_iiiis_2, f_iiiis_3, f_iiiis_4, durableCrashPhi, lSane25F, lSane25E, rOfMF, rOfME, lEntF, lEntE, rDNewF, rDNewE, lRecF, lRecE, uDoF, uDoE, rDRightF, rDRightE, dCrashF, dCrashE, dBootF, dBootE, rOneF, rOneE, rRecordF, rRecordE, rCellF, rCellE, rValF, rValE, rWordF, rWordE, gi, gs, gLi, gLs, dece_i, dece_s, gLii, deces_ii, gLis, lSane25E]
  refine ⟨fun _ => trivial, fun h8 => ⟨fun _ => trivial, fun h20 => ?_⟩⟩
  have hes := ents_ok (l := x0) (by omega) v0
  have hlen : (entsM x0).length = x0.length := by unfold entsM; rw [ents_len]
  generalize entsM x0 = es at *
  generalize hn : x0.length = n at *
  clear v0 hn
  have hall := fun i (h : i ≤ es.length) => ents_all hes i h
  obtain ⟨L0, hL0, hLw⟩ : ∃ L : Nat, L ≤ 59 ∧ (IntKind.i64.wrap x1).tmod 60 = L := ⟨(x1 % 60).toNat, by omega, by rw [w64 (by omega) (by omega), Int.tmod_eq_emod_of_nonneg r1.1]; omega⟩
  obtain ⟨m, hm, hml⟩ : ∃ m : List Int, [DV.int 0, DV.int 0, DV.int 0, DV.int 0] = m.map DV.int ∧ m.length = 4 := ⟨[0, 0, 0, 0], rfl, rfl⟩
  simp only [hLw, hm]
  refine rounds_inv (fun y => ∃ (i s L p : Nat), i ≤ n ∧ L ≤ 59 ∧ ((s = i ∧ p = 0) ∨ (L = 0 ∧ s < i ∧ p ≤ (recordM (es[s]?.getD dEn).1 (es[s]?.getD dEn).2).length)) ∧ y = [.int ((recsM (es.take i)).length : Nat), .int (L : Nat), .int (s : Nat), .int ((recsM (es.take s)).length : Nat), .int (i : Nat), .list (m.map DV.int), .list ((secsM (recsM (es.take s) ++ (recordM (es[s]?.getD dEn).1 (es[s]?.getD dEn).2).take p)).map .str), .list ((wasM (recsM (es.take s)).length p).map encis)]) (fun y => n - ((y[4]?).getD (DV.int 0)).i.toNat) ⟨0, 0, L0, 0, by omega, hL0, .inl ⟨rfl, rfl⟩, ?_⟩ ?_
  · rfl
  rintro y ⟨i, s, L, p, hi, hL, hsp, rfl⟩
  by_cases hin : i < n
  · right
    have hwi : IntKind.i64.wrap ((i : Int) + 1) = ((i + 1 : Nat) : Int) := by rw [w64 (by omega) (by omega)]; omega
    have hi2 : i < es.length := by omega
    have hal := hall i (by omega)
    have h5 := ents_rlen hes hi2
    have hl5 := hes.len i
    have hrec := ents_rec hes hi2
    have h32 := ents_32 hes hi2
    have hal1 := accs_len (es[i]?.getD dEn).1 (es[i]?.getD dEn).2
    have haw := fun k (hk : k < (record3 (es[i]?.getD dEn).1 (es[i]?.getD dEn).2).length) => accs_w (A := (recsM (es.take i)).length) hk (by omega)
    have has := fun a => accs_s (v := (es[i]?.getD dEn).1) (w := (es[i]?.getD dEn).2) (a := a)
    rw [hrec] at hal1 haw has
    have hsu := recsT_succ es i hi2
    rcases hsp with ⟨rfl, rfl⟩ | ⟨rfl, hs, hp⟩
    · generalize hC : recordM (es[s]?.getD dEn).1 (es[s]?.getD dEn).2 = C at *
      generalize hP : recsM (es.take s) = P at *
      have hE : (recsM (es.take (s + 1))).length = P.length + C.length := by rw [hsu, List.length_append]
      have hz : ∀ A : Nat, (wasM A 0).map encis = [] := fun _ => rfl
      have hwE : IntKind.i64.wrap (IntKind.i64.wrap ((P.length : Int) + ((C.length + 1 : Nat) : Int)) - 1) = ((P.length + C.length : Nat) : Int) := by rw [w64 (n := (P.length : Int) + _) (by omega) (by omega), w64 (by omega) (by omega)]; omega
      refine ⟨if C.length + 1 ≤ L then [.int ((P.length + C.length : Nat) : Int), .int ((L - (C.length + 1) : Nat) : Int), .int ((s + 1 : Nat) : Int), .int ((P.length + C.length : Nat) : Int), .int ((s + 1 : Nat) : Int), .list (m.map DV.int), .list ((secsM (P ++ C)).map .str), .list []] else [.int ((P.length + C.length : Nat) : Int), .int 0, .int (s : Nat), .int (P.length : Nat), .int ((s + 1 : Nat) : Int), .list (m.map DV.int), .list ((secsM (P ++ C.take L)).map .str), .list ((wasM P.length L).map encis)], ?_, ?_, ?_, ?_⟩
      · generalize hzz : (if C.length + 1 ≤ L then _ else _ : List DV) = z
        simp only [i_int, List.getElem?_cons_succ, List.getElem?_cons_zero, Option.getD_some, Int.toNat_natCast, List.cons_append, List.nil_append, List.take_zero, List.append_nil, hz]
        refine ⟨fun _ => ⟨by omega, by omega, rfl, ?_⟩, fun h => absurd h (by omega)⟩
        refine crash_loop (P := P) (C := C) (L := L) (i := s) (E := P.length) (E' := P.length + C.length) (M := .list (m.map DV.int)) (fun k hk hkL => ?_) (fun hCL => ?_) (fun hCL => ?_) (fun hCL => ?_)
        · have hwk : IntKind.i64.wrap ((k : Int) + 1) = ((k + 1 : Nat) : Int) := by rw [w64 (by omega) (by omega)]; omega
          have hwL : IntKind.i64.wrap (((L - k : Nat) : Int) - 1) = ((L - (k + 1) : Nat) : Int) := by rw [w64 (by omega) (by omega)]; omega
          have hd := du_w (l := m) (Q := P ++ C.take k) (A := P.length) (k := k) (by rw [List.length_append, List.length_take]; omega) (by rw [List.length_append, List.length_take]; omega) (h32 k hk)
          rw [List.append_assoc, ← take_snoc hk] at hd
          simp only [Bool.true_eq_false, i_int, b_bool, l_list, List.getElem?_cons_succ, List.getElem?_cons_zero, Option.getD_some, Int.toNat_natCast, List.length_map, and_true, true_and, eq_self, not_true_eq_false, DV.int.injEq, List.cons.injEq, dece_i, dece_s, deces_is, haw k hk, hd, duD, hwk, hwL, hal1]
          exact ⟨fun _ => ⟨fun _ => ⟨by omega, by omega, by rw [secs_len (by rw [List.length_append, List.length_take]; omega)]; omega, by rw [was_len]; omega, fun h => h, fun _ => ⟨fun h => h, fun _ => ⟨fun h => absurd h (by decide), fun _ => trivial⟩⟩⟩, fun h => absurd h (by omega)⟩, fun h => absurd h (by omega)⟩
        · have hwL : IntKind.i64.wrap (((L - C.length : Nat) : Int) - 1) = ((L - (C.length + 1) : Nat) : Int) := by rw [w64 (by omega) (by omega)]; omega
          simp only [Bool.true_eq_false, i_int, b_bool, l_list, List.getElem?_cons_succ, List.getElem?_cons_zero, Option.getD_some, Int.toNat_natCast, List.length_map, and_true, true_and, eq_self, not_true_eq_false, DV.int.injEq, DV.list.injEq, List.cons.injEq, dece_i, dece_s, deces_is, has, du_s, duD, hal1, hwi, hwL, hwE]
          exact ⟨fun _ => ⟨fun _ => ⟨by omega, by omega, by rw [secs_len (by rw [List.length_append]; omega)]; omega, by rw [was_len]; omega, fun h => h, fun _ => ⟨fun h => h, fun _ => ⟨fun _ => ⟨by rw [w64 (by omega) (by omega)]; omega, rfl⟩, fun h => h.elim⟩⟩⟩, fun h => absurd h (by omega)⟩, fun h => absurd h (by omega)⟩
        · rw [if_neg (by omega)] at hzz
          simp only [i_int, l_list, List.getElem?_cons_succ, List.getElem?_cons_zero, Option.getD_some, List.length_map, eq_self, hal1, hwi, hwE, ← hzz]
          exact ⟨fun _ => ⟨fun h => absurd (Int.le_refl _) h, fun _ => trivial⟩, fun _ => trivial⟩
        · rw [if_pos hCL] at hzz
          simp only [i_int, l_list, List.getElem?_cons_succ, List.getElem?_cons_zero, Option.getD_some, List.length_map, eq_self, hal1, hwi, hwE, ← hzz]
          exact ⟨fun h => absurd (Int.le_refl _) h, fun _ => trivial⟩
      · split <;> rfl
      · by_cases hL1 : C.length + 1 ≤ L
        · rw [if_pos hL1]
          refine ⟨s + 1, s + 1, L - (C.length + 1), 0, by omega, by omega, .inl ⟨rfl, rfl⟩, ?_⟩
          rw [hE, hsu, List.take_zero, List.append_nil]
          rfl
        · rw [if_neg hL1]
          refine ⟨s + 1, s, 0, L, by omega, by omega, .inr ⟨rfl, by omega, by rw [hC]; omega⟩, ?_⟩
          rw [hE, hP, hC]
          rfl
      · split
        all_goals
          show n - ((s + 1 : Nat) : Int).toNat < n - ((s : Nat) : Int).toNat
          omega
    · generalize hC : recordM (es[i]?.getD dEn).1 (es[i]?.getD dEn).2 = C at h5 h32 hrec hal1 haw has hsu ⊢
      generalize hP : recsM (es.take i) = P at hal haw hsu ⊢
      have hE : (recsM (es.take (i + 1))).length = P.length + C.length := by rw [hsu, List.length_append]
      have hwE : IntKind.i64.wrap (IntKind.i64.wrap ((P.length : Int) + ((C.length + 1 : Nat) : Int)) - 1) = ((P.length + C.length : Nat) : Int) := by rw [w64 (n := (P.length : Int) + _) (by omega) (by omega), w64 (by omega) (by omega)]; omega
      have hI : p ≤ (recordM (es[s]?.getD dEn).1 (es[s]?.getD dEn).2).length := hp
      refine ⟨[.int ((P.length + C.length : Nat) : Int), .int ((0 : Nat) : Int), .int (s : Nat), .int ((recsM (es.take s)).length : Nat), .int ((i + 1 : Nat) : Int), .list (m.map DV.int), .list ((secsM (recsM (es.take s) ++ (recordM (es[s]?.getD dEn).1 (es[s]?.getD dEn).2).take p)).map .str), .list ((wasM (recsM (es.take s)).length p).map encis)], ?_, rfl, ⟨i + 1, s, 0, p, by omega, by omega, .inr ⟨rfl, by omega, hI⟩, by rw [hE]⟩, ?_⟩
      · simp only [i_int, List.getElem?_cons_succ, List.getElem?_cons_zero, Option.getD_some, Int.toNat_natCast, and_true, eq_self, DV.int.injEq, List.cons.injEq, List.cons_append, List.nil_append]
        refine ⟨fun _ => ⟨by omega, by omega, rfl, .done ?_⟩, fun h => absurd h (by omega)⟩
        simp only [i_int, l_list, List.getElem?_cons_succ, List.getElem?_cons_zero, Option.getD_some, List.length_map, and_true, eq_self, hal1, hwi, hwE]
        exact ⟨fun _ => ⟨fun h => absurd (Int.le_refl _) h, fun _ => trivial⟩, fun _ => trivial⟩
      · show n - ((i + 1 : Nat) : Int).toNat < n - ((i : Nat) : Int).toNat
        omega
  · left
    obtain rfl : i = n := by omega
    obtain ⟨hsi, hp⟩ : s ≤ i ∧ p ≤ (recordM (es[s]?.getD dEn).1 (es[s]?.getD dEn).2).length := by
      rcases hsp with ⟨h1, h2⟩ | ⟨_, h1, h2⟩
      · exact ⟨by omega, by omega⟩
      · exact ⟨by omega, h2⟩
    obtain ⟨hright, hsl, g, hg, hgot⟩ := crash_got hes (by omega) (s := s) (p := p) (by omega) hp x2
    have hp26 : p ≤ 26 := Nat.le_trans hp (record_le _ (hes.rge s))
    have hgn : g ≤ es.length := by rcases hg with h | h <;> omega
    have hgl : (es.take g).length = g := by rw [List.length_take]; omega
    have hga : ∀ j, j < g → (es.take g)[j]?.getD dEn = es[j]?.getD dEn := fun j hj => by rw [List.getElem?_take, if_pos hj]
    have hone : ∀ v w, oneM23 v w v w = true := fun v w => by unfold oneM23; simp
    have hwj : ∀ j : Nat, j ≤ 100 → IntKind.i64.wrap ((j : Int) + 1) = ((j + 1 : Nat) : Int) := fun j hj => by rw [w64 (by omega) (by omega)]; omega
    have hf : List.map DV.i [DV.int (-1), DV.int (-2), DV.int (-3), DV.int (-4), DV.int (-5)] = [-1, -2, -3, -4, -5] := rfl
    simp only [i_int, l_list, List.getElem?_cons_succ, List.getElem?_cons_zero, Option.getD_some, Int.toNat_natCast, List.length_map, true_and, eq_self, dece_s, deces_is, List.cons_append, List.nil_append, was_len, hright, hsl, crash_len, hgot, hgl, hf]
    clear hright hgot hsl hsp hp
    refine ⟨fun h => absurd (by omega) h, fun _ => ⟨by omega, by omega, by omega, by simp, fun h => h (by omega), fun _ => ⟨fun h => h (by rw [hwj s (by omega)]; omega), fun _ => ⟨fun h => h (by omega), fun _ => ⟨rfl, ?_⟩⟩⟩⟩⟩
    refine rounds_at g (fun j => [.int (clkM (es.take j)), .int (j : Nat)]) rfl (fun _ => rfl) (fun j hj => ?_) ?_
    · simp only [Bool.true_eq_false, i_int, List.getElem?_cons_succ, List.getElem?_cons_zero, Option.getD_some, Int.toNat_natCast, eq_self, hga j hj, hone, raw_En_0, hwj j (by omega), clk_take (show j < es.length by omega)]
      have h5 := hes.len j
      exact ⟨fun _ => ⟨by omega, by omega, by omega, by omega, fun h => h, fun _ => trivial⟩, fun h => absurd h (by omega)⟩
    · have h5s := hes.len s
      simp only [i_int, List.getElem?_cons_succ, List.getElem?_cons_zero, Option.getD_some, Int.toNat_natCast, List.cons_append, List.nil_append]
      refine ⟨fun h => absurd (Int.le_refl _) h, fun _ => ⟨fun hgs => ⟨by omega, by omega, by omega, rfl, ?_⟩, fun hgs => ⟨rfl, ?_⟩⟩⟩
      all_goals
        refine rounds_at 5 (fun k => [.int (k : Nat)]) rfl (fun _ => rfl) (fun k hk => ?_) ?_
        · have hfk : [DV.int (-1), DV.int (-2), DV.int (-3), DV.int (-4), DV.int (-5)][k]?.getD (DV.int 0) = .int ((([-1, -2, -3, -4, -5] : List Int)[k]?).getD 0) := get_dv [-1, -2, -3, -4, -5] k
          have hp5 := place5 (k := k) (by omega) (by omega)
          simp only [i_int, List.getElem?_cons_succ, List.getElem?_cons_zero, Option.getD_some, Int.toNat_natCast, eq_self, List.cons_append, List.nil_append, hfk, hp5.1, hp5.2, cell_val hk, cell_word hk, hwj k (by omega)]
          refine ⟨fun _ => ⟨by omega, rfl, ?_⟩, fun h => absurd h (by omega)⟩
          refine rounds_at g (fun t => [.int (pairM (es.take t) [-1, -2, -3, -4, -5] k).1, .int (pairM (es.take t) [-1, -2, -3, -4, -5] k).2, .int (t : Nat)]) rfl (fun _ => rfl) (fun t ht => ?_) ?_
          · have h5 := hes.len t
            have hse : scanM (es[t]?.getD dEn).2 (es[t]?.getD dEn).1 k (es[t]?.getD dEn).2.length (pairM (es.take t) [-1, -2, -3, -4, -5] k) = pairM (es.take (t + 1)) [-1, -2, -3, -4, -5] k := by
              rw [scan_end, List.take_add_one, List.getElem?_eq_getElem (by omega)]
              rfl
            simp only [i_int, List.getElem?_cons_succ, List.getElem?_cons_zero, Option.getD_some, Int.toNat_natCast, and_true, eq_self, List.cons.injEq, List.cons_append, List.nil_append, raw_ii_1, raw_En_0, hwj t (by omega)]
            refine ⟨fun _ => ⟨rfl, ?_⟩, fun h => absurd h (by omega)⟩
            refine scan2_loop (ents_pair hes t) (es[t]?.getD dEn).1 k (pairM (es.take t) [-1, -2, -3, -4, -5] k) (fun j a b hj hjk => ?_) (fun j a b hj hjk => ?_) ?_
            · simp only [i_int, List.getElem?_cons_succ, List.getElem?_cons_zero, Option.getD_some, Int.toNat_natCast, and_true, eq_self, DV.int.injEq, List.cons.injEq, hwj j (by omega)]
              exact ⟨by omega, by omega, fun _ => ⟨by omega, fun _ => trivial, fun h => absurd hjk h⟩, fun h => absurd h (by omega)⟩
            · simp only [i_int, List.getElem?_cons_succ, List.getElem?_cons_zero, Option.getD_some, Int.toNat_natCast, and_true, eq_self, DV.int.injEq, List.cons.injEq, hwj j (by omega)]
              exact ⟨by omega, by omega, fun _ => ⟨by omega, fun h => absurd h hjk, fun _ => trivial⟩, fun h => absurd h (by omega)⟩
            · rw [hse]
              simp only [i_int, List.getElem?_cons_succ, List.getElem?_cons_zero, Option.getD_some, and_true, eq_self]
              exact ⟨by omega, by omega, fun h => absurd (Int.le_refl _) h, fun _ => trivial⟩
          · simp only [i_int, List.getElem?_cons_succ, List.getElem?_cons_zero, Option.getD_some, Int.toNat_natCast, eq_self, not_true_eq_false, List.cons_append, List.nil_append]
            refine ⟨fun h => absurd (Int.le_refl _) h, fun _ => ?_⟩
            simp
        · simp only [i_int, List.getElem?_cons_succ, List.getElem?_cons_zero, List.getElem?_nil, Option.getD_some, Option.getD_none, Int.toNat_natCast, List.cons_append, List.nil_append]
          refine ⟨fun h => absurd (by omega) h, fun _ => ?_⟩
          have hend : ¬ (g : Int) ≤ s → IntKind.i64.wrap (((recsM (es.take s)).length : Int) + (record3 (es[s]?.getD dEn).1 (es[s]?.getD dEn).2).length) = (recsM (es.take g)).length := fun h => by
            obtain ⟨rfl, hs2⟩ : g = s + 1 ∧ s < es.length := by rcases hg with h1 | h1 <;> omega
            have h1 := hall s (by omega)
            have h2 := ents_rlen hes hs2
            rw [ents_rec hes hs2, recsT_succ es s hs2, List.length_append, w64 (by omega) (by omega)]
            omega
          have hend2 : (g : Int) ≤ s → (recsM (es.take g)).length = (recsM (es.take s)).length := fun h => by
            rw [show g = s by rcases hg with h1 | h1 <;> omega]
          rw [cell_clk, cell_en]
          first
            | exact ⟨fun _ => ⟨fun _ => (hend hgs).symm, fun h => h rfl⟩, fun h => h⟩
            | exact ⟨fun _ => ⟨fun _ => by rw [hend2 hgs], fun h => h rfl⟩, fun h => h⟩
namespace row
open Go.ChangeShapes Go.WideShapes Go.ChangeAt Go.RowKit Go.Joins Go.Deep Go.Proofs.YtkfjgggiopegbaaDoor
theorem lifted (os : Os) (started : os.Started) (H : Type) (enc : TypeId × Value → H) :
    ReturnsInHanded {} Tryd.checked os 7 .any (fun w args => (Rows.durableSurvivesCrashSpec.pre enc Tryd.prog Tryd.f7 [] false w args ∧ laidMetH Tryd.prog Rows.durableSurvivesCrashRow.laid w) ∧ sizedMet enc Tryd.prog Tryd.f7 (OpenSpec.ofChange Rows.durableSurvivesCrashSpec) false w args) (Rows.durableSurvivesCrashSpec.post enc Tryd.prog Tryd.f7 false true false false) := by
  refine returnsInHanded_of_change_and (C := Tryd.checked) (X := fun w _ => laidMetH Tryd.prog Rows.durableSurvivesCrashRow.laid w) (fun _ _ _ hh h => h.of_heap hh) own started (by kernel_rfl) Tryd.func7
    (ChangeSpec.witness_shaped (enc := enc) (C := Tryd.checked) (os := os) (X := fun w _ => laidMetH Tryd.prog Rows.durableSurvivesCrashRow.laid w) false (World.laidAll Tryd.prog os Rows.durableSurvivesCrashRow.laid) #[.slice none 0 0, .int .u8 0, .slice none 0 0] 8 (World.laidAll_os _ _ _)
      (World.shaped_of_ZipB (by kernel_rfl) (by kernel_rfl)) (by kernel_rfl) (by kernel_rfl) (by kernel_rfl)
      (by rw [MakeChecks.laidMetH_plain _ _ _ (by kernel_rfl)]; exact laidMet_laidAll _ (by kernel_rfl) (by kernel_rfl))) ?_
  intro W base args ds gs before hval0 hW hcnd _ _ _
  have hval : ∀ (j : Nat) t v, Tryd.f7.params[j]? = some t → args[j]? = some v → Value.okWide Tryd.prog W .any base t v := hval0
  have hW' := hW
  obtain ⟨p, q, hA0, hV, rfl, hfz, hnd⟩ := hW
  have hA : DataW.TrodAll enc Tryd.prog W 0 (fun _ => true) true Tryd.f7.params.toList args.toList ds p := hA0
  have hval2 : ∀ (j : Nat) t v, Tryd.f7.params.toList[j]? = some t → args.toList[j]? = some v → Value.okWide Tryd.prog W .any base t v := fun j t v a b => hval j t v (by simpa using a) (by simpa using b)
  have hcall := law_of durableCrash_pure (fun _ h => h) (by rw [Tryd.params7]; kernel_rfl) hA hval2
  rw [Tryd.params7] at hA
  obtain ⟨v0, vs0, d0, ds0, p0, q0, hargs, rfl, rfl, h0, r0⟩ := trodAll_cons hA
  obtain ⟨v1, vs1, d1, ds1, p1, q1, rfl, rfl, rfl, h1, r1⟩ := trodAll_cons r0
  obtain ⟨v2, vs2, d2, ds2, p2, q2, rfl, rfl, rfl, h2, r2⟩ := trodAll_cons r1
  obtain ⟨rfl, rfl, rfl⟩ := trodAll_nil r2
  obtain rfl : args = #[v0, v1, v2] := by cases args; simp_all
  obtain ⟨rfl, rfl⟩ := trodVars_none hV
  have lt0 : ∀ x ∈ p0, x.block < W.heap.size := by obtain ⟨m, hm⟩ := h0; exact DataW.trod_lt m _ _ _ hm
  have lt1 : ∀ x ∈ p1, x.block < W.heap.size := by obtain ⟨m, hm⟩ := h1; exact DataW.trod_lt m _ _ _ hm
  have lt2 : ∀ x ∈ p2, x.block < W.heap.size := by obtain ⟨m, hm⟩ := h2; exact DataW.trod_lt m _ _ _ hm
  clear hA0 hval0 hval2
  refine Calls.mono hcall fun e W' ⟨he, bel⟩ => ?_
  subst he
  exact ⟨_, rfl, _, _, _, [], _, [], hW', trodAll_mk1 (shut_bool Tryd.underlying4 _), (trodAll_cons_mk (Below.trod laidOut (by kernel_rfl) (of_decide_eq_true (by kernel_rfl)) h0 bel lt0) (trodAll_cons_mk (Below.trod laidOut (by kernel_rfl) (of_decide_eq_true (by kernel_rfl)) h1 bel lt1) (trodAll_cons_mk (Below.trod laidOut (by kernel_rfl) (of_decide_eq_true (by kernel_rfl)) h2 bel lt2) trodAll_mk0))), rfl, bel.frame _, fun h => by cases h⟩
theorem over : Rows.durableSurvivesCrashRow.holds Tryd.pinned (OpenSpec.ofChange Rows.durableSurvivesCrashSpec) :=
  OpenClaim.holds_of_wide 7 Tryd.f7 rfl rfl rfl rfl rfl rfl rfl ⟨rfl, rfl, rfl, rfl, rfl⟩ rfl rfl rfl rfl rfl (by kernel_rfl) Tryd.func7 (by kernel_rfl)
    (of_decide_eq_true (by kernel_rfl)) (by unfold Func.isWrapper; first | (rw [if_pos (by decide +kernel)]; kernel_rfl) | (rw [if_neg (by decide +kernel)]; exact ⟨rfl, rfl⟩))
    (fun os started H enc _ => lifted os started H enc)
end row
theorem durableCrash_proved : Rows.DurableSurvivesCrashCardSaid :=
  Claim7.holds_tied_plain_at .later [] [.data, .pinned] true _ false row.over (fun _ h => by cases h) (by kernel_rfl) (fun _ h => by cases h) durableSurvivesCrash_row_tie rfl ⟨rfl, rfl⟩ (by kernel_rfl) rfl
    (fun f fn hf hfn => by
      obtain rfl : f = 7 := Option.some.inj ((show Tryd.prog.funcNamed Rows.durableSurvivesCrashRow.func = some 7 by kernel_rfl).symm.trans hf) |>.symm
      obtain rfl : fn = Tryd.f7 := (Option.some.inj (Tryd.func7.symm.trans hfn)).symm
      exact ⟨by kernel_rfl, fun j t ht => by
        have hm : t ∈ Tryd.f7.params.toList := by simpa using Array.mem_of_getElem? ht
        have hall : (Tryd.f7.params.toList.all fun u => !Tryd.prog.wantsStandIn u) = true := by kernel_rfl
        exact (show Tryd.prog.wantsStandIn t = false by simpa using List.all_eq_true.1 hall t hm)⟩)
    (by kernel_rfl)
end Go.Proofs.YtkfjgggiopegbaaDoor
end
