/- The function visible.Next is a function of data. No condition. -/
import Derived.Test.YtgimbkpfhdodgaaLaySt
import Derived.Test.YtgimbkpfhdodgaaLayRd
import Derived.Test.YtgimbkpfhdodgaaLayWt
import Derived.Test.YtgimbkpfhdodgaaWIn
import Derived.Test.YtgimbkpfhdodgaaWWith
import Derived.Test.YtgimbkpfhdodgaaWOut
import Derived.Test.YtgimbkpfhdodgaaViM
import Derived.Test.YtgimbkpfhdodgaaBd
import Derived.Test.YtgimbkpfhdodgaaOpen
namespace Go.Proofs.Ytgimbkpfhdodgaa
set_option linter.unusedVariables false
set_option linter.unusedSimpArgs false
set_option maxRecDepth 100000

def viNextE (t l k s m a0 a1 a2 a3 a4 a5 a6 a7 me kind a b try' st ka ab : Int) (seen : List Tiii) (wr : List Tii) (du : List Bool) (log : List Tib) : List DV :=
  (viTopM (fun m => IntKind.i64.wrap (withM m me)) (fun m => IntKind.i64.wrap (offM m me)) (placeM a6 l a 4 2) (placeM a6 l a 4 3) (placeM a4 t me 4 0) me kind log).ds

def viNextF (ds : List DV) : List DV := viNextE (gi ds 0) (gi ds 1) (gi ds 2) (gi ds 3) (gi ds 4) (gi ds 5) (gi ds 6) (gi ds 7) (gi ds 8) (gi ds 9) (gi ds 10) (gi ds 11) (gi ds 12) (gi ds 13) (gi ds 14) (gi ds 15) (gi ds 16) (gi ds 17) (gi ds 18) (gi ds 19) (gi ds 20) (gLiii ds 21) (gLii ds 22) (gLb ds 23) (gLib ds 24)
/-- What the executor makes of it. -/
def viNextTree : PT :=
(.br (.bin .eq (.var 14) (.int 1))
 (.br (.un .not (.bin .le (.int 0) (.bin .idx (.fn 54 (.bin .cons (.var 0) (.bin .cons (.var 1) (.bin .cons (.var 2) (.bin .cons (.var 3) (.bin .cons (.var 4) (.bin .cons (.var 5) (.bin .cons (.var 6) (.bin .cons (.var 7) (.bin .cons (.var 8) (.bin .cons (.var 9) (.bin .cons (.var 10) (.bin .cons (.var 11) (.bin .cons (.var 12) (.bin .cons (.var 15) .nil))))))))))))))) (.int 0))))
  (.leaf [(.int 0), (.int 0), (.int 0), (.int 0), (.str []), (.int 0), (.int 0), (.int 0), (.int 0), (.bool false), (.bool false), (.int 1), (.bool true)])
  (.br (.un .not (.bin .le (.int 0) (.bin .idx (.fn 53 (.bin .cons (.var 0) (.bin .cons (.var 1) (.bin .cons (.var 2) (.bin .cons (.var 3) (.bin .cons (.var 4) (.bin .cons (.var 5) (.bin .cons (.var 6) (.bin .cons (.var 7) (.bin .cons (.var 8) (.bin .cons (.var 9) (.bin .cons (.var 10) (.bin .cons (.var 11) (.bin .cons (.var 12) (.bin .cons (.var 13) .nil))))))))))))))) (.int 0))))
   (.leaf [(.int 0), (.int 0), (.int 0), (.int 0), (.str []), (.int 0), (.int 0), (.int 0), (.int 0), (.bool false), (.bool false), (.int 1), (.bool true)])
   (.loop 25 [(.int 0)]
    (.br (.bin .le (.un .len (.var 24)) (.var 25))
     .fail
     (.asrt (.bin .le (.int 0) (.un (.wrap .i64) (.bin .sub (.un (.wrap .i64) (.bin .add (.var 25) (.int 1))) (.int 1))))
      (.asrt (.un .not (.bin .le (.un .len (.var 24)) (.un (.wrap .i64) (.bin .sub (.un (.wrap .i64) (.bin .add (.var 25) (.int 1))) (.int 1)))))
       (.br (.bin .idx (.fn 45 (.bin .cons (.bin .idx (.bin .idx (.var 24) (.bin .add (.int 0) (.un (.wrap .i64) (.bin .sub (.un (.wrap .i64) (.bin .add (.var 25) (.int 1))) (.int 1))))) (.int 0)) (.bin .cons (.var 13) .nil))) (.int 0))
        .fail
        (.br (.bin .le (.un .len (.var 24)) (.un (.wrap .i64) (.bin .add (.var 25) (.int 1))))
         .fail
         (.asrt (.bin .le (.int 0) (.un (.wrap .i64) (.bin .sub (.un (.wrap .i64) (.bin .add (.un (.wrap .i64) (.bin .add (.var 25) (.int 1))) (.int 1))) (.int 1))))
          (.asrt (.un .not (.bin .le (.un .len (.var 24)) (.un (.wrap .i64) (.bin .sub (.un (.wrap .i64) (.bin .add (.un (.wrap .i64) (.bin .add (.var 25) (.int 1))) (.int 1))) (.int 1)))))
           (.br (.bin .idx (.bin .idx (.var 24) (.bin .add (.int 0) (.un (.wrap .i64) (.bin .sub (.un (.wrap .i64) (.bin .add (.un (.wrap .i64) (.bin .add (.var 25) (.int 1))) (.int 1))) (.int 1))))) (.int 1))
            .fail
            (.leaf [(.un (.wrap .i64) (.bin .add (.un (.wrap .i64) (.bin .add (.var 25) (.int 1))) (.int 1)))])))))))))
    (.br (.bin .le (.un .len (.var 24)) (.var 25))
     (.leaf [(.int 1), (.bin .idx (.fn 54 (.bin .cons (.var 0) (.bin .cons (.var 1) (.bin .cons (.var 2) (.bin .cons (.var 3) (.bin .cons (.var 4) (.bin .cons (.var 5) (.bin .cons (.var 6) (.bin .cons (.var 7) (.bin .cons (.var 8) (.bin .cons (.var 9) (.bin .cons (.var 10) (.bin .cons (.var 11) (.bin .cons (.var 12) (.bin .cons (.var 15) .nil))))))))))))))) (.int 0)), (.int 0), (.int 0), (.str []), (.int 0), (.int 0), (.int 0), (.int 0), (.bool false), (.bool false), (.int 0), (.bool false)])
     (.asrt (.bin .le (.int 0) (.un (.wrap .i64) (.bin .sub (.un (.wrap .i64) (.bin .add (.var 25) (.int 1))) (.int 1))))
      (.asrt (.un .not (.bin .le (.un .len (.var 24)) (.un (.wrap .i64) (.bin .sub (.un (.wrap .i64) (.bin .add (.var 25) (.int 1))) (.int 1)))))
       (.br (.bin .idx (.fn 45 (.bin .cons (.bin .idx (.bin .idx (.var 24) (.bin .add (.int 0) (.un (.wrap .i64) (.bin .sub (.un (.wrap .i64) (.bin .add (.var 25) (.int 1))) (.int 1))))) (.int 0)) (.bin .cons (.var 13) .nil))) (.int 0))
        (.leaf [(.int 0), (.int 0), (.int 0), (.int 0), (.str []), (.int 0), (.int 0), (.int 0), (.int 0), (.bool false), (.bool false), (.int 0), (.bool true)])
        (.br (.bin .le (.un .len (.var 24)) (.un (.wrap .i64) (.bin .add (.var 25) (.int 1))))
         (.leaf [(.int 3), (.bin .idx (.fn 54 (.bin .cons (.var 0) (.bin .cons (.var 1) (.bin .cons (.var 2) (.bin .cons (.var 3) (.bin .cons (.var 4) (.bin .cons (.var 5) (.bin .cons (.var 6) (.bin .cons (.var 7) (.bin .cons (.var 8) (.bin .cons (.var 9) (.bin .cons (.var 10) (.bin .cons (.var 11) (.bin .cons (.var 12) (.bin .cons (.var 15) .nil))))))))))))))) (.int 0)), (.bin .idx (.bin .idx (.var 24) (.bin .add (.int 0) (.un (.wrap .i64) (.bin .sub (.un (.wrap .i64) (.bin .add (.var 25) (.int 1))) (.int 1))))) (.int 0)), (.bin .idx (.fn 48 (.bin .cons (.bin .idx (.bin .idx (.var 24) (.bin .add (.int 0) (.un (.wrap .i64) (.bin .sub (.un (.wrap .i64) (.bin .add (.var 25) (.int 1))) (.int 1))))) (.int 0)) (.bin .cons (.var 13) .nil))) (.int 0)), (.str []), (.int 0), (.int 0), (.int 0), (.int 0), (.bool false), (.bool false), (.int 0), (.bool false)])
         (.asrt (.bin .le (.int 0) (.un (.wrap .i64) (.bin .sub (.un (.wrap .i64) (.bin .add (.un (.wrap .i64) (.bin .add (.var 25) (.int 1))) (.int 1))) (.int 1))))
          (.asrt (.un .not (.bin .le (.un .len (.var 24)) (.un (.wrap .i64) (.bin .sub (.un (.wrap .i64) (.bin .add (.un (.wrap .i64) (.bin .add (.var 25) (.int 1))) (.int 1))) (.int 1)))))
           (.br (.bin .idx (.bin .idx (.var 24) (.bin .add (.int 0) (.un (.wrap .i64) (.bin .sub (.un (.wrap .i64) (.bin .add (.un (.wrap .i64) (.bin .add (.var 25) (.int 1))) (.int 1))) (.int 1))))) (.int 1))
            (.leaf [(.int 0), (.int 0), (.int 0), (.int 0), (.str []), (.int 0), (.int 0), (.int 0), (.int 0), (.bool true), (.bool false), (.int 0), (.bool true)])
            .fail)))))))))))
 (.br (.bin .eq (.var 14) (.int 2))
  (.br (.un .not (.bin .le (.int 0) (.bin .idx (.fn 54 (.bin .cons (.var 0) (.bin .cons (.var 1) (.bin .cons (.var 2) (.bin .cons (.var 3) (.bin .cons (.var 4) (.bin .cons (.var 5) (.bin .cons (.var 6) (.bin .cons (.var 7) (.bin .cons (.var 8) (.bin .cons (.var 9) (.bin .cons (.var 10) (.bin .cons (.var 11) (.bin .cons (.var 12) (.bin .cons (.var 15) .nil))))))))))))))) (.int 0))))
   (.leaf [(.int 0), (.int 0), (.int 0), (.int 0), (.str []), (.int 0), (.int 0), (.int 0), (.int 0), (.bool false), (.bool false), (.int 1), (.bool true)])
   (.br (.un .not (.bin .le (.int 0) (.bin .idx (.fn 53 (.bin .cons (.var 0) (.bin .cons (.var 1) (.bin .cons (.var 2) (.bin .cons (.var 3) (.bin .cons (.var 4) (.bin .cons (.var 5) (.bin .cons (.var 6) (.bin .cons (.var 7) (.bin .cons (.var 8) (.bin .cons (.var 9) (.bin .cons (.var 10) (.bin .cons (.var 11) (.bin .cons (.var 12) (.bin .cons (.var 13) .nil))))))))))))))) (.int 0))))
    (.leaf [(.int 0), (.int 0), (.int 0), (.int 0), (.str []), (.int 0), (.int 0), (.int 0), (.int 0), (.bool false), (.bool false), (.int 1), (.bool true)])
    (.loop 25 [(.int 0)]
     (.br (.bin .le (.un .len (.var 24)) (.var 25))
      .fail
      (.asrt (.bin .le (.int 0) (.un (.wrap .i64) (.bin .sub (.un (.wrap .i64) (.bin .add (.var 25) (.int 1))) (.int 1))))
       (.asrt (.un .not (.bin .le (.un .len (.var 24)) (.un (.wrap .i64) (.bin .sub (.un (.wrap .i64) (.bin .add (.var 25) (.int 1))) (.int 1)))))
        (.br (.un .not (.bin .idx (.fn 45 (.bin .cons (.bin .idx (.bin .idx (.var 24) (.bin .add (.int 0) (.un (.wrap .i64) (.bin .sub (.un (.wrap .i64) (.bin .add (.var 25) (.int 1))) (.int 1))))) (.int 0)) (.bin .cons (.var 13) .nil))) (.int 0)))
         .fail
         (.br (.bin .le (.un .len (.var 24)) (.un (.wrap .i64) (.bin .add (.var 25) (.int 1))))
          .fail
          (.asrt (.bin .le (.int 0) (.un (.wrap .i64) (.bin .sub (.un (.wrap .i64) (.bin .add (.un (.wrap .i64) (.bin .add (.var 25) (.int 1))) (.int 1))) (.int 1))))
           (.asrt (.un .not (.bin .le (.un .len (.var 24)) (.un (.wrap .i64) (.bin .sub (.un (.wrap .i64) (.bin .add (.un (.wrap .i64) (.bin .add (.var 25) (.int 1))) (.int 1))) (.int 1)))))
            (.br (.bin .idx (.bin .idx (.var 24) (.bin .add (.int 0) (.un (.wrap .i64) (.bin .sub (.un (.wrap .i64) (.bin .add (.un (.wrap .i64) (.bin .add (.var 25) (.int 1))) (.int 1))) (.int 1))))) (.int 1))
             .fail
             (.leaf [(.un (.wrap .i64) (.bin .add (.un (.wrap .i64) (.bin .add (.var 25) (.int 1))) (.int 1)))])))))))))
     (.br (.bin .le (.un .len (.var 24)) (.var 25))
      (.leaf [(.int 1), (.bin .idx (.fn 54 (.bin .cons (.var 0) (.bin .cons (.var 1) (.bin .cons (.var 2) (.bin .cons (.var 3) (.bin .cons (.var 4) (.bin .cons (.var 5) (.bin .cons (.var 6) (.bin .cons (.var 7) (.bin .cons (.var 8) (.bin .cons (.var 9) (.bin .cons (.var 10) (.bin .cons (.var 11) (.bin .cons (.var 12) (.bin .cons (.var 15) .nil))))))))))))))) (.int 0)), (.int 0), (.int 0), (.str []), (.int 0), (.int 0), (.int 0), (.int 0), (.bool false), (.bool false), (.int 0), (.bool false)])
      (.asrt (.bin .le (.int 0) (.un (.wrap .i64) (.bin .sub (.un (.wrap .i64) (.bin .add (.var 25) (.int 1))) (.int 1))))
       (.asrt (.un .not (.bin .le (.un .len (.var 24)) (.un (.wrap .i64) (.bin .sub (.un (.wrap .i64) (.bin .add (.var 25) (.int 1))) (.int 1)))))
        (.br (.un .not (.bin .idx (.fn 45 (.bin .cons (.bin .idx (.bin .idx (.var 24) (.bin .add (.int 0) (.un (.wrap .i64) (.bin .sub (.un (.wrap .i64) (.bin .add (.var 25) (.int 1))) (.int 1))))) (.int 0)) (.bin .cons (.var 13) .nil))) (.int 0)))
         (.leaf [(.int 0), (.int 0), (.int 0), (.int 0), (.str []), (.int 0), (.int 0), (.int 0), (.int 0), (.bool false), (.bool false), (.int 0), (.bool true)])
         (.br (.bin .le (.un .len (.var 24)) (.un (.wrap .i64) (.bin .add (.var 25) (.int 1))))
          (.leaf [(.int 3), (.bin .idx (.fn 54 (.bin .cons (.var 0) (.bin .cons (.var 1) (.bin .cons (.var 2) (.bin .cons (.var 3) (.bin .cons (.var 4) (.bin .cons (.var 5) (.bin .cons (.var 6) (.bin .cons (.var 7) (.bin .cons (.var 8) (.bin .cons (.var 9) (.bin .cons (.var 10) (.bin .cons (.var 11) (.bin .cons (.var 12) (.bin .cons (.var 15) .nil))))))))))))))) (.int 0)), (.bin .idx (.bin .idx (.var 24) (.bin .add (.int 0) (.un (.wrap .i64) (.bin .sub (.un (.wrap .i64) (.bin .add (.var 25) (.int 1))) (.int 1))))) (.int 0)), (.bin .idx (.fn 51 (.bin .cons (.bin .idx (.bin .idx (.var 24) (.bin .add (.int 0) (.un (.wrap .i64) (.bin .sub (.un (.wrap .i64) (.bin .add (.var 25) (.int 1))) (.int 1))))) (.int 0)) (.bin .cons (.var 13) .nil))) (.int 0)), (.str []), (.int 0), (.int 0), (.int 0), (.int 0), (.bool false), (.bool false), (.int 0), (.bool false)])
          (.asrt (.bin .le (.int 0) (.un (.wrap .i64) (.bin .sub (.un (.wrap .i64) (.bin .add (.un (.wrap .i64) (.bin .add (.var 25) (.int 1))) (.int 1))) (.int 1))))
           (.asrt (.un .not (.bin .le (.un .len (.var 24)) (.un (.wrap .i64) (.bin .sub (.un (.wrap .i64) (.bin .add (.un (.wrap .i64) (.bin .add (.var 25) (.int 1))) (.int 1))) (.int 1)))))
            (.br (.bin .idx (.bin .idx (.var 24) (.bin .add (.int 0) (.un (.wrap .i64) (.bin .sub (.un (.wrap .i64) (.bin .add (.un (.wrap .i64) (.bin .add (.var 25) (.int 1))) (.int 1))) (.int 1))))) (.int 1))
             (.leaf [(.int 0), (.int 0), (.int 0), (.int 0), (.str []), (.int 0), (.int 0), (.int 0), (.int 0), (.bool true), (.bool false), (.int 0), (.bool true)])
             .fail)))))))))))
  (.br (.bin .eq (.var 14) (.int 3))
   (.br (.un .not (.bin .le (.int 0) (.bin .idx (.fn 55 (.bin .cons (.var 0) (.bin .cons (.var 1) (.bin .cons (.var 2) (.bin .cons (.var 3) (.bin .cons (.var 4) (.bin .cons (.var 5) (.bin .cons (.var 6) (.bin .cons (.var 7) (.bin .cons (.var 8) (.bin .cons (.var 9) (.bin .cons (.var 10) (.bin .cons (.var 11) (.bin .cons (.var 12) (.bin .cons (.var 15) .nil))))))))))))))) (.int 0))))
    (.leaf [(.int 0), (.int 0), (.int 0), (.int 0), (.str []), (.int 0), (.int 0), (.int 0), (.int 0), (.bool false), (.bool false), (.int 1), (.bool true)])
    (.br (.un .not (.bin .le (.int 0) (.bin .idx (.fn 53 (.bin .cons (.var 0) (.bin .cons (.var 1) (.bin .cons (.var 2) (.bin .cons (.var 3) (.bin .cons (.var 4) (.bin .cons (.var 5) (.bin .cons (.var 6) (.bin .cons (.var 7) (.bin .cons (.var 8) (.bin .cons (.var 9) (.bin .cons (.var 10) (.bin .cons (.var 11) (.bin .cons (.var 12) (.bin .cons (.var 13) .nil))))))))))))))) (.int 0))))
     (.leaf [(.int 0), (.int 0), (.int 0), (.int 0), (.str []), (.int 0), (.int 0), (.int 0), (.int 0), (.bool false), (.bool false), (.int 1), (.bool true)])
     (.loop 25 [(.int 0)]
      (.br (.bin .le (.un .len (.var 24)) (.var 25))
       .fail
       (.asrt (.bin .le (.int 0) (.un (.wrap .i64) (.bin .sub (.un (.wrap .i64) (.bin .add (.var 25) (.int 1))) (.int 1))))
        (.asrt (.un .not (.bin .le (.un .len (.var 24)) (.un (.wrap .i64) (.bin .sub (.un (.wrap .i64) (.bin .add (.var 25) (.int 1))) (.int 1)))))
         (.br (.bin .idx (.fn 45 (.bin .cons (.bin .idx (.bin .idx (.var 24) (.bin .add (.int 0) (.un (.wrap .i64) (.bin .sub (.un (.wrap .i64) (.bin .add (.var 25) (.int 1))) (.int 1))))) (.int 0)) (.bin .cons (.var 13) .nil))) (.int 0))
          .fail
          (.br (.bin .le (.un .len (.var 24)) (.un (.wrap .i64) (.bin .add (.var 25) (.int 1))))
           .fail
           (.asrt (.bin .le (.int 0) (.un (.wrap .i64) (.bin .sub (.un (.wrap .i64) (.bin .add (.un (.wrap .i64) (.bin .add (.var 25) (.int 1))) (.int 1))) (.int 1))))
            (.asrt (.un .not (.bin .le (.un .len (.var 24)) (.un (.wrap .i64) (.bin .sub (.un (.wrap .i64) (.bin .add (.un (.wrap .i64) (.bin .add (.var 25) (.int 1))) (.int 1))) (.int 1)))))
             (.br (.bin .idx (.bin .idx (.var 24) (.bin .add (.int 0) (.un (.wrap .i64) (.bin .sub (.un (.wrap .i64) (.bin .add (.un (.wrap .i64) (.bin .add (.var 25) (.int 1))) (.int 1))) (.int 1))))) (.int 1))
              .fail
              (.leaf [(.un (.wrap .i64) (.bin .add (.un (.wrap .i64) (.bin .add (.var 25) (.int 1))) (.int 1)))])))))))))
      (.br (.bin .le (.un .len (.var 24)) (.var 25))
       (.leaf [(.int 1), (.bin .idx (.fn 55 (.bin .cons (.var 0) (.bin .cons (.var 1) (.bin .cons (.var 2) (.bin .cons (.var 3) (.bin .cons (.var 4) (.bin .cons (.var 5) (.bin .cons (.var 6) (.bin .cons (.var 7) (.bin .cons (.var 8) (.bin .cons (.var 9) (.bin .cons (.var 10) (.bin .cons (.var 11) (.bin .cons (.var 12) (.bin .cons (.var 15) .nil))))))))))))))) (.int 0)), (.int 0), (.int 0), (.str []), (.int 0), (.int 0), (.int 0), (.int 0), (.bool false), (.bool false), (.int 0), (.bool false)])
       (.asrt (.bin .le (.int 0) (.un (.wrap .i64) (.bin .sub (.un (.wrap .i64) (.bin .add (.var 25) (.int 1))) (.int 1))))
        (.asrt (.un .not (.bin .le (.un .len (.var 24)) (.un (.wrap .i64) (.bin .sub (.un (.wrap .i64) (.bin .add (.var 25) (.int 1))) (.int 1)))))
         (.br (.bin .idx (.fn 45 (.bin .cons (.bin .idx (.bin .idx (.var 24) (.bin .add (.int 0) (.un (.wrap .i64) (.bin .sub (.un (.wrap .i64) (.bin .add (.var 25) (.int 1))) (.int 1))))) (.int 0)) (.bin .cons (.var 13) .nil))) (.int 0))
          (.leaf [(.int 0), (.int 0), (.int 0), (.int 0), (.str []), (.int 0), (.int 0), (.int 0), (.int 0), (.bool false), (.bool false), (.int 0), (.bool true)])
          (.br (.bin .le (.un .len (.var 24)) (.un (.wrap .i64) (.bin .add (.var 25) (.int 1))))
           (.leaf [(.int 3), (.bin .idx (.fn 55 (.bin .cons (.var 0) (.bin .cons (.var 1) (.bin .cons (.var 2) (.bin .cons (.var 3) (.bin .cons (.var 4) (.bin .cons (.var 5) (.bin .cons (.var 6) (.bin .cons (.var 7) (.bin .cons (.var 8) (.bin .cons (.var 9) (.bin .cons (.var 10) (.bin .cons (.var 11) (.bin .cons (.var 12) (.bin .cons (.var 15) .nil))))))))))))))) (.int 0)), (.bin .idx (.bin .idx (.var 24) (.bin .add (.int 0) (.un (.wrap .i64) (.bin .sub (.un (.wrap .i64) (.bin .add (.var 25) (.int 1))) (.int 1))))) (.int 0)), (.bin .idx (.fn 48 (.bin .cons (.bin .idx (.bin .idx (.var 24) (.bin .add (.int 0) (.un (.wrap .i64) (.bin .sub (.un (.wrap .i64) (.bin .add (.var 25) (.int 1))) (.int 1))))) (.int 0)) (.bin .cons (.var 13) .nil))) (.int 0)), (.str []), (.int 0), (.int 0), (.int 0), (.int 0), (.bool false), (.bool false), (.int 0), (.bool false)])
           (.asrt (.bin .le (.int 0) (.un (.wrap .i64) (.bin .sub (.un (.wrap .i64) (.bin .add (.un (.wrap .i64) (.bin .add (.var 25) (.int 1))) (.int 1))) (.int 1))))
            (.asrt (.un .not (.bin .le (.un .len (.var 24)) (.un (.wrap .i64) (.bin .sub (.un (.wrap .i64) (.bin .add (.un (.wrap .i64) (.bin .add (.var 25) (.int 1))) (.int 1))) (.int 1)))))
             (.br (.bin .idx (.bin .idx (.var 24) (.bin .add (.int 0) (.un (.wrap .i64) (.bin .sub (.un (.wrap .i64) (.bin .add (.un (.wrap .i64) (.bin .add (.var 25) (.int 1))) (.int 1))) (.int 1))))) (.int 1))
              (.leaf [(.int 0), (.int 0), (.int 0), (.int 0), (.str []), (.int 0), (.int 0), (.int 0), (.int 0), (.bool true), (.bool false), (.int 0), (.bool true)])
              .fail)))))))))))
   (.br (.bin .eq (.var 14) (.int 4))
    (.br (.un .not (.bin .le (.int 0) (.bin .idx (.fn 55 (.bin .cons (.var 0) (.bin .cons (.var 1) (.bin .cons (.var 2) (.bin .cons (.var 3) (.bin .cons (.var 4) (.bin .cons (.var 5) (.bin .cons (.var 6) (.bin .cons (.var 7) (.bin .cons (.var 8) (.bin .cons (.var 9) (.bin .cons (.var 10) (.bin .cons (.var 11) (.bin .cons (.var 12) (.bin .cons (.var 15) .nil))))))))))))))) (.int 0))))
     (.leaf [(.int 0), (.int 0), (.int 0), (.int 0), (.str []), (.int 0), (.int 0), (.int 0), (.int 0), (.bool false), (.bool false), (.int 1), (.bool true)])
     (.br (.un .not (.bin .le (.int 0) (.bin .idx (.fn 53 (.bin .cons (.var 0) (.bin .cons (.var 1) (.bin .cons (.var 2) (.bin .cons (.var 3) (.bin .cons (.var 4) (.bin .cons (.var 5) (.bin .cons (.var 6) (.bin .cons (.var 7) (.bin .cons (.var 8) (.bin .cons (.var 9) (.bin .cons (.var 10) (.bin .cons (.var 11) (.bin .cons (.var 12) (.bin .cons (.var 13) .nil))))))))))))))) (.int 0))))
      (.leaf [(.int 0), (.int 0), (.int 0), (.int 0), (.str []), (.int 0), (.int 0), (.int 0), (.int 0), (.bool false), (.bool false), (.int 1), (.bool true)])
      (.loop 25 [(.int 0)]
       (.br (.bin .le (.un .len (.var 24)) (.var 25))
        .fail
        (.asrt (.bin .le (.int 0) (.un (.wrap .i64) (.bin .sub (.un (.wrap .i64) (.bin .add (.var 25) (.int 1))) (.int 1))))
         (.asrt (.un .not (.bin .le (.un .len (.var 24)) (.un (.wrap .i64) (.bin .sub (.un (.wrap .i64) (.bin .add (.var 25) (.int 1))) (.int 1)))))
          (.br (.un .not (.bin .idx (.fn 45 (.bin .cons (.bin .idx (.bin .idx (.var 24) (.bin .add (.int 0) (.un (.wrap .i64) (.bin .sub (.un (.wrap .i64) (.bin .add (.var 25) (.int 1))) (.int 1))))) (.int 0)) (.bin .cons (.var 13) .nil))) (.int 0)))
           .fail
           (.br (.bin .le (.un .len (.var 24)) (.un (.wrap .i64) (.bin .add (.var 25) (.int 1))))
            .fail
            (.asrt (.bin .le (.int 0) (.un (.wrap .i64) (.bin .sub (.un (.wrap .i64) (.bin .add (.un (.wrap .i64) (.bin .add (.var 25) (.int 1))) (.int 1))) (.int 1))))
             (.asrt (.un .not (.bin .le (.un .len (.var 24)) (.un (.wrap .i64) (.bin .sub (.un (.wrap .i64) (.bin .add (.un (.wrap .i64) (.bin .add (.var 25) (.int 1))) (.int 1))) (.int 1)))))
              (.br (.bin .idx (.bin .idx (.var 24) (.bin .add (.int 0) (.un (.wrap .i64) (.bin .sub (.un (.wrap .i64) (.bin .add (.un (.wrap .i64) (.bin .add (.var 25) (.int 1))) (.int 1))) (.int 1))))) (.int 1))
               .fail
               (.leaf [(.un (.wrap .i64) (.bin .add (.un (.wrap .i64) (.bin .add (.var 25) (.int 1))) (.int 1)))])))))))))
       (.br (.bin .le (.un .len (.var 24)) (.var 25))
        (.leaf [(.int 1), (.bin .idx (.fn 55 (.bin .cons (.var 0) (.bin .cons (.var 1) (.bin .cons (.var 2) (.bin .cons (.var 3) (.bin .cons (.var 4) (.bin .cons (.var 5) (.bin .cons (.var 6) (.bin .cons (.var 7) (.bin .cons (.var 8) (.bin .cons (.var 9) (.bin .cons (.var 10) (.bin .cons (.var 11) (.bin .cons (.var 12) (.bin .cons (.var 15) .nil))))))))))))))) (.int 0)), (.int 0), (.int 0), (.str []), (.int 0), (.int 0), (.int 0), (.int 0), (.bool false), (.bool false), (.int 0), (.bool false)])
        (.asrt (.bin .le (.int 0) (.un (.wrap .i64) (.bin .sub (.un (.wrap .i64) (.bin .add (.var 25) (.int 1))) (.int 1))))
         (.asrt (.un .not (.bin .le (.un .len (.var 24)) (.un (.wrap .i64) (.bin .sub (.un (.wrap .i64) (.bin .add (.var 25) (.int 1))) (.int 1)))))
          (.br (.un .not (.bin .idx (.fn 45 (.bin .cons (.bin .idx (.bin .idx (.var 24) (.bin .add (.int 0) (.un (.wrap .i64) (.bin .sub (.un (.wrap .i64) (.bin .add (.var 25) (.int 1))) (.int 1))))) (.int 0)) (.bin .cons (.var 13) .nil))) (.int 0)))
           (.leaf [(.int 0), (.int 0), (.int 0), (.int 0), (.str []), (.int 0), (.int 0), (.int 0), (.int 0), (.bool false), (.bool false), (.int 0), (.bool true)])
           (.br (.bin .le (.un .len (.var 24)) (.un (.wrap .i64) (.bin .add (.var 25) (.int 1))))
            (.leaf [(.int 3), (.bin .idx (.fn 55 (.bin .cons (.var 0) (.bin .cons (.var 1) (.bin .cons (.var 2) (.bin .cons (.var 3) (.bin .cons (.var 4) (.bin .cons (.var 5) (.bin .cons (.var 6) (.bin .cons (.var 7) (.bin .cons (.var 8) (.bin .cons (.var 9) (.bin .cons (.var 10) (.bin .cons (.var 11) (.bin .cons (.var 12) (.bin .cons (.var 15) .nil))))))))))))))) (.int 0)), (.bin .idx (.bin .idx (.var 24) (.bin .add (.int 0) (.un (.wrap .i64) (.bin .sub (.un (.wrap .i64) (.bin .add (.var 25) (.int 1))) (.int 1))))) (.int 0)), (.bin .idx (.fn 51 (.bin .cons (.bin .idx (.bin .idx (.var 24) (.bin .add (.int 0) (.un (.wrap .i64) (.bin .sub (.un (.wrap .i64) (.bin .add (.var 25) (.int 1))) (.int 1))))) (.int 0)) (.bin .cons (.var 13) .nil))) (.int 0)), (.str []), (.int 0), (.int 0), (.int 0), (.int 0), (.bool false), (.bool false), (.int 0), (.bool false)])
            (.asrt (.bin .le (.int 0) (.un (.wrap .i64) (.bin .sub (.un (.wrap .i64) (.bin .add (.un (.wrap .i64) (.bin .add (.var 25) (.int 1))) (.int 1))) (.int 1))))
             (.asrt (.un .not (.bin .le (.un .len (.var 24)) (.un (.wrap .i64) (.bin .sub (.un (.wrap .i64) (.bin .add (.un (.wrap .i64) (.bin .add (.var 25) (.int 1))) (.int 1))) (.int 1)))))
              (.br (.bin .idx (.bin .idx (.var 24) (.bin .add (.int 0) (.un (.wrap .i64) (.bin .sub (.un (.wrap .i64) (.bin .add (.un (.wrap .i64) (.bin .add (.var 25) (.int 1))) (.int 1))) (.int 1))))) (.int 1))
               (.leaf [(.int 0), (.int 0), (.int 0), (.int 0), (.str []), (.int 0), (.int 0), (.int 0), (.int 0), (.bool true), (.bool false), (.int 0), (.bool true)])
               .fail)))))))))))
    (.leaf [(.int 0), (.int 0), (.int 0), (.int 0), (.str []), (.int 0), (.int 0), (.int 0), (.int 0), (.bool false), (.bool false), (.int 1), (.bool true)])))))

def viNextSm : List (Nat × Smy) := [(23, ⟨53, [.agg [.pl (.int .i64), .pl (.int .i64), .pl (.int .i64), .pl (.int .i64), .pl (.int .i64), .pl (.int .i64), .pl (.int .i64), .pl (.int .i64), .pl (.int .i64), .pl (.int .i64), .pl (.int .i64), .pl (.int .i64), .pl (.int .i64)], .one (.pl (.int .i64))], [.one (.pl (.int .i64))], fun _ => [], none⟩), (19, ⟨54, [.agg [.pl (.int .i64), .pl (.int .i64), .pl (.int .i64), .pl (.int .i64), .pl (.int .i64), .pl (.int .i64), .pl (.int .i64), .pl (.int .i64), .pl (.int .i64), .pl (.int .i64), .pl (.int .i64), .pl (.int .i64), .pl (.int .i64)], .one (.pl (.int .i64))], [.one (.pl (.int .i64))], fun _ => [], none⟩), (22, ⟨55, [.agg [.pl (.int .i64), .pl (.int .i64), .pl (.int .i64), .pl (.int .i64), .pl (.int .i64), .pl (.int .i64), .pl (.int .i64), .pl (.int .i64), .pl (.int .i64), .pl (.int .i64), .pl (.int .i64), .pl (.int .i64), .pl (.int .i64)], .one (.pl (.int .i64))], [.one (.pl (.int .i64))], fun _ => [], none⟩), (36, ⟨45, [.one (.pl (.int .i64)), .one (.pl (.int .i64))], [.one (.pl .bool)], fun _ => [], none⟩), (32, ⟨48, [.one (.pl (.int .i64)), .one (.pl (.int .i64))], [.one (.pl (.int .i64))], fun _ => [], none⟩), (35, ⟨51, [.one (.pl (.int .i64)), .one (.pl (.int .i64))], [.one (.pl (.int .i64))], fun _ => [], none⟩)]
def viNextLa : List (LK × LA) := [(⟨26, 1, 37, 25⟩, ⟨[(9, .any), (10, .any), (11, .any), (12, .any), (13, .any), (14, .any), (15, .any), (16, .any), (17, .any), (18, .any), (19, .any), (20, .any), (21, .any), (22, .any), (23, .any), (24, .any), (25, .any)], [(34, (.cells [(.int .i64 (.var 25))]))], [], 1, 0⟩)]
def viNextPhi : Fs := ⟨fun n d => match n with
  | 53 => .list (layStF d.l)
  | 54 => .list (layRdF d.l)
  | 55 => .list (layWtF d.l)
  | 45 => .list (wInF d.l)
  | 48 => .list (wWithF d.l)
  | 51 => .list (wOutF d.l)
  | _ => d, 60⟩
theorem viNextS : SmyOk true Try.prog viNextPhi viNextSm := (smy_cons (fun _ => True) layStF laySt_pure (fun _ _ _ _ => trivial) (fun _ => rfl) (fun _ h => by cases h) (smy_cons (fun _ => True) layRdF layRd_pure (fun _ _ _ _ => trivial) (fun _ => rfl) (fun _ h => by cases h) (smy_cons (fun _ => True) layWtF layWt_pure (fun _ _ _ _ => trivial) (fun _ => rfl) (fun _ h => by cases h) (smy_cons (fun _ => True) wInF wIn_pure (fun _ _ _ _ => trivial) (fun _ => rfl) (fun _ h => by cases h) (smy_cons (fun _ => True) wWithF wWith_pure (fun _ _ _ _ => trivial) (fun _ => rfl) (fun _ h => by cases h) (smy_cons (fun _ => True) wOutF wOut_pure (fun _ _ _ _ => trivial) (fun _ => rfl) (fun _ h => by cases h) smy_nil))))))
theorem viNextT : treeOk ⟨Try.prog, viNextSm, viNextLa, true⟩ 4000 7 [.agg [.pl (.int .i64), .pl (.int .i64), .pl (.int .i64), .pl (.int .i64), .pl (.int .i64), .pl (.int .i64), .pl (.int .i64), .pl (.int .i64), .pl (.int .i64), .pl (.int .i64), .pl (.int .i64), .pl (.int .i64), .pl (.int .i64)], .one (.pl (.int .i64)), .agg [.pl (.int .i64), .pl (.int .i64), .pl (.int .i64), .pl (.int .i64), .pl (.int .i64), .pl (.int .i64), .pl (.int .i64), .rows false [.int .i64, .int .i64, .int .i64], .rows false [.int .i64, .int .i64], .rows false [.bool]], .one (.rows false [.int .i64, .bool])] [.agg [.pl (.int .i64), .pl (.int .i64), .pl (.int .i64), .pl (.int .i64), .pl .str], .agg [.pl (.int .i64), .pl (.int .i64), .pl (.int .i64), .pl (.int .i64), .pl .bool, .pl .bool, .pl (.int .i64)], .one (.pl .bool)] ([]) viNextTree = true := by decide +kernel
set_option maxHeartbeats 1000000 in
theorem viNext_pure : PureE true Try.prog 7 [.agg [.pl (.int .i64), .pl (.int .i64), .pl (.int .i64), .pl (.int .i64), .pl (.int .i64), .pl (.int .i64), .pl (.int .i64), .pl (.int .i64), .pl (.int .i64), .pl (.int .i64), .pl (.int .i64), .pl (.int .i64), .pl (.int .i64)], .one (.pl (.int .i64)), .agg [.pl (.int .i64), .pl (.int .i64), .pl (.int .i64), .pl (.int .i64), .pl (.int .i64), .pl (.int .i64), .pl (.int .i64), .rows false [.int .i64, .int .i64, .int .i64], .rows false [.int .i64, .int .i64], .rows false [.bool]], .one (.rows false [.int .i64, .bool])] [.agg [.pl (.int .i64), .pl (.int .i64), .pl (.int .i64), .pl (.int .i64), .pl .str], .agg [.pl (.int .i64), .pl (.int .i64), .pl (.int .i64), .pl (.int .i64), .pl .bool, .pl .bool, .pl (.int .i64)], .one (.pl .bool)] (lenP [(24, 1000000)]) viNextF := by
  refine pure_tree (X := ⟨Try.prog, viNextSm, viNextLa, true⟩) (by decide +kernel) (Checked.mixed Try.checked) viNextS (by decide +kernel) (by decide +kernel) viNextT (by decide +kernel) ?_
  intro ds hl hp
  obtain ⟨d0, d1, d2, d3, d4, d5, d6, d7, d8, d9, d10, d11, d12, d13, d14, d15, d16, d17, d18, d19, d20, d21, d22, d23, d24, rfl⟩ := len25 hl
  have b24 : (d24.l.length : Int) ≤ 1000000 := hp (24, 1000000) (by simp)
  have hF : viNextF [d0, d1, d2, d3, d4, d5, d6, d7, d8, d9, d10, d11, d12, d13, d14, d15, d16, d17, d18, d19, d20, d21, d22, d23, d24] = viNextE d0.i d1.i d2.i d3.i d4.i d5.i d6.i d7.i d8.i d9.i d10.i d11.i d12.i d13.i d14.i d15.i d16.i d17.i d18.i d19.i d20.i (d21.l.map deciii) (d22.l.map decii) (d23.l.map DV.b) (d24.l.map decib) := rfl
  rw [hF]
  clear hF hp hl
  have hN : nrmL (clsOf [.agg [.pl (.int .i64), .pl (.int .i64), .pl (.int .i64), .pl (.int .i64), .pl (.int .i64), .pl (.int .i64), .pl (.int .i64), .pl (.int .i64), .pl (.int .i64), .pl (.int .i64), .pl (.int .i64), .pl (.int .i64), .pl (.int .i64)], .one (.pl (.int .i64)), .agg [.pl (.int .i64), .pl (.int .i64), .pl (.int .i64), .pl (.int .i64), .pl (.int .i64), .pl (.int .i64), .pl (.int .i64), .rows false [.int .i64, .int .i64, .int .i64], .rows false [.int .i64, .int .i64], .rows false [.bool]], .one (.rows false [.int .i64, .bool])]) [d0, d1, d2, d3, d4, d5, d6, d7, d8, d9, d10, d11, d12, d13, d14, d15, d16, d17, d18, d19, d20, d21, d22, d23, d24] = [.int d0.i, .int d1.i, .int d2.i, .int d3.i, .int d4.i, .int d5.i, .int d6.i, .int d7.i, .int d8.i, .int d9.i, .int d10.i, .int d11.i, .int d12.i, .int d13.i, .int d14.i, .int d15.i, .int d16.i, .int d17.i, .int d18.i, .int d19.i, .int d20.i, .list ((d21.l.map deciii).map enciii), .list ((d22.l.map decii).map encii), .list ((d23.l.map DV.b).map DV.bool), .list ((d24.l.map decib).map encib)] := by
    simp only [clsOf, Sh.cls, List.append_nil, List.cons_append, List.nil_append, nrmL, Cl.nrm, CK.nrm, map_Lb, map_Lib, map_Lii, map_Liii]
  rw [hN]
  clear hN
  generalize d0.i = x0
  generalize d1.i = x1
  generalize d2.i = x2
  generalize d3.i = x3
  generalize d4.i = x4
  generalize d5.i = x5
  generalize d6.i = x6
  generalize d7.i = x7
  generalize d8.i = x8
  generalize d9.i = x9
  generalize d10.i = x10
  generalize d11.i = x11
  generalize d12.i = x12
  generalize d13.i = x13
  generalize d14.i = x14
  generalize d15.i = x15
  generalize d16.i = x16
  generalize d17.i = x17
  generalize d18.i = x18
  generalize d19.i = x19
  generalize d20.i = x20
  generalize d21.l.map deciii = x21
  generalize d22.l.map decii = x22
  generalize d23.l.map DV.b = x23
  rw [← List.length_map (f := decib)] at b24
  generalize d24.l.map decib = x24 at b24 ⊢
  refine ⟨facts_nil _, ?_⟩
  unfold viNextTree viNextE
  simp only [Sat, clsOf, Sh.cls, List.append_nil, List.cons_append, List.nil_append, nrmL, Cl.nrm, CK.nrm, List.map_cons, List.map_nil, List.length_cons, List.length_nil, List.cons.injEq, DV.bool.injEq, DV.int.injEq, DV.list.injEq, DV.str.injEq, and_true, true_and]
  simp only [q_le, q_eq, q_eqs, q_eqb, q_and, q_or, q_not, q_bool, iff_true, iff_false, Bool.not_true, Bool.not_false, Bool.false_eq_true, Bool.true_eq_false, eq_self, Bool.not_not]
  simp only [Bool.not_true, Bool.not_false, Bool.true_eq_false, SE.den, evU, evT, ev_le, ev_eq, ev_eqs, ev_eqb, ev_slt, ev_and, ev_or, ev_add, ev_sub, ev_mul, ev_tdiv, ev_tmod, ev_band, ev_bor, ev_bxor, ev_bandn, ev_shl, ev_shr, ev_cat, ev_byte, ev_idx, ev_cons, ev_snoc, ev_app, ev_take, ev_drop, ev_stake, ev_sdrop, ev_rep, leB_q, eqB_q, eqsB_q, not_q, i_if, b_if, l_if, s_if, i_int, b_bool, s_str, l_list, envL, List.getElem?_cons_succ, List.getElem?_cons_zero, List.getElem?_nil, Option.getD_some, Option.getD_none, Int.toNat_natCast, Int.toNat_zero, Int.reduceToNat, List.length_map, get_Li, get_Lb, get_Ls, set_Li, inj_Li, inj_Lb, inj_Ls, rows_i, rows_b, rows_s, Int.zero_add, iff_true, iff_false, and_true, true_and, Bool.false_eq_true, eq_self, not_true_eq_false, not_false_eq_true, List.length_replicate, DV.int.injEq, DV.bool.injEq, DV.str.injEq, DV.list.injEq, List.cons.injEq, f_ib_0, rows_ib, inj_Lib, f_ib_1, rows_ib, inj_Lib, f_ii_0, rows_ii, inj_Lii, f_ii_1, rows_ii, inj_Lii, f_iii_0, rows_iii, inj_Liii, f_iii_1, rows_iii, inj_Liii, f_iii_2, rows_iii, inj_Liii, viNextPhi, layStF, layStE, layRdF, layRdE, layWtF, layWtE, wInF, wInE, wWithF, wWithE, wOutF, wOutE, gi, gb, gs, gLi, gLu, gLb, gLs, dece_i, dece_b, dece_s, nrm_nx]
  have hat : (1 ≤ x14 ∧ x14 ≤ 4 ∧ 0 ≤ (if x14 ≤ 2 then placeM x11 x1 x15 4 2 else placeM x11 x1 x15 4 3) ∧ 0 ≤ placeM x9 x0 x13 4 0) → ∀ i, _ := fun h => viTop_at (wth := (fun t m => IntKind.i64.wrap (withM m t))) (off := (fun t m => IntKind.i64.wrap (offM m t))) (log := x24) (me := x13) h
  have herr : ¬ (1 ≤ x14 ∧ x14 ≤ 4 ∧ 0 ≤ (if x14 ≤ 2 then placeM x11 x1 x15 4 2 else placeM x11 x1 x15 4 3) ∧ 0 ≤ placeM x9 x0 x13 4 0) → viTopM (fun m => IntKind.i64.wrap (withM m x13)) (fun m => IntKind.i64.wrap (offM m x13)) (placeM x11 x1 x15 4 2) (placeM x11 x1 x15 4 3) (placeM x9 x0 x13 4 0) x13 x14 x24 = doneN 0 0 false 1 := fun h => if_neg h
  generalize hNN : viTopM (fun m => IntKind.i64.wrap (withM m x13)) (fun m => IntKind.i64.wrap (offM m x13)) (placeM x11 x1 x15 4 2) (placeM x11 x1 x15 4 3) (placeM x9 x0 x13 4 0) x13 x14 x24 = N at herr ⊢
  clear x21 x22 x23
  repeat' (first | apply And.intro | intro)
  all_goals first
    | (have h14 : ¬ (1 ≤ x14 ∧ x14 ≤ 4) := by omega
       rw [herr (fun h => h14 ⟨h.1, h.2.1⟩)]; rfl)
    | (have hno : ¬ (1 ≤ x14 ∧ x14 ≤ 4 ∧ 0 ≤ (if x14 ≤ 2 then placeM x11 x1 x15 4 2 else placeM x11 x1 x15 4 3) ∧ 0 ≤ placeM x9 x0 x13 4 0) := by simp [*]
       rw [herr hno]; rfl)
    | skip
  all_goals
    have hpre : 1 ≤ x14 ∧ x14 ≤ 4 ∧ 0 ≤ (if x14 ≤ 2 then placeM x11 x1 x15 4 2 else placeM x11 x1 x15 4 3) ∧ 0 ≤ placeM x9 x0 x13 4 0 := by simp [*]
    have hat := hat hpre
    refine rounds_inv (fun y => ∃ i : Nat, y = [.int i] ∧ i ≤ x24.length ∧ viTopM (fun m => IntKind.i64.wrap (withM m x13)) (fun m => IntKind.i64.wrap (offM m x13)) (placeM x11 x1 x15 4 2) (placeM x11 x1 x15 4 3) (placeM x9 x0 x13 4 0) x13 x14 (x24.drop i) = N) (fun y => x24.length - ((y[0]?).getD (DV.int 0)).i.toNat) ⟨0, rfl, Nat.zero_le _, by rw [List.drop_zero]; exact hNN⟩ ?_
    rintro y ⟨i, rfl, hi, hall⟩
    rw [hat i] at hall
    have e1 : IntKind.i64.wrap ((i : Int) + 1) = i + 1 := w64 (by omega) (by omega)
    have e2 : IntKind.i64.wrap ((i : Int) + 1 + 1) = i + 2 := by rw [show (i : Int) + 1 + 1 = i + 2 by omega]; exact w64 (by omega) (by omega)
    have e3 : IntKind.i64.wrap ((i : Int) + 1 - 1) = i := by rw [show (i : Int) + 1 - 1 = i by omega]; exact w64 (by omega) (by omega)
    have e4 : IntKind.i64.wrap ((i : Int) + 2 - 1) = i + 1 := by rw [show (i : Int) + 2 - 1 = i + 1 by omega]; exact w64 (by omega) (by omega)
    have e5 : ((i : Int) + 1).toNat = i + 1 := by omega
    simp only [Bool.not_true, Bool.not_false, Bool.true_eq_false, SE.den, evU, evT, ev_le, ev_eq, ev_eqs, ev_eqb, ev_slt, ev_and, ev_or, ev_add, ev_sub, ev_mul, ev_tdiv, ev_tmod, ev_band, ev_bor, ev_bxor, ev_bandn, ev_shl, ev_shr, ev_cat, ev_byte, ev_idx, ev_cons, ev_snoc, ev_app, ev_take, ev_drop, ev_stake, ev_sdrop, ev_rep, leB_q, eqB_q, eqsB_q, not_q, i_if, b_if, l_if, s_if, i_int, b_bool, s_str, l_list, envL, List.getElem?_cons_succ, List.getElem?_cons_zero, List.getElem?_nil, Option.getD_some, Option.getD_none, Int.toNat_natCast, Int.toNat_zero, Int.reduceToNat, List.length_map, get_Li, get_Lb, get_Ls, set_Li, inj_Li, inj_Lb, inj_Ls, rows_i, rows_b, rows_s, Int.zero_add, iff_true, iff_false, and_true, true_and, Bool.false_eq_true, eq_self, not_true_eq_false, not_false_eq_true, List.length_replicate, DV.int.injEq, DV.bool.injEq, DV.str.injEq, DV.list.injEq, List.cons.injEq, f_ib_0, rows_ib, inj_Lib, f_ib_1, rows_ib, inj_Lib, f_ii_0, rows_ii, inj_Lii, f_ii_1, rows_ii, inj_Lii, f_iii_0, rows_iii, inj_Liii, f_iii_1, rows_iii, inj_Liii, f_iii_2, rows_iii, inj_Liii, e1, e2, e3, e4, e5]
    by_cases h1 : x24.length ≤ i
    · left
      rw [if_pos h1] at hall
      have h1' : (x24.length : Int) ≤ i := by omega
      rw [← hall]
      simp [h1', *, askN, Nx.ds]
    · rw [if_neg h1] at hall
      have h1' : ¬ (x24.length : Int) ≤ i := by omega
      rcases (by omega : x14 % 2 = 1 ∨ ¬ x14 % 2 = 1) with hk | hk
      all_goals try (exfalso; omega; done)
      all_goals
        simp only [hk, decide_true, decide_false, if_true, if_false] at hall
        cases hh : hasM (x24[i]?.getD dib).1 x13
        all_goals
          simp only [hh, if_true, if_false, Bool.false_eq_true, Bool.true_eq_false] at hall
          first
          | (left; rw [← hall]; simp [h1', hh, doneN, Nx.ds]; done)
          | (left; rw [← hall]; simp [h1', hh, doneN, Nx.ds]; omega)
          | by_cases h3 : x24.length ≤ i + 1
            · have h3' : (x24.length : Int) ≤ i + 1 := by omega
              left
              rw [if_pos h3] at hall
              rw [← hall]
              simp [h1', h3', hh, *, askN, Nx.ds]
              try omega
            · have h3' : ¬ (x24.length : Int) ≤ i + 1 := by omega
              rw [if_neg h3] at hall
              by_cases h4 : (x24[i + 1]?.getD dib).2 = true
              · left
                rw [if_pos h4] at hall
                rw [← hall]
                simp [h1', h3', h4, hh, doneN, Nx.ds]
                try omega
              · right
                rw [if_neg h4] at hall
                refine ⟨[.int ((i + 2 : Nat) : Int)], ?_, rfl, ⟨i + 2, rfl, by omega, hall⟩, ?_⟩
                · simp [h1', h3', h4, hh]
                  try omega
                · simp only [Bool.not_true, Bool.not_false, Bool.true_eq_false, SE.den, evU, evT, ev_le, ev_eq, ev_eqs, ev_eqb, ev_slt, ev_and, ev_or, ev_add, ev_sub, ev_mul, ev_tdiv, ev_tmod, ev_band, ev_bor, ev_bxor, ev_bandn, ev_shl, ev_shr, ev_cat, ev_byte, ev_idx, ev_cons, ev_snoc, ev_app, ev_take, ev_drop, ev_stake, ev_sdrop, ev_rep, leB_q, eqB_q, eqsB_q, not_q, i_if, b_if, l_if, s_if, i_int, b_bool, s_str, l_list, envL, List.getElem?_cons_succ, List.getElem?_cons_zero, List.getElem?_nil, Option.getD_some, Option.getD_none, Int.toNat_natCast, Int.toNat_zero, Int.reduceToNat, List.length_map, get_Li, get_Lb, get_Ls, set_Li, inj_Li, inj_Lb, inj_Ls, rows_i, rows_b, rows_s, Int.zero_add, iff_true, iff_false, and_true, true_and, Bool.false_eq_true, eq_self, not_true_eq_false, not_false_eq_true, List.length_replicate, DV.int.injEq, DV.bool.injEq, DV.str.injEq, DV.list.injEq, List.cons.injEq, f_ib_0, rows_ib, inj_Lib, f_ib_1, rows_ib, inj_Lib, f_ii_0, rows_ii, inj_Lii, f_ii_1, rows_ii, inj_Lii, f_iii_0, rows_iii, inj_Liii, f_iii_1, rows_iii, inj_Liii, f_iii_2, rows_iii, inj_Liii]; omega
end Go.Proofs.Ytgimbkpfhdodgaa
