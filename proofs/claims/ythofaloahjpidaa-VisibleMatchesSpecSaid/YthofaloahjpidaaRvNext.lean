/- The function hallmootref18.Next is a function of data. No condition. -/
import Derived.Test.YthofaloahjpidaaRSt
import Derived.Test.YthofaloahjpidaaRRd
import Derived.Test.YthofaloahjpidaaRWt
import Derived.Test.YthofaloahjpidaaRIn
import Derived.Test.YthofaloahjpidaaRWith
import Derived.Test.YthofaloahjpidaaROut
import Derived.Test.YthofaloahjpidaaViM
import Derived.Test.YthofaloahjpidaaBd
import Derived.Test.YthofaloahjpidaaOpen
namespace Go.Proofs.Ythofaloahjpidaa
set_option linter.unusedVariables false
set_option linter.unusedSimpArgs false
set_option maxRecDepth 100000

theorem has_zero (t : Int) : hasM 0 t = false := by unfold hasM bitM; simp
theorem raw_ib_0 (l : List Tib) (j : Nat) : (((((l.map encib)[j]?).getD (DV.int 0)).l[0]?).getD (DV.int 0)) = .int ((l[j]?).getD dib).1 := by rw [List.getElem?_map]; cases l[j]? <;> rfl
def rvNextE (t l k s m a0 a1 a2 a3 a4 a5 a6 a7 me kind a b try' st ka ab : Int) (seen : List Tiii) (wr : List Tii) (du : List Bool) (log : List Tib) : List DV :=
  (viTopM (fun m => rwithM m me) (fun m => roffM m me) (placeM a6 l a 4 2) (placeM a6 l a 4 3) (placeM a4 t me 4 0) me kind log).ds

def rvNextF (ds : List DV) : List DV := rvNextE (gi ds 0) (gi ds 1) (gi ds 2) (gi ds 3) (gi ds 4) (gi ds 5) (gi ds 6) (gi ds 7) (gi ds 8) (gi ds 9) (gi ds 10) (gi ds 11) (gi ds 12) (gi ds 13) (gi ds 14) (gi ds 15) (gi ds 16) (gi ds 17) (gi ds 18) (gi ds 19) (gi ds 20) (gLiii ds 21) (gLii ds 22) (gLb ds 23) (gLib ds 24)
/-- What the executor makes of it. -/
def rvNextTree : PT :=
(.br (.un .not (.bin .le (.var 14) (.int 2)))
 (.br (.un .not (.bin .le (.var 14) (.int 4)))
  (.leaf [(.int 0), (.int 0), (.int 0), (.int 0), (.str []), (.int 0), (.int 0), (.int 0), (.int 0), (.bool false), (.bool false), (.int 1), (.bool true)])
  (.br (.un .not (.bin .le (.int 0) (.bin .idx (.fn 52 (.bin .cons (.var 0) (.bin .cons (.var 1) (.bin .cons (.var 2) (.bin .cons (.var 3) (.bin .cons (.var 4) (.bin .cons (.var 5) (.bin .cons (.var 6) (.bin .cons (.var 7) (.bin .cons (.var 8) (.bin .cons (.var 9) (.bin .cons (.var 10) (.bin .cons (.var 11) (.bin .cons (.var 12) (.bin .cons (.var 15) .nil))))))))))))))) (.int 0))))
   (.leaf [(.int 0), (.int 0), (.int 0), (.int 0), (.str []), (.int 0), (.int 0), (.int 0), (.int 0), (.bool false), (.bool false), (.int 1), (.bool true)])
   (.br (.un .not (.bin .le (.int 0) (.bin .idx (.fn 47 (.bin .cons (.var 0) (.bin .cons (.var 1) (.bin .cons (.var 2) (.bin .cons (.var 3) (.bin .cons (.var 4) (.bin .cons (.var 5) (.bin .cons (.var 6) (.bin .cons (.var 7) (.bin .cons (.var 8) (.bin .cons (.var 9) (.bin .cons (.var 10) (.bin .cons (.var 11) (.bin .cons (.var 12) (.bin .cons (.var 13) .nil))))))))))))))) (.int 0))))
    (.leaf [(.int 0), (.int 0), (.int 0), (.int 0), (.str []), (.int 0), (.int 0), (.int 0), (.int 0), (.bool false), (.bool false), (.int 1), (.bool true)])
    (.br (.bin .eq (.bin .tmod (.var 14) (.int 2)) (.int 1))
     (.loop 25 [(.int 0), (.int 0), (.int 0), (.int 0), (.int 0), (.bool false)]
      (.br (.un .not (.var 30))
       (.br (.bin .le (.un .len (.var 24)) (.var 25))
        (.br (.bin .idx (.fn 57 (.bin .cons (.int 0) (.bin .cons (.var 13) .nil))) (.int 0))
         .fail
         (.leaf [(.var 25), (.int 1), (.bin .idx (.fn 52 (.bin .cons (.var 0) (.bin .cons (.var 1) (.bin .cons (.var 2) (.bin .cons (.var 3) (.bin .cons (.var 4) (.bin .cons (.var 5) (.bin .cons (.var 6) (.bin .cons (.var 7) (.bin .cons (.var 8) (.bin .cons (.var 9) (.bin .cons (.var 10) (.bin .cons (.var 11) (.bin .cons (.var 12) (.bin .cons (.var 15) .nil))))))))))))))) (.int 0)), (.int 0), (.int 0), (.bool true)]))
        (.asrt (.bin .le (.int 0) (.un (.wrap .i64) (.bin .sub (.un (.wrap .i64) (.bin .add (.var 25) (.int 1))) (.int 1))))
         (.asrt (.un .not (.bin .le (.un .len (.var 24)) (.un (.wrap .i64) (.bin .sub (.un (.wrap .i64) (.bin .add (.var 25) (.int 1))) (.int 1)))))
          (.br (.bin .idx (.fn 57 (.bin .cons (.bin .idx (.bin .idx (.var 24) (.bin .add (.int 0) (.un (.wrap .i64) (.bin .sub (.un (.wrap .i64) (.bin .add (.var 25) (.int 1))) (.int 1))))) (.int 0)) (.bin .cons (.var 13) .nil))) (.int 0))
           .fail
           (.br (.bin .le (.un .len (.var 24)) (.un (.wrap .i64) (.bin .add (.var 25) (.int 1))))
            (.leaf [(.un (.wrap .i64) (.bin .add (.var 25) (.int 1))), (.int 3), (.bin .idx (.fn 52 (.bin .cons (.var 0) (.bin .cons (.var 1) (.bin .cons (.var 2) (.bin .cons (.var 3) (.bin .cons (.var 4) (.bin .cons (.var 5) (.bin .cons (.var 6) (.bin .cons (.var 7) (.bin .cons (.var 8) (.bin .cons (.var 9) (.bin .cons (.var 10) (.bin .cons (.var 11) (.bin .cons (.var 12) (.bin .cons (.var 15) .nil))))))))))))))) (.int 0)), (.bin .idx (.bin .idx (.var 24) (.bin .add (.int 0) (.un (.wrap .i64) (.bin .sub (.un (.wrap .i64) (.bin .add (.var 25) (.int 1))) (.int 1))))) (.int 0)), (.bin .idx (.fn 58 (.bin .cons (.bin .idx (.bin .idx (.var 24) (.bin .add (.int 0) (.un (.wrap .i64) (.bin .sub (.un (.wrap .i64) (.bin .add (.var 25) (.int 1))) (.int 1))))) (.int 0)) (.bin .cons (.var 13) .nil))) (.int 0)), (.bool true)])
            (.asrt (.bin .le (.int 0) (.un (.wrap .i64) (.bin .sub (.un (.wrap .i64) (.bin .add (.un (.wrap .i64) (.bin .add (.var 25) (.int 1))) (.int 1))) (.int 1))))
             (.asrt (.un .not (.bin .le (.un .len (.var 24)) (.un (.wrap .i64) (.bin .sub (.un (.wrap .i64) (.bin .add (.un (.wrap .i64) (.bin .add (.var 25) (.int 1))) (.int 1))) (.int 1)))))
              (.br (.bin .idx (.bin .idx (.var 24) (.bin .add (.int 0) (.un (.wrap .i64) (.bin .sub (.un (.wrap .i64) (.bin .add (.un (.wrap .i64) (.bin .add (.var 25) (.int 1))) (.int 1))) (.int 1))))) (.int 1))
               .fail
               (.leaf [(.un (.wrap .i64) (.bin .add (.un (.wrap .i64) (.bin .add (.var 25) (.int 1))) (.int 1))), (.var 26), (.var 27), (.var 28), (.var 29), (.var 30)])))))))))
       .fail)
      (.br (.un .not (.var 30))
       (.br (.bin .le (.un .len (.var 24)) (.var 25))
        (.br (.bin .idx (.fn 57 (.bin .cons (.int 0) (.bin .cons (.var 13) .nil))) (.int 0))
         (.leaf [(.int 1), (.bin .idx (.fn 52 (.bin .cons (.var 0) (.bin .cons (.var 1) (.bin .cons (.var 2) (.bin .cons (.var 3) (.bin .cons (.var 4) (.bin .cons (.var 5) (.bin .cons (.var 6) (.bin .cons (.var 7) (.bin .cons (.var 8) (.bin .cons (.var 9) (.bin .cons (.var 10) (.bin .cons (.var 11) (.bin .cons (.var 12) (.bin .cons (.var 15) .nil))))))))))))))) (.int 0)), (.int 0), (.int 0), (.str []), (.int 0), (.int 0), (.int 0), (.int 0), (.bool false), (.bool false), (.int 0), (.bool false)])
         .fail)
        (.asrt (.bin .le (.int 0) (.un (.wrap .i64) (.bin .sub (.un (.wrap .i64) (.bin .add (.var 25) (.int 1))) (.int 1))))
         (.asrt (.un .not (.bin .le (.un .len (.var 24)) (.un (.wrap .i64) (.bin .sub (.un (.wrap .i64) (.bin .add (.var 25) (.int 1))) (.int 1)))))
          (.br (.bin .idx (.fn 57 (.bin .cons (.bin .idx (.bin .idx (.var 24) (.bin .add (.int 0) (.un (.wrap .i64) (.bin .sub (.un (.wrap .i64) (.bin .add (.var 25) (.int 1))) (.int 1))))) (.int 0)) (.bin .cons (.var 13) .nil))) (.int 0))
           (.leaf [(.int 0), (.int 0), (.int 0), (.int 0), (.str []), (.int 0), (.int 0), (.int 0), (.int 0), (.bool false), (.bool false), (.int 0), (.bool true)])
           (.br (.bin .le (.un .len (.var 24)) (.un (.wrap .i64) (.bin .add (.var 25) (.int 1))))
            .fail
            (.asrt (.bin .le (.int 0) (.un (.wrap .i64) (.bin .sub (.un (.wrap .i64) (.bin .add (.un (.wrap .i64) (.bin .add (.var 25) (.int 1))) (.int 1))) (.int 1))))
             (.asrt (.un .not (.bin .le (.un .len (.var 24)) (.un (.wrap .i64) (.bin .sub (.un (.wrap .i64) (.bin .add (.un (.wrap .i64) (.bin .add (.var 25) (.int 1))) (.int 1))) (.int 1)))))
              (.br (.bin .idx (.bin .idx (.var 24) (.bin .add (.int 0) (.un (.wrap .i64) (.bin .sub (.un (.wrap .i64) (.bin .add (.un (.wrap .i64) (.bin .add (.var 25) (.int 1))) (.int 1))) (.int 1))))) (.int 1))
               (.leaf [(.int 0), (.int 0), (.int 0), (.int 0), (.str []), (.int 0), (.int 0), (.int 0), (.int 0), (.bool true), (.bool false), (.int 0), (.bool true)])
               .fail))))))))
       (.leaf [(.var 26), (.var 27), (.var 28), (.var 29), (.str []), (.int 0), (.int 0), (.int 0), (.int 0), (.bool false), (.bool false), (.int 0), (.bool false)])))
     (.loop 25 [(.int 0), (.int 0), (.int 0), (.int 0), (.int 0), (.bool false)]
      (.br (.un .not (.var 30))
       (.br (.bin .le (.un .len (.var 24)) (.var 25))
        (.br (.un .not (.bin .idx (.fn 57 (.bin .cons (.int 0) (.bin .cons (.var 13) .nil))) (.int 0)))
         .fail
         (.leaf [(.var 25), (.int 1), (.bin .idx (.fn 52 (.bin .cons (.var 0) (.bin .cons (.var 1) (.bin .cons (.var 2) (.bin .cons (.var 3) (.bin .cons (.var 4) (.bin .cons (.var 5) (.bin .cons (.var 6) (.bin .cons (.var 7) (.bin .cons (.var 8) (.bin .cons (.var 9) (.bin .cons (.var 10) (.bin .cons (.var 11) (.bin .cons (.var 12) (.bin .cons (.var 15) .nil))))))))))))))) (.int 0)), (.int 0), (.int 0), (.bool true)]))
        (.asrt (.bin .le (.int 0) (.un (.wrap .i64) (.bin .sub (.un (.wrap .i64) (.bin .add (.var 25) (.int 1))) (.int 1))))
         (.asrt (.un .not (.bin .le (.un .len (.var 24)) (.un (.wrap .i64) (.bin .sub (.un (.wrap .i64) (.bin .add (.var 25) (.int 1))) (.int 1)))))
          (.br (.un .not (.bin .idx (.fn 57 (.bin .cons (.bin .idx (.bin .idx (.var 24) (.bin .add (.int 0) (.un (.wrap .i64) (.bin .sub (.un (.wrap .i64) (.bin .add (.var 25) (.int 1))) (.int 1))))) (.int 0)) (.bin .cons (.var 13) .nil))) (.int 0)))
           .fail
           (.br (.bin .le (.un .len (.var 24)) (.un (.wrap .i64) (.bin .add (.var 25) (.int 1))))
            (.leaf [(.un (.wrap .i64) (.bin .add (.var 25) (.int 1))), (.int 3), (.bin .idx (.fn 52 (.bin .cons (.var 0) (.bin .cons (.var 1) (.bin .cons (.var 2) (.bin .cons (.var 3) (.bin .cons (.var 4) (.bin .cons (.var 5) (.bin .cons (.var 6) (.bin .cons (.var 7) (.bin .cons (.var 8) (.bin .cons (.var 9) (.bin .cons (.var 10) (.bin .cons (.var 11) (.bin .cons (.var 12) (.bin .cons (.var 15) .nil))))))))))))))) (.int 0)), (.bin .idx (.bin .idx (.var 24) (.bin .add (.int 0) (.un (.wrap .i64) (.bin .sub (.un (.wrap .i64) (.bin .add (.var 25) (.int 1))) (.int 1))))) (.int 0)), (.bin .idx (.fn 59 (.bin .cons (.bin .idx (.bin .idx (.var 24) (.bin .add (.int 0) (.un (.wrap .i64) (.bin .sub (.un (.wrap .i64) (.bin .add (.var 25) (.int 1))) (.int 1))))) (.int 0)) (.bin .cons (.var 13) .nil))) (.int 0)), (.bool true)])
            (.asrt (.bin .le (.int 0) (.un (.wrap .i64) (.bin .sub (.un (.wrap .i64) (.bin .add (.un (.wrap .i64) (.bin .add (.var 25) (.int 1))) (.int 1))) (.int 1))))
             (.asrt (.un .not (.bin .le (.un .len (.var 24)) (.un (.wrap .i64) (.bin .sub (.un (.wrap .i64) (.bin .add (.un (.wrap .i64) (.bin .add (.var 25) (.int 1))) (.int 1))) (.int 1)))))
              (.br (.bin .idx (.bin .idx (.var 24) (.bin .add (.int 0) (.un (.wrap .i64) (.bin .sub (.un (.wrap .i64) (.bin .add (.un (.wrap .i64) (.bin .add (.var 25) (.int 1))) (.int 1))) (.int 1))))) (.int 1))
               .fail
               (.leaf [(.un (.wrap .i64) (.bin .add (.un (.wrap .i64) (.bin .add (.var 25) (.int 1))) (.int 1))), (.var 26), (.var 27), (.var 28), (.var 29), (.var 30)])))))))))
       .fail)
      (.br (.un .not (.var 30))
       (.br (.bin .le (.un .len (.var 24)) (.var 25))
        (.br (.un .not (.bin .idx (.fn 57 (.bin .cons (.int 0) (.bin .cons (.var 13) .nil))) (.int 0)))
         (.leaf [(.int 1), (.bin .idx (.fn 52 (.bin .cons (.var 0) (.bin .cons (.var 1) (.bin .cons (.var 2) (.bin .cons (.var 3) (.bin .cons (.var 4) (.bin .cons (.var 5) (.bin .cons (.var 6) (.bin .cons (.var 7) (.bin .cons (.var 8) (.bin .cons (.var 9) (.bin .cons (.var 10) (.bin .cons (.var 11) (.bin .cons (.var 12) (.bin .cons (.var 15) .nil))))))))))))))) (.int 0)), (.int 0), (.int 0), (.str []), (.int 0), (.int 0), (.int 0), (.int 0), (.bool false), (.bool false), (.int 0), (.bool false)])
         .fail)
        (.asrt (.bin .le (.int 0) (.un (.wrap .i64) (.bin .sub (.un (.wrap .i64) (.bin .add (.var 25) (.int 1))) (.int 1))))
         (.asrt (.un .not (.bin .le (.un .len (.var 24)) (.un (.wrap .i64) (.bin .sub (.un (.wrap .i64) (.bin .add (.var 25) (.int 1))) (.int 1)))))
          (.br (.un .not (.bin .idx (.fn 57 (.bin .cons (.bin .idx (.bin .idx (.var 24) (.bin .add (.int 0) (.un (.wrap .i64) (.bin .sub (.un (.wrap .i64) (.bin .add (.var 25) (.int 1))) (.int 1))))) (.int 0)) (.bin .cons (.var 13) .nil))) (.int 0)))
           (.leaf [(.int 0), (.int 0), (.int 0), (.int 0), (.str []), (.int 0), (.int 0), (.int 0), (.int 0), (.bool false), (.bool false), (.int 0), (.bool true)])
           (.br (.bin .le (.un .len (.var 24)) (.un (.wrap .i64) (.bin .add (.var 25) (.int 1))))
            .fail
            (.asrt (.bin .le (.int 0) (.un (.wrap .i64) (.bin .sub (.un (.wrap .i64) (.bin .add (.un (.wrap .i64) (.bin .add (.var 25) (.int 1))) (.int 1))) (.int 1))))
             (.asrt (.un .not (.bin .le (.un .len (.var 24)) (.un (.wrap .i64) (.bin .sub (.un (.wrap .i64) (.bin .add (.un (.wrap .i64) (.bin .add (.var 25) (.int 1))) (.int 1))) (.int 1)))))
              (.br (.bin .idx (.bin .idx (.var 24) (.bin .add (.int 0) (.un (.wrap .i64) (.bin .sub (.un (.wrap .i64) (.bin .add (.un (.wrap .i64) (.bin .add (.var 25) (.int 1))) (.int 1))) (.int 1))))) (.int 1))
               (.leaf [(.int 0), (.int 0), (.int 0), (.int 0), (.str []), (.int 0), (.int 0), (.int 0), (.int 0), (.bool true), (.bool false), (.int 0), (.bool true)])
               .fail))))))))
       (.leaf [(.var 26), (.var 27), (.var 28), (.var 29), (.str []), (.int 0), (.int 0), (.int 0), (.int 0), (.bool false), (.bool false), (.int 0), (.bool false)])))))))
 (.br (.un .not (.bin .le (.int 1) (.var 14)))
  (.leaf [(.int 0), (.int 0), (.int 0), (.int 0), (.str []), (.int 0), (.int 0), (.int 0), (.int 0), (.bool false), (.bool false), (.int 1), (.bool true)])
  (.br (.un .not (.bin .le (.int 0) (.bin .idx (.fn 50 (.bin .cons (.var 0) (.bin .cons (.var 1) (.bin .cons (.var 2) (.bin .cons (.var 3) (.bin .cons (.var 4) (.bin .cons (.var 5) (.bin .cons (.var 6) (.bin .cons (.var 7) (.bin .cons (.var 8) (.bin .cons (.var 9) (.bin .cons (.var 10) (.bin .cons (.var 11) (.bin .cons (.var 12) (.bin .cons (.var 15) .nil))))))))))))))) (.int 0))))
   (.leaf [(.int 0), (.int 0), (.int 0), (.int 0), (.str []), (.int 0), (.int 0), (.int 0), (.int 0), (.bool false), (.bool false), (.int 1), (.bool true)])
   (.br (.un .not (.bin .le (.int 0) (.bin .idx (.fn 47 (.bin .cons (.var 0) (.bin .cons (.var 1) (.bin .cons (.var 2) (.bin .cons (.var 3) (.bin .cons (.var 4) (.bin .cons (.var 5) (.bin .cons (.var 6) (.bin .cons (.var 7) (.bin .cons (.var 8) (.bin .cons (.var 9) (.bin .cons (.var 10) (.bin .cons (.var 11) (.bin .cons (.var 12) (.bin .cons (.var 13) .nil))))))))))))))) (.int 0))))
    (.leaf [(.int 0), (.int 0), (.int 0), (.int 0), (.str []), (.int 0), (.int 0), (.int 0), (.int 0), (.bool false), (.bool false), (.int 1), (.bool true)])
    (.br (.bin .eq (.bin .tmod (.var 14) (.int 2)) (.int 1))
     (.loop 25 [(.int 0), (.int 0), (.int 0), (.int 0), (.int 0), (.bool false)]
      (.br (.un .not (.var 30))
       (.br (.bin .le (.un .len (.var 24)) (.var 25))
        (.br (.bin .idx (.fn 57 (.bin .cons (.int 0) (.bin .cons (.var 13) .nil))) (.int 0))
         .fail
         (.leaf [(.var 25), (.int 1), (.bin .idx (.fn 50 (.bin .cons (.var 0) (.bin .cons (.var 1) (.bin .cons (.var 2) (.bin .cons (.var 3) (.bin .cons (.var 4) (.bin .cons (.var 5) (.bin .cons (.var 6) (.bin .cons (.var 7) (.bin .cons (.var 8) (.bin .cons (.var 9) (.bin .cons (.var 10) (.bin .cons (.var 11) (.bin .cons (.var 12) (.bin .cons (.var 15) .nil))))))))))))))) (.int 0)), (.int 0), (.int 0), (.bool true)]))
        (.asrt (.bin .le (.int 0) (.un (.wrap .i64) (.bin .sub (.un (.wrap .i64) (.bin .add (.var 25) (.int 1))) (.int 1))))
         (.asrt (.un .not (.bin .le (.un .len (.var 24)) (.un (.wrap .i64) (.bin .sub (.un (.wrap .i64) (.bin .add (.var 25) (.int 1))) (.int 1)))))
          (.br (.bin .idx (.fn 57 (.bin .cons (.bin .idx (.bin .idx (.var 24) (.bin .add (.int 0) (.un (.wrap .i64) (.bin .sub (.un (.wrap .i64) (.bin .add (.var 25) (.int 1))) (.int 1))))) (.int 0)) (.bin .cons (.var 13) .nil))) (.int 0))
           .fail
           (.br (.bin .le (.un .len (.var 24)) (.un (.wrap .i64) (.bin .add (.var 25) (.int 1))))
            (.leaf [(.un (.wrap .i64) (.bin .add (.var 25) (.int 1))), (.int 3), (.bin .idx (.fn 50 (.bin .cons (.var 0) (.bin .cons (.var 1) (.bin .cons (.var 2) (.bin .cons (.var 3) (.bin .cons (.var 4) (.bin .cons (.var 5) (.bin .cons (.var 6) (.bin .cons (.var 7) (.bin .cons (.var 8) (.bin .cons (.var 9) (.bin .cons (.var 10) (.bin .cons (.var 11) (.bin .cons (.var 12) (.bin .cons (.var 15) .nil))))))))))))))) (.int 0)), (.bin .idx (.bin .idx (.var 24) (.bin .add (.int 0) (.un (.wrap .i64) (.bin .sub (.un (.wrap .i64) (.bin .add (.var 25) (.int 1))) (.int 1))))) (.int 0)), (.bin .idx (.fn 58 (.bin .cons (.bin .idx (.bin .idx (.var 24) (.bin .add (.int 0) (.un (.wrap .i64) (.bin .sub (.un (.wrap .i64) (.bin .add (.var 25) (.int 1))) (.int 1))))) (.int 0)) (.bin .cons (.var 13) .nil))) (.int 0)), (.bool true)])
            (.asrt (.bin .le (.int 0) (.un (.wrap .i64) (.bin .sub (.un (.wrap .i64) (.bin .add (.un (.wrap .i64) (.bin .add (.var 25) (.int 1))) (.int 1))) (.int 1))))
             (.asrt (.un .not (.bin .le (.un .len (.var 24)) (.un (.wrap .i64) (.bin .sub (.un (.wrap .i64) (.bin .add (.un (.wrap .i64) (.bin .add (.var 25) (.int 1))) (.int 1))) (.int 1)))))
              (.br (.bin .idx (.bin .idx (.var 24) (.bin .add (.int 0) (.un (.wrap .i64) (.bin .sub (.un (.wrap .i64) (.bin .add (.un (.wrap .i64) (.bin .add (.var 25) (.int 1))) (.int 1))) (.int 1))))) (.int 1))
               .fail
               (.leaf [(.un (.wrap .i64) (.bin .add (.un (.wrap .i64) (.bin .add (.var 25) (.int 1))) (.int 1))), (.var 26), (.var 27), (.var 28), (.var 29), (.var 30)])))))))))
       .fail)
      (.br (.un .not (.var 30))
       (.br (.bin .le (.un .len (.var 24)) (.var 25))
        (.br (.bin .idx (.fn 57 (.bin .cons (.int 0) (.bin .cons (.var 13) .nil))) (.int 0))
         (.leaf [(.int 1), (.bin .idx (.fn 50 (.bin .cons (.var 0) (.bin .cons (.var 1) (.bin .cons (.var 2) (.bin .cons (.var 3) (.bin .cons (.var 4) (.bin .cons (.var 5) (.bin .cons (.var 6) (.bin .cons (.var 7) (.bin .cons (.var 8) (.bin .cons (.var 9) (.bin .cons (.var 10) (.bin .cons (.var 11) (.bin .cons (.var 12) (.bin .cons (.var 15) .nil))))))))))))))) (.int 0)), (.int 0), (.int 0), (.str []), (.int 0), (.int 0), (.int 0), (.int 0), (.bool false), (.bool false), (.int 0), (.bool false)])
         .fail)
        (.asrt (.bin .le (.int 0) (.un (.wrap .i64) (.bin .sub (.un (.wrap .i64) (.bin .add (.var 25) (.int 1))) (.int 1))))
         (.asrt (.un .not (.bin .le (.un .len (.var 24)) (.un (.wrap .i64) (.bin .sub (.un (.wrap .i64) (.bin .add (.var 25) (.int 1))) (.int 1)))))
          (.br (.bin .idx (.fn 57 (.bin .cons (.bin .idx (.bin .idx (.var 24) (.bin .add (.int 0) (.un (.wrap .i64) (.bin .sub (.un (.wrap .i64) (.bin .add (.var 25) (.int 1))) (.int 1))))) (.int 0)) (.bin .cons (.var 13) .nil))) (.int 0))
           (.leaf [(.int 0), (.int 0), (.int 0), (.int 0), (.str []), (.int 0), (.int 0), (.int 0), (.int 0), (.bool false), (.bool false), (.int 0), (.bool true)])
           (.br (.bin .le (.un .len (.var 24)) (.un (.wrap .i64) (.bin .add (.var 25) (.int 1))))
            .fail
            (.asrt (.bin .le (.int 0) (.un (.wrap .i64) (.bin .sub (.un (.wrap .i64) (.bin .add (.un (.wrap .i64) (.bin .add (.var 25) (.int 1))) (.int 1))) (.int 1))))
             (.asrt (.un .not (.bin .le (.un .len (.var 24)) (.un (.wrap .i64) (.bin .sub (.un (.wrap .i64) (.bin .add (.un (.wrap .i64) (.bin .add (.var 25) (.int 1))) (.int 1))) (.int 1)))))
              (.br (.bin .idx (.bin .idx (.var 24) (.bin .add (.int 0) (.un (.wrap .i64) (.bin .sub (.un (.wrap .i64) (.bin .add (.un (.wrap .i64) (.bin .add (.var 25) (.int 1))) (.int 1))) (.int 1))))) (.int 1))
               (.leaf [(.int 0), (.int 0), (.int 0), (.int 0), (.str []), (.int 0), (.int 0), (.int 0), (.int 0), (.bool true), (.bool false), (.int 0), (.bool true)])
               .fail))))))))
       (.leaf [(.var 26), (.var 27), (.var 28), (.var 29), (.str []), (.int 0), (.int 0), (.int 0), (.int 0), (.bool false), (.bool false), (.int 0), (.bool false)])))
     (.loop 25 [(.int 0), (.int 0), (.int 0), (.int 0), (.int 0), (.bool false)]
      (.br (.un .not (.var 30))
       (.br (.bin .le (.un .len (.var 24)) (.var 25))
        (.br (.un .not (.bin .idx (.fn 57 (.bin .cons (.int 0) (.bin .cons (.var 13) .nil))) (.int 0)))
         .fail
         (.leaf [(.var 25), (.int 1), (.bin .idx (.fn 50 (.bin .cons (.var 0) (.bin .cons (.var 1) (.bin .cons (.var 2) (.bin .cons (.var 3) (.bin .cons (.var 4) (.bin .cons (.var 5) (.bin .cons (.var 6) (.bin .cons (.var 7) (.bin .cons (.var 8) (.bin .cons (.var 9) (.bin .cons (.var 10) (.bin .cons (.var 11) (.bin .cons (.var 12) (.bin .cons (.var 15) .nil))))))))))))))) (.int 0)), (.int 0), (.int 0), (.bool true)]))
        (.asrt (.bin .le (.int 0) (.un (.wrap .i64) (.bin .sub (.un (.wrap .i64) (.bin .add (.var 25) (.int 1))) (.int 1))))
         (.asrt (.un .not (.bin .le (.un .len (.var 24)) (.un (.wrap .i64) (.bin .sub (.un (.wrap .i64) (.bin .add (.var 25) (.int 1))) (.int 1)))))
          (.br (.un .not (.bin .idx (.fn 57 (.bin .cons (.bin .idx (.bin .idx (.var 24) (.bin .add (.int 0) (.un (.wrap .i64) (.bin .sub (.un (.wrap .i64) (.bin .add (.var 25) (.int 1))) (.int 1))))) (.int 0)) (.bin .cons (.var 13) .nil))) (.int 0)))
           .fail
           (.br (.bin .le (.un .len (.var 24)) (.un (.wrap .i64) (.bin .add (.var 25) (.int 1))))
            (.leaf [(.un (.wrap .i64) (.bin .add (.var 25) (.int 1))), (.int 3), (.bin .idx (.fn 50 (.bin .cons (.var 0) (.bin .cons (.var 1) (.bin .cons (.var 2) (.bin .cons (.var 3) (.bin .cons (.var 4) (.bin .cons (.var 5) (.bin .cons (.var 6) (.bin .cons (.var 7) (.bin .cons (.var 8) (.bin .cons (.var 9) (.bin .cons (.var 10) (.bin .cons (.var 11) (.bin .cons (.var 12) (.bin .cons (.var 15) .nil))))))))))))))) (.int 0)), (.bin .idx (.bin .idx (.var 24) (.bin .add (.int 0) (.un (.wrap .i64) (.bin .sub (.un (.wrap .i64) (.bin .add (.var 25) (.int 1))) (.int 1))))) (.int 0)), (.bin .idx (.fn 59 (.bin .cons (.bin .idx (.bin .idx (.var 24) (.bin .add (.int 0) (.un (.wrap .i64) (.bin .sub (.un (.wrap .i64) (.bin .add (.var 25) (.int 1))) (.int 1))))) (.int 0)) (.bin .cons (.var 13) .nil))) (.int 0)), (.bool true)])
            (.asrt (.bin .le (.int 0) (.un (.wrap .i64) (.bin .sub (.un (.wrap .i64) (.bin .add (.un (.wrap .i64) (.bin .add (.var 25) (.int 1))) (.int 1))) (.int 1))))
             (.asrt (.un .not (.bin .le (.un .len (.var 24)) (.un (.wrap .i64) (.bin .sub (.un (.wrap .i64) (.bin .add (.un (.wrap .i64) (.bin .add (.var 25) (.int 1))) (.int 1))) (.int 1)))))
              (.br (.bin .idx (.bin .idx (.var 24) (.bin .add (.int 0) (.un (.wrap .i64) (.bin .sub (.un (.wrap .i64) (.bin .add (.un (.wrap .i64) (.bin .add (.var 25) (.int 1))) (.int 1))) (.int 1))))) (.int 1))
               .fail
               (.leaf [(.un (.wrap .i64) (.bin .add (.un (.wrap .i64) (.bin .add (.var 25) (.int 1))) (.int 1))), (.var 26), (.var 27), (.var 28), (.var 29), (.var 30)])))))))))
       .fail)
      (.br (.un .not (.var 30))
       (.br (.bin .le (.un .len (.var 24)) (.var 25))
        (.br (.un .not (.bin .idx (.fn 57 (.bin .cons (.int 0) (.bin .cons (.var 13) .nil))) (.int 0)))
         (.leaf [(.int 1), (.bin .idx (.fn 50 (.bin .cons (.var 0) (.bin .cons (.var 1) (.bin .cons (.var 2) (.bin .cons (.var 3) (.bin .cons (.var 4) (.bin .cons (.var 5) (.bin .cons (.var 6) (.bin .cons (.var 7) (.bin .cons (.var 8) (.bin .cons (.var 9) (.bin .cons (.var 10) (.bin .cons (.var 11) (.bin .cons (.var 12) (.bin .cons (.var 15) .nil))))))))))))))) (.int 0)), (.int 0), (.int 0), (.str []), (.int 0), (.int 0), (.int 0), (.int 0), (.bool false), (.bool false), (.int 0), (.bool false)])
         .fail)
        (.asrt (.bin .le (.int 0) (.un (.wrap .i64) (.bin .sub (.un (.wrap .i64) (.bin .add (.var 25) (.int 1))) (.int 1))))
         (.asrt (.un .not (.bin .le (.un .len (.var 24)) (.un (.wrap .i64) (.bin .sub (.un (.wrap .i64) (.bin .add (.var 25) (.int 1))) (.int 1)))))
          (.br (.un .not (.bin .idx (.fn 57 (.bin .cons (.bin .idx (.bin .idx (.var 24) (.bin .add (.int 0) (.un (.wrap .i64) (.bin .sub (.un (.wrap .i64) (.bin .add (.var 25) (.int 1))) (.int 1))))) (.int 0)) (.bin .cons (.var 13) .nil))) (.int 0)))
           (.leaf [(.int 0), (.int 0), (.int 0), (.int 0), (.str []), (.int 0), (.int 0), (.int 0), (.int 0), (.bool false), (.bool false), (.int 0), (.bool true)])
           (.br (.bin .le (.un .len (.var 24)) (.un (.wrap .i64) (.bin .add (.var 25) (.int 1))))
            .fail
            (.asrt (.bin .le (.int 0) (.un (.wrap .i64) (.bin .sub (.un (.wrap .i64) (.bin .add (.un (.wrap .i64) (.bin .add (.var 25) (.int 1))) (.int 1))) (.int 1))))
             (.asrt (.un .not (.bin .le (.un .len (.var 24)) (.un (.wrap .i64) (.bin .sub (.un (.wrap .i64) (.bin .add (.un (.wrap .i64) (.bin .add (.var 25) (.int 1))) (.int 1))) (.int 1)))))
              (.br (.bin .idx (.bin .idx (.var 24) (.bin .add (.int 0) (.un (.wrap .i64) (.bin .sub (.un (.wrap .i64) (.bin .add (.un (.wrap .i64) (.bin .add (.var 25) (.int 1))) (.int 1))) (.int 1))))) (.int 1))
               (.leaf [(.int 0), (.int 0), (.int 0), (.int 0), (.str []), (.int 0), (.int 0), (.int 0), (.int 0), (.bool true), (.bool false), (.int 0), (.bool true)])
               .fail))))))))
       (.leaf [(.var 26), (.var 27), (.var 28), (.var 29), (.str []), (.int 0), (.int 0), (.int 0), (.int 0), (.bool false), (.bool false), (.int 0), (.bool false)]))))))))

def rvNextSm : List (Nat × Smy) := [(69, ⟨47, [.agg [.pl (.int .i64), .pl (.int .i64), .pl (.int .i64), .pl (.int .i64), .pl (.int .i64), .pl (.int .i64), .pl (.int .i64), .pl (.int .i64), .pl (.int .i64), .pl (.int .i64), .pl (.int .i64), .pl (.int .i64), .pl (.int .i64)], .one (.pl (.int .i64))], [.one (.pl (.int .i64))], fun _ => [], none⟩), (36, ⟨50, [.agg [.pl (.int .i64), .pl (.int .i64), .pl (.int .i64), .pl (.int .i64), .pl (.int .i64), .pl (.int .i64), .pl (.int .i64), .pl (.int .i64), .pl (.int .i64), .pl (.int .i64), .pl (.int .i64), .pl (.int .i64), .pl (.int .i64)], .one (.pl (.int .i64))], [.one (.pl (.int .i64))], fun _ => [], none⟩), (37, ⟨52, [.agg [.pl (.int .i64), .pl (.int .i64), .pl (.int .i64), .pl (.int .i64), .pl (.int .i64), .pl (.int .i64), .pl (.int .i64), .pl (.int .i64), .pl (.int .i64), .pl (.int .i64), .pl (.int .i64), .pl (.int .i64), .pl (.int .i64)], .one (.pl (.int .i64))], [.one (.pl (.int .i64))], fun _ => [], none⟩), (41, ⟨57, [.one (.pl (.int .i64)), .one (.pl (.int .i64))], [.one (.pl .bool)], fun _ => [], none⟩), (105, ⟨58, [.one (.pl (.int .i64)), .one (.pl (.int .i64))], [.one (.pl (.int .i64))], fun _ => [], none⟩), (106, ⟨59, [.one (.pl (.int .i64)), .one (.pl (.int .i64))], [.one (.pl (.int .i64))], fun _ => [], none⟩)]
def rvNextLa : List (LK × LA) := [(⟨30, 1, 30⟩, ⟨[(7, .any), (8, .any), (9, .any), (10, .any), (11, .any), (12, .any), (13, .any), (14, .any), (15, .any), (16, .any), (17, .any), (18, .any), (19, .any), (20, .any), (21, .any), (22, .any), (23, .any), (24, .any), (25, .any), (26, .any), (27, .any), (28, .any), (29, .any)], [(29, (.cells [(.sl 24 2 (.int 0) (.un .len (.var 24)) none), (.int .i64 (.var 25)), (.int .i64 (.var 26)), (.int .i64 (.var 27)), (.int .i64 (.var 28)), (.int .i64 (.var 29)), (.str (.str [])), (.bool (.var 30))]))], [], 6, 0⟩),
  (⟨31, 1, 30⟩, ⟨[(7, .any), (8, .any), (9, .any), (10, .any), (11, .any), (12, .any), (13, .any), (14, .any), (15, .any), (16, .any), (17, .any), (18, .any), (19, .any), (20, .any), (21, .any), (22, .any), (23, .any), (24, .any), (25, .any), (26, .any), (27, .any), (28, .any), (29, .any), (30, .any)], [(29, (.cells [(.sl 24 2 (.int 0) (.un .len (.var 24)) none), (.int .i64 (.var 25)), (.int .i64 (.var 26)), (.int .i64 (.var 27)), (.int .i64 (.var 28)), (.int .i64 (.var 29)), (.str (.str [])), (.bool (.var 30))]))], [], 6, 0⟩)]
def rvNextPhi : Nat → DV → DV := fun n d => match n with
  | 47 => .list (rStF d.l)
  | 50 => .list (rRdF d.l)
  | 52 => .list (rWtF d.l)
  | 57 => .list (rInF d.l)
  | 58 => .list (rWithF d.l)
  | 59 => .list (rOutF d.l)
  | _ => d
theorem rvNextS : SmyOk Try.prog rvNextPhi rvNextSm := (smy_cons (fun _ => True) rStF rSt_pure (fun _ _ _ _ => trivial) (fun _ => rfl) (fun _ h => by cases h) (smy_cons (fun _ => True) rRdF rRd_pure (fun _ _ _ _ => trivial) (fun _ => rfl) (fun _ h => by cases h) (smy_cons (fun _ => True) rWtF rWt_pure (fun _ _ _ _ => trivial) (fun _ => rfl) (fun _ h => by cases h) (smy_cons (fun _ => True) rInF rIn_pure (fun _ _ _ _ => trivial) (fun _ => rfl) (fun _ h => by cases h) (smy_cons (fun _ => True) rWithF rWith_pure (fun _ _ _ _ => trivial) (fun _ => rfl) (fun _ h => by cases h) (smy_cons (fun _ => True) rOutF rOut_pure (fun _ _ _ _ => trivial) (fun _ => rfl) (fun _ h => by cases h) smy_nil))))))
theorem rvNextT : treeOk ⟨Try.prog, rvNextSm, rvNextLa⟩ 4000 30 [.agg [.pl (.int .i64), .pl (.int .i64), .pl (.int .i64), .pl (.int .i64), .pl (.int .i64), .pl (.int .i64), .pl (.int .i64), .pl (.int .i64), .pl (.int .i64), .pl (.int .i64), .pl (.int .i64), .pl (.int .i64), .pl (.int .i64)], .one (.pl (.int .i64)), .agg [.pl (.int .i64), .pl (.int .i64), .pl (.int .i64), .pl (.int .i64), .pl (.int .i64), .pl (.int .i64), .pl (.int .i64), .rows false [.int .i64, .int .i64, .int .i64], .rows false [.int .i64, .int .i64], .rows false [.bool]], .one (.rows false [.int .i64, .bool])] [.agg [.pl (.int .i64), .pl (.int .i64), .pl (.int .i64), .pl (.int .i64), .pl .str], .agg [.pl (.int .i64), .pl (.int .i64), .pl (.int .i64), .pl (.int .i64), .pl .bool, .pl .bool, .pl (.int .i64)], .one (.pl .bool)] ([]) rvNextTree = true := by decide +kernel
set_option maxHeartbeats 1000000 in
theorem rvNext_pure : Pure Try.prog 30 [.agg [.pl (.int .i64), .pl (.int .i64), .pl (.int .i64), .pl (.int .i64), .pl (.int .i64), .pl (.int .i64), .pl (.int .i64), .pl (.int .i64), .pl (.int .i64), .pl (.int .i64), .pl (.int .i64), .pl (.int .i64), .pl (.int .i64)], .one (.pl (.int .i64)), .agg [.pl (.int .i64), .pl (.int .i64), .pl (.int .i64), .pl (.int .i64), .pl (.int .i64), .pl (.int .i64), .pl (.int .i64), .rows false [.int .i64, .int .i64, .int .i64], .rows false [.int .i64, .int .i64], .rows false [.bool]], .one (.rows false [.int .i64, .bool])] [.agg [.pl (.int .i64), .pl (.int .i64), .pl (.int .i64), .pl (.int .i64), .pl .str], .agg [.pl (.int .i64), .pl (.int .i64), .pl (.int .i64), .pl (.int .i64), .pl .bool, .pl .bool, .pl (.int .i64)], .one (.pl .bool)] (lenP [(24, 1000000)]) rvNextF := by
  refine pure_tree (X := ⟨Try.prog, rvNextSm, rvNextLa⟩) (Checked.mixed Try.checked) rvNextS (by decide +kernel) (by decide +kernel) rvNextT (by decide +kernel) ?_
  intro ds hl hp
  obtain ⟨d0, d1, d2, d3, d4, d5, d6, d7, d8, d9, d10, d11, d12, d13, d14, d15, d16, d17, d18, d19, d20, d21, d22, d23, d24, rfl⟩ := len25 hl
  have b24 : (d24.l.length : Int) ≤ 1000000 := hp (24, 1000000) (by simp)
  have hF : rvNextF [d0, d1, d2, d3, d4, d5, d6, d7, d8, d9, d10, d11, d12, d13, d14, d15, d16, d17, d18, d19, d20, d21, d22, d23, d24] = rvNextE d0.i d1.i d2.i d3.i d4.i d5.i d6.i d7.i d8.i d9.i d10.i d11.i d12.i d13.i d14.i d15.i d16.i d17.i d18.i d19.i d20.i (d21.l.map deciii) (d22.l.map decii) (d23.l.map DV.b) (d24.l.map decib) := rfl
  rw [hF]
  clear hF hp hl
  have hN : nrmL (clsOf [.agg [.pl (.int .i64), .pl (.int .i64), .pl (.int .i64), .pl (.int .i64), .pl (.int .i64), .pl (.int .i64), .pl (.int .i64), .pl (.int .i64), .pl (.int .i64), .pl (.int .i64), .pl (.int .i64), .pl (.int .i64), .pl (.int .i64)], .one (.pl (.int .i64)), .agg [.pl (.int .i64), .pl (.int .i64), .pl (.int .i64), .pl (.int .i64), .pl (.int .i64), .pl (.int .i64), .pl (.int .i64), .rows false [.int .i64, .int .i64, .int .i64], .rows false [.int .i64, .int .i64], .rows false [.bool]], .one (.rows false [.int .i64, .bool])]) [d0, d1, d2, d3, d4, d5, d6, d7, d8, d9, d10, d11, d12, d13, d14, d15, d16, d17, d18, d19, d20, d21, d22, d23, d24] = [.int d0.i, .int d1.i, .int d2.i, .int d3.i, .int d4.i, .int d5.i, .int d6.i, .int d7.i, .int d8.i, .int d9.i, .int d10.i, .int d11.i, .int d12.i, .int d13.i, .int d14.i, .int d15.i, .int d16.i, .int d17.i, .int d18.i, .int d19.i, .int d20.i, .list ((d21.l.map deciii).map enciii), .list ((d22.l.map decii).map encii), .list ((d23.l.map DV.b).map DV.bool), .list ((d24.l.map decib).map encib)] := by
    simp only [clsOf, Sh.cls, List.append_nil, List.cons_append, List.nil_append, nrmL, Cl.nrm, CK.nrm, map_Lb, map_Lib, map_Lii, map_Liii]
  rw [hN]
  clear hN
  generalize d0.i = x0
  generalize d1.i = x1
  generalize d2.i = x2
  generalize d3.i = x3
  generalize d4.i = x4
  generalize d5.i = x5
  generalize d6.i = x6
  generalize d7.i = x7
  generalize d8.i = x8
  generalize d9.i = x9
  generalize d10.i = x10
  generalize d11.i = x11
  generalize d12.i = x12
  generalize d13.i = x13
  generalize d14.i = x14
  generalize d15.i = x15
  generalize d16.i = x16
  generalize d17.i = x17
  generalize d18.i = x18
  generalize d19.i = x19
  generalize d20.i = x20
  generalize d21.l.map deciii = x21
  generalize d22.l.map decii = x22
  generalize d23.l.map DV.b = x23
  rw [← List.length_map (f := decib)] at b24
  generalize d24.l.map decib = x24 at b24 ⊢
  refine ⟨facts_nil _, ?_⟩
  unfold rvNextTree rvNextE
  simp only [Sat, clsOf, Sh.cls, List.append_nil, List.cons_append, List.nil_append, nrmL, Cl.nrm, CK.nrm, List.map_cons, List.map_nil, List.length_cons, List.length_nil, List.cons.injEq, DV.bool.injEq, DV.int.injEq, DV.list.injEq, DV.str.injEq, and_true, true_and]
  simp only [q_le, q_eq, q_eqs, q_eqb, q_and, q_or, q_not, q_bool, iff_true, iff_false, Bool.not_true, Bool.not_false, Bool.false_eq_true, Bool.true_eq_false, eq_self, Bool.not_not]
  simp only [Bool.not_true, Bool.not_false, Bool.true_eq_false, SE.den, evU, evT, ev_le, ev_eq, ev_eqs, ev_eqb, ev_slt, ev_and, ev_or, ev_add, ev_sub, ev_mul, ev_tdiv, ev_tmod, ev_band, ev_bor, ev_bxor, ev_bandn, ev_shl, ev_shr, ev_cat, ev_byte, ev_idx, ev_cons, ev_snoc, ev_app, ev_take, ev_drop, ev_stake, ev_sdrop, ev_rep, leB_q, eqB_q, eqsB_q, not_q, i_if, b_if, l_if, s_if, i_int, b_bool, s_str, l_list, envL, List.getElem?_cons_succ, List.getElem?_cons_zero, List.getElem?_nil, Option.getD_some, Option.getD_none, Int.toNat_natCast, Int.toNat_zero, Int.reduceToNat, List.length_map, get_Li, get_Lb, get_Ls, set_Li, inj_Li, inj_Lb, inj_Ls, rows_i, rows_b, rows_s, Int.zero_add, iff_true, iff_false, and_true, true_and, Bool.false_eq_true, eq_self, not_true_eq_false, not_false_eq_true, List.length_replicate, DV.int.injEq, DV.bool.injEq, DV.str.injEq, DV.list.injEq, List.cons.injEq, f_ib_0, rows_ib, inj_Lib, f_ib_1, rows_ib, inj_Lib, f_ii_0, rows_ii, inj_Lii, f_ii_1, rows_ii, inj_Lii, f_iii_0, rows_iii, inj_Liii, f_iii_1, rows_iii, inj_Liii, f_iii_2, rows_iii, inj_Liii, rvNextPhi, rStF, rStE, rRdF, rRdE, rWtF, rWtE, rInF, rInE, rWithF, rWithE, rOutF, rOutE, gi, gb, gs, gLi, gLu, gLb, gLs, dece_i, dece_b, dece_s, nrm_nx]
  have hat : (1 ≤ x14 ∧ x14 ≤ 4 ∧ 0 ≤ (if x14 ≤ 2 then placeM x11 x1 x15 4 2 else placeM x11 x1 x15 4 3) ∧ 0 ≤ placeM x9 x0 x13 4 0) → ∀ i, _ := fun h => viTop_at (wth := (fun t m => rwithM m t)) (off := (fun t m => roffM m t)) (log := x24) (me := x13) h
  have herr : ¬ (1 ≤ x14 ∧ x14 ≤ 4 ∧ 0 ≤ (if x14 ≤ 2 then placeM x11 x1 x15 4 2 else placeM x11 x1 x15 4 3) ∧ 0 ≤ placeM x9 x0 x13 4 0) → viTopM (fun m => rwithM m x13) (fun m => roffM m x13) (placeM x11 x1 x15 4 2) (placeM x11 x1 x15 4 3) (placeM x9 x0 x13 4 0) x13 x14 x24 = doneN 0 0 false 1 := fun h => if_neg h
  generalize hNN : viTopM (fun m => rwithM m x13) (fun m => roffM m x13) (placeM x11 x1 x15 4 2) (placeM x11 x1 x15 4 3) (placeM x9 x0 x13 4 0) x13 x14 x24 = N at herr ⊢
  clear x21 x22 x23
  have htm : 0 ≤ x14 → x14.tmod 2 = x14 % 2 := fun h => Int.tmod_eq_emod_of_nonneg h
  repeat' (first | apply And.intro | intro)
  all_goals first
    | (have h14 : ¬ (1 ≤ x14 ∧ x14 ≤ 4) := by omega
       rw [herr (fun h => h14 ⟨h.1, h.2.1⟩)]; rfl)
    | (have hno : ¬ (1 ≤ x14 ∧ x14 ≤ 4 ∧ 0 ≤ (if x14 ≤ 2 then placeM x11 x1 x15 4 2 else placeM x11 x1 x15 4 3) ∧ 0 ≤ placeM x9 x0 x13 4 0) := by simp [*]
       rw [herr hno]; rfl)
    | skip
  all_goals
    have hpre : 1 ≤ x14 ∧ x14 ≤ 4 ∧ 0 ≤ (if x14 ≤ 2 then placeM x11 x1 x15 4 2 else placeM x11 x1 x15 4 3) ∧ 0 ≤ placeM x9 x0 x13 4 0 := ⟨by omega, by omega, by first | (rw [if_pos (by omega)]; assumption) | (rw [if_neg (by omega)]; assumption), by assumption⟩
    have htm := htm (by omega)
    have hat := hat hpre
    refine rounds_inv (fun y => (∃ i : Nat, y = [.int i, .int 0, .int 0, .int 0, .int 0, .bool false] ∧ i ≤ x24.length ∧ viTopM (fun m => rwithM m x13) (fun m => roffM m x13) (placeM x11 x1 x15 4 2) (placeM x11 x1 x15 4 3) (placeM x9 x0 x13 4 0) x13 x14 (x24.drop i) = N) ∨ (∃ i k c o n : Int, y = [.int i, .int k, .int c, .int o, .int n, .bool true] ∧ N = askN k c o n))
      (fun y => 2 * (x24.length - ((y[0]?).getD (DV.int 0)).i.toNat) + (if ((y[5]?).getD (DV.int 0)).b = true then 0 else 1)) (.inl ⟨0, rfl, Nat.zero_le _, by rw [List.drop_zero]; exact hNN⟩) ?_
    intro y hy
    rcases hy with ⟨i, rfl, hi, hall⟩ | ⟨i, k, c, o, n, rfl, rfl⟩
    · rw [hat i] at hall
      have e1 : IntKind.i64.wrap ((i : Int) + 1) = i + 1 := w64 (by omega) (by omega)
      have e2 : IntKind.i64.wrap ((i : Int) + 1 + 1) = i + 2 := by rw [show (i : Int) + 1 + 1 = i + 2 by omega]; exact w64 (by omega) (by omega)
      have e3 : IntKind.i64.wrap ((i : Int) + 1 - 1) = i := by rw [show (i : Int) + 1 - 1 = i by omega]; exact w64 (by omega) (by omega)
      have e4 : IntKind.i64.wrap ((i : Int) + 2 - 1) = i + 1 := by rw [show (i : Int) + 2 - 1 = i + 1 by omega]; exact w64 (by omega) (by omega)
      have e5 : ((i : Int) + 1).toNat = i + 1 := by omega
      simp only [Bool.not_true, Bool.not_false, Bool.true_eq_false, SE.den, evU, evT, ev_le, ev_eq, ev_eqs, ev_eqb, ev_slt, ev_and, ev_or, ev_add, ev_sub, ev_mul, ev_tdiv, ev_tmod, ev_band, ev_bor, ev_bxor, ev_bandn, ev_shl, ev_shr, ev_cat, ev_byte, ev_idx, ev_cons, ev_snoc, ev_app, ev_take, ev_drop, ev_stake, ev_sdrop, ev_rep, leB_q, eqB_q, eqsB_q, not_q, i_if, b_if, l_if, s_if, i_int, b_bool, s_str, l_list, envL, List.getElem?_cons_succ, List.getElem?_cons_zero, List.getElem?_nil, Option.getD_some, Option.getD_none, Int.toNat_natCast, Int.toNat_zero, Int.reduceToNat, List.length_map, get_Li, get_Lb, get_Ls, set_Li, inj_Li, inj_Lb, inj_Ls, rows_i, rows_b, rows_s, Int.zero_add, iff_true, iff_false, and_true, true_and, Bool.false_eq_true, eq_self, not_true_eq_false, not_false_eq_true, List.length_replicate, DV.int.injEq, DV.bool.injEq, DV.str.injEq, DV.list.injEq, List.cons.injEq, f_ib_0, rows_ib, inj_Lib, f_ib_1, rows_ib, inj_Lib, f_ii_0, rows_ii, inj_Lii, f_ii_1, rows_ii, inj_Lii, f_iii_0, rows_iii, inj_Liii, f_iii_1, rows_iii, inj_Liii, f_iii_2, rows_iii, inj_Liii, e1, e2, e3, e4, e5, has_zero, raw_ib_0]
      by_cases h1 : x24.length ≤ i
      · rw [if_pos h1] at hall
        have h1' : (x24.length : Int) ≤ i := by omega
        first
        | (left
           rw [← hall]
           simp [h1', *, askN, Nx.ds]
           done)
        | (right
           refine ⟨[.int i, .int 1, .int (if x14 ≤ 2 then placeM x11 x1 x15 4 2 else placeM x11 x1 x15 4 3), .int 0, .int 0, .bool true], ?_, rfl, .inr ⟨i, 1, _, 0, 0, rfl, hall.symm⟩, ?_⟩
           · simp [h1', *]
           · simp only [Bool.not_true, Bool.not_false, Bool.true_eq_false, SE.den, evU, evT, ev_le, ev_eq, ev_eqs, ev_eqb, ev_slt, ev_and, ev_or, ev_add, ev_sub, ev_mul, ev_tdiv, ev_tmod, ev_band, ev_bor, ev_bxor, ev_bandn, ev_shl, ev_shr, ev_cat, ev_byte, ev_idx, ev_cons, ev_snoc, ev_app, ev_take, ev_drop, ev_stake, ev_sdrop, ev_rep, leB_q, eqB_q, eqsB_q, not_q, i_if, b_if, l_if, s_if, i_int, b_bool, s_str, l_list, envL, List.getElem?_cons_succ, List.getElem?_cons_zero, List.getElem?_nil, Option.getD_some, Option.getD_none, Int.toNat_natCast, Int.toNat_zero, Int.reduceToNat, List.length_map, get_Li, get_Lb, get_Ls, set_Li, inj_Li, inj_Lb, inj_Ls, rows_i, rows_b, rows_s, Int.zero_add, iff_true, iff_false, and_true, true_and, Bool.false_eq_true, eq_self, not_true_eq_false, not_false_eq_true, List.length_replicate, DV.int.injEq, DV.bool.injEq, DV.str.injEq, DV.list.injEq, List.cons.injEq, f_ib_0, rows_ib, inj_Lib, f_ib_1, rows_ib, inj_Lib, f_ii_0, rows_ii, inj_Lii, f_ii_1, rows_ii, inj_Lii, f_iii_0, rows_iii, inj_Liii, f_iii_1, rows_iii, inj_Liii, f_iii_2, rows_iii, inj_Liii]; simp)
      · rw [if_neg h1] at hall
        have h1' : ¬ (x24.length : Int) ≤ i := by omega
        rcases (by omega : x14 % 2 = 1 ∨ ¬ x14 % 2 = 1) with hk | hk
        all_goals try (exfalso; omega; done)
        all_goals
          simp only [hk, decide_true, decide_false, if_true, if_false] at hall
          cases hh : hasM (x24[i]?.getD dib).1 x13
          all_goals
            simp only [hh, if_true, if_false, Bool.false_eq_true, Bool.true_eq_false] at hall
            first
            | (left; rw [← hall]; simp [h1', hh, doneN, Nx.ds]; done)
            | (left; rw [← hall]; simp [h1', hh, doneN, Nx.ds]; omega)
            | by_cases h3 : x24.length ≤ i + 1
              · have h3' : (x24.length : Int) ≤ i + 1 := by omega
                rw [if_pos h3] at hall
                right
                refine ⟨[.int ((i + 1 : Nat) : Int), .int 3, .int (if x14 ≤ 2 then placeM x11 x1 x15 4 2 else placeM x11 x1 x15 4 3), .int (x24[i]?.getD dib).1, _, .bool true], ?_, rfl, .inr ⟨((i + 1 : Nat) : Int), 3, _, _, _, rfl, hall.symm⟩, ?_⟩
                · simp [h1', h3', hh, *]
                  try omega
                · simp only [Bool.not_true, Bool.not_false, Bool.true_eq_false, SE.den, evU, evT, ev_le, ev_eq, ev_eqs, ev_eqb, ev_slt, ev_and, ev_or, ev_add, ev_sub, ev_mul, ev_tdiv, ev_tmod, ev_band, ev_bor, ev_bxor, ev_bandn, ev_shl, ev_shr, ev_cat, ev_byte, ev_idx, ev_cons, ev_snoc, ev_app, ev_take, ev_drop, ev_stake, ev_sdrop, ev_rep, leB_q, eqB_q, eqsB_q, not_q, i_if, b_if, l_if, s_if, i_int, b_bool, s_str, l_list, envL, List.getElem?_cons_succ, List.getElem?_cons_zero, List.getElem?_nil, Option.getD_some, Option.getD_none, Int.toNat_natCast, Int.toNat_zero, Int.reduceToNat, List.length_map, get_Li, get_Lb, get_Ls, set_Li, inj_Li, inj_Lb, inj_Ls, rows_i, rows_b, rows_s, Int.zero_add, iff_true, iff_false, and_true, true_and, Bool.false_eq_true, eq_self, not_true_eq_false, not_false_eq_true, List.length_replicate, DV.int.injEq, DV.bool.injEq, DV.str.injEq, DV.list.injEq, List.cons.injEq, f_ib_0, rows_ib, inj_Lib, f_ib_1, rows_ib, inj_Lib, f_ii_0, rows_ii, inj_Lii, f_ii_1, rows_ii, inj_Lii, f_iii_0, rows_iii, inj_Liii, f_iii_1, rows_iii, inj_Liii, f_iii_2, rows_iii, inj_Liii]; simp; try omega
              · have h3' : ¬ (x24.length : Int) ≤ i + 1 := by omega
                rw [if_neg h3] at hall
                by_cases h4 : (x24[i + 1]?.getD dib).2 = true
                · left
                  rw [if_pos h4] at hall
                  rw [← hall]
                  simp [h1', h3', h4, hh, doneN, Nx.ds]
                  try omega
                · right
                  rw [if_neg h4] at hall
                  refine ⟨[.int ((i + 2 : Nat) : Int), .int 0, .int 0, .int 0, .int 0, .bool false], ?_, rfl, .inl ⟨i + 2, rfl, by omega, hall⟩, ?_⟩
                  · simp [h1', h3', h4, hh]
                    try omega
                  · simp only [Bool.not_true, Bool.not_false, Bool.true_eq_false, SE.den, evU, evT, ev_le, ev_eq, ev_eqs, ev_eqb, ev_slt, ev_and, ev_or, ev_add, ev_sub, ev_mul, ev_tdiv, ev_tmod, ev_band, ev_bor, ev_bxor, ev_bandn, ev_shl, ev_shr, ev_cat, ev_byte, ev_idx, ev_cons, ev_snoc, ev_app, ev_take, ev_drop, ev_stake, ev_sdrop, ev_rep, leB_q, eqB_q, eqsB_q, not_q, i_if, b_if, l_if, s_if, i_int, b_bool, s_str, l_list, envL, List.getElem?_cons_succ, List.getElem?_cons_zero, List.getElem?_nil, Option.getD_some, Option.getD_none, Int.toNat_natCast, Int.toNat_zero, Int.reduceToNat, List.length_map, get_Li, get_Lb, get_Ls, set_Li, inj_Li, inj_Lb, inj_Ls, rows_i, rows_b, rows_s, Int.zero_add, iff_true, iff_false, and_true, true_and, Bool.false_eq_true, eq_self, not_true_eq_false, not_false_eq_true, List.length_replicate, DV.int.injEq, DV.bool.injEq, DV.str.injEq, DV.list.injEq, List.cons.injEq, f_ib_0, rows_ib, inj_Lib, f_ib_1, rows_ib, inj_Lib, f_ii_0, rows_ii, inj_Lii, f_ii_1, rows_ii, inj_Lii, f_iii_0, rows_iii, inj_Liii, f_iii_1, rows_iii, inj_Liii, f_iii_2, rows_iii, inj_Liii]; simp; try omega
    · left
      simp only [Bool.not_true, Bool.not_false, Bool.true_eq_false, SE.den, evU, evT, ev_le, ev_eq, ev_eqs, ev_eqb, ev_slt, ev_and, ev_or, ev_add, ev_sub, ev_mul, ev_tdiv, ev_tmod, ev_band, ev_bor, ev_bxor, ev_bandn, ev_shl, ev_shr, ev_cat, ev_byte, ev_idx, ev_cons, ev_snoc, ev_app, ev_take, ev_drop, ev_stake, ev_sdrop, ev_rep, leB_q, eqB_q, eqsB_q, not_q, i_if, b_if, l_if, s_if, i_int, b_bool, s_str, l_list, envL, List.getElem?_cons_succ, List.getElem?_cons_zero, List.getElem?_nil, Option.getD_some, Option.getD_none, Int.toNat_natCast, Int.toNat_zero, Int.reduceToNat, List.length_map, get_Li, get_Lb, get_Ls, set_Li, inj_Li, inj_Lb, inj_Ls, rows_i, rows_b, rows_s, Int.zero_add, iff_true, iff_false, and_true, true_and, Bool.false_eq_true, eq_self, not_true_eq_false, not_false_eq_true, List.length_replicate, DV.int.injEq, DV.bool.injEq, DV.str.injEq, DV.list.injEq, List.cons.injEq, f_ib_0, rows_ib, inj_Lib, f_ib_1, rows_ib, inj_Lib, f_ii_0, rows_ii, inj_Lii, f_ii_1, rows_ii, inj_Lii, f_iii_0, rows_iii, inj_Liii, f_iii_1, rows_iii, inj_Liii, f_iii_2, rows_iii, inj_Liii]
      simp [askN, Nx.ds]
end Go.Proofs.Ythofaloahjpidaa
