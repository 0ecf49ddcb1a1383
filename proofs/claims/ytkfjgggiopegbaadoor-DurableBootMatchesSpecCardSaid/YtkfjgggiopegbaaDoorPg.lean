/- DurableBootMatchesSpec: the law returns true for every input, and each argument reads afterwards as it read before. No condition. -/
import Derived.Test.YtkfjgggiopegbaaDoorTie
import Derived.Test.YtkfjgggiopegbaaDoorCards
import Derived.Lay
import Derived.SevenTiedAt
import Derived.Test.YtkfjgggiopegbaaDoorPf
section
namespace Go.Proofs.YtkfjgggiopegbaaDoor
set_option linter.unusedVariables false
set_option linter.unusedSimpArgs false
set_option maxRecDepth 100000
def rBootE (t l k s m a0 a1 a2 a3 a4 a5 a6 a7 : Int) (first : List Int) (sec : List (List UInt8)) (was : List Tis) : List DV := [.list ((bootM a7.toNat a6 l first (recoverM sec).1 (recoverM sec).2).map DV.int), .list ((recoverM sec).1.map encEn)]
def rBootF (ds : List DV) : List DV := rBootE (gi ds 0) (gi ds 1) (gi ds 2) (gi ds 3) (gi ds 4) (gi ds 5) (gi ds 6) (gi ds 7) (gi ds 8) (gi ds 9) (gi ds 10) (gi ds 11) (gi ds 12) (gLi ds 13) (gLs ds 14) (gLis ds 15)
def rBootTree : PT :=
(.asrt (.bin .le (.un .len (.var 14)) (.int 1000))
 (.asrt (.bin .le (.int 0) (.var 12))
  (.asrt (.bin .le (.var 12) (.int 1000000))
   (.asrt (.bin .le (.int 0) (.var 6))
    (.asrt (.un .not (.bin .le (.var 12) (.var 6)))
     (.asrt (.un .not (.bin .le (.un .len (.bin .rep (.var 12) (.int 0))) (.bin .add (.int 0) (.var 6))))
      (.asrt (.bin .le (.int 0) (.var 8))
       (.asrt (.un .not (.bin .le (.var 12) (.var 8)))
        (.asrt (.un .not (.bin .le (.un .len (.tri .set (.bin .rep (.var 12) (.int 0)) (.bin .add (.int 0) (.var 6)) (.int 1))) (.bin .add (.int 0) (.var 8))))
         (.loop 16 [(.int 0), (.tri .set (.tri .set (.bin .rep (.var 12) (.int 0)) (.bin .add (.int 0) (.var 6)) (.int 1)) (.bin .add (.int 0) (.var 8)) (.bin .idx (.fn 159 (.bin .cons (.var 14) .nil)) (.int 1)))]
          (.br (.un .not (.bin .le (.un .len (.bin .idx (.fn 159 (.bin .cons (.var 14) .nil)) (.int 0))) (.var 16)))
           (.asrt (.bin .le (.int 0) (.var 16))
            (.asrt (.bin .le (.int 0) (.var 5))
             (.asrt (.un .not (.bin .le (.var 12) (.var 5)))
              (.asrt (.un .not (.bin .le (.un .len (.var 17)) (.bin .add (.int 0) (.var 5))))
               (.leaf [(.un (.wrap .i64) (.bin .add (.var 16) (.int 1))), (.tri .set (.var 17) (.bin .add (.int 0) (.var 5)) (.bin .idx (.bin .idx (.bin .idx (.fn 159 (.bin .cons (.var 14) .nil)) (.int 0)) (.bin .add (.int 0) (.var 16))) (.int 0)))])))))
           .fail)
          (.br (.un .not (.bin .le (.un .len (.bin .idx (.fn 159 (.bin .cons (.var 14) .nil)) (.int 0))) (.var 16)))
           (.asrt (.bin .le (.int 0) (.var 16))
            (.asrt (.bin .le (.int 0) (.var 5))
             (.asrt (.un .not (.bin .le (.var 12) (.var 5)))
              (.asrt (.un .not (.bin .le (.un .len (.var 17)) (.bin .add (.int 0) (.var 5))))
               .fail))))
           (.loop 18 [(.int 0), (.var 17)]
            (.br (.un .not (.bin .le (.var 1) (.var 18)))
             (.br (.un .not (.bin .le (.un .len (.var 13)) (.var 18)))
              (.asrt (.bin .le (.int 0) (.var 18))
               (.asrt (.bin .le (.int 0) (.bin .idx (.fn 32 (.bin .cons (.var 0) (.bin .cons (.var 1) (.bin .cons (.var 2) (.bin .cons (.var 3) (.bin .cons (.var 4) (.bin .cons (.var 5) (.bin .cons (.var 6) (.bin .cons (.var 7) (.bin .cons (.var 8) (.bin .cons (.var 9) (.bin .cons (.var 10) (.bin .cons (.var 11) (.bin .cons (.var 12) (.bin .cons (.var 18) .nil))))))))))))))) (.int 0)))
                (.asrt (.un .not (.bin .le (.var 12) (.bin .idx (.fn 32 (.bin .cons (.var 0) (.bin .cons (.var 1) (.bin .cons (.var 2) (.bin .cons (.var 3) (.bin .cons (.var 4) (.bin .cons (.var 5) (.bin .cons (.var 6) (.bin .cons (.var 7) (.bin .cons (.var 8) (.bin .cons (.var 9) (.bin .cons (.var 10) (.bin .cons (.var 11) (.bin .cons (.var 12) (.bin .cons (.var 18) .nil))))))))))))))) (.int 0))))
                 (.asrt (.un .not (.bin .le (.un .len (.var 19)) (.bin .add (.int 0) (.bin .idx (.fn 32 (.bin .cons (.var 0) (.bin .cons (.var 1) (.bin .cons (.var 2) (.bin .cons (.var 3) (.bin .cons (.var 4) (.bin .cons (.var 5) (.bin .cons (.var 6) (.bin .cons (.var 7) (.bin .cons (.var 8) (.bin .cons (.var 9) (.bin .cons (.var 10) (.bin .cons (.var 11) (.bin .cons (.var 12) (.bin .cons (.var 18) .nil))))))))))))))) (.int 0)))))
                  (.loop 20 [(.un (.wrap .i64) (.bin .sub (.un .len (.bin .idx (.fn 159 (.bin .cons (.var 14) .nil)) (.int 0))) (.int 1)))]
                   (.br (.bin .le (.int 0) (.var 20))
                    (.loop 21 [(.int 0)]
                     (.asrt (.un .not (.bin .le (.un .len (.bin .idx (.fn 159 (.bin .cons (.var 14) .nil)) (.int 0))) (.var 20)))
                      (.br (.un .not (.bin .le (.un .len (.bin .idx (.bin .idx (.bin .idx (.fn 159 (.bin .cons (.var 14) .nil)) (.int 0)) (.bin .add (.int 0) (.var 20))) (.int 1))) (.var 21)))
                       (.asrt (.bin .le (.int 0) (.var 21))
                        (.br (.bin .eq (.bin .idx (.bin .idx (.bin .idx (.bin .idx (.bin .idx (.fn 159 (.bin .cons (.var 14) .nil)) (.int 0)) (.bin .add (.int 0) (.var 20))) (.int 1)) (.var 21)) (.int 0)) (.var 18))
                         .fail
                         (.leaf [(.un (.wrap .i64) (.bin .add (.var 21) (.int 1)))])))
                       .fail))
                     (.asrt (.un .not (.bin .le (.un .len (.bin .idx (.fn 159 (.bin .cons (.var 14) .nil)) (.int 0))) (.var 20)))
                      (.br (.un .not (.bin .le (.un .len (.bin .idx (.bin .idx (.bin .idx (.fn 159 (.bin .cons (.var 14) .nil)) (.int 0)) (.bin .add (.int 0) (.var 20))) (.int 1))) (.var 21)))
                       (.asrt (.bin .le (.int 0) (.var 21))
                        .fail)
                       (.leaf [(.un (.wrap .i64) (.bin .sub (.var 20) (.int 1)))]))))
                    .fail)
                   (.br (.bin .le (.int 0) (.var 20))
                    (.loop 21 [(.int 0)]
                     (.asrt (.un .not (.bin .le (.un .len (.bin .idx (.fn 159 (.bin .cons (.var 14) .nil)) (.int 0))) (.var 20)))
                      (.br (.un .not (.bin .le (.un .len (.bin .idx (.bin .idx (.bin .idx (.fn 159 (.bin .cons (.var 14) .nil)) (.int 0)) (.bin .add (.int 0) (.var 20))) (.int 1))) (.var 21)))
                       (.asrt (.bin .le (.int 0) (.var 21))
                        (.br (.bin .eq (.bin .idx (.bin .idx (.bin .idx (.bin .idx (.bin .idx (.fn 159 (.bin .cons (.var 14) .nil)) (.int 0)) (.bin .add (.int 0) (.var 20))) (.int 1)) (.var 21)) (.int 0)) (.var 18))
                         .fail
                         (.leaf [(.un (.wrap .i64) (.bin .add (.var 21) (.int 1)))])))
                       .fail))
                     (.asrt (.un .not (.bin .le (.un .len (.bin .idx (.fn 159 (.bin .cons (.var 14) .nil)) (.int 0))) (.var 20)))
                      (.br (.un .not (.bin .le (.un .len (.bin .idx (.bin .idx (.bin .idx (.fn 159 (.bin .cons (.var 14) .nil)) (.int 0)) (.bin .add (.int 0) (.var 20))) (.int 1))) (.var 21)))
                       (.asrt (.bin .le (.int 0) (.var 21))
                        (.br (.bin .eq (.bin .idx (.bin .idx (.bin .idx (.bin .idx (.bin .idx (.fn 159 (.bin .cons (.var 14) .nil)) (.int 0)) (.bin .add (.int 0) (.var 20))) (.int 1)) (.var 21)) (.int 0)) (.var 18))
                         (.asrt (.un .not (.bin .le (.un .len (.tri .set (.var 19) (.bin .add (.int 0) (.bin .idx (.fn 32 (.bin .cons (.var 0) (.bin .cons (.var 1) (.bin .cons (.var 2) (.bin .cons (.var 3) (.bin .cons (.var 4) (.bin .cons (.var 5) (.bin .cons (.var 6) (.bin .cons (.var 7) (.bin .cons (.var 8) (.bin .cons (.var 9) (.bin .cons (.var 10) (.bin .cons (.var 11) (.bin .cons (.var 12) (.bin .cons (.var 18) .nil))))))))))))))) (.int 0))) (.bin .idx (.var 13) (.bin .add (.int 0) (.var 18))))) (.bin .add (.int 0) (.bin .idx (.fn 32 (.bin .cons (.var 0) (.bin .cons (.var 1) (.bin .cons (.var 2) (.bin .cons (.var 3) (.bin .cons (.var 4) (.bin .cons (.var 5) (.bin .cons (.var 6) (.bin .cons (.var 7) (.bin .cons (.var 8) (.bin .cons (.var 9) (.bin .cons (.var 10) (.bin .cons (.var 11) (.bin .cons (.var 12) (.bin .cons (.var 18) .nil))))))))))))))) (.int 0)))))
                          (.asrt (.bin .le (.int 0) (.bin .idx (.fn 31 (.bin .cons (.var 0) (.bin .cons (.var 1) (.bin .cons (.var 2) (.bin .cons (.var 3) (.bin .cons (.var 4) (.bin .cons (.var 5) (.bin .cons (.var 6) (.bin .cons (.var 7) (.bin .cons (.var 8) (.bin .cons (.var 9) (.bin .cons (.var 10) (.bin .cons (.var 11) (.bin .cons (.var 12) (.bin .cons (.var 18) .nil))))))))))))))) (.int 0)))
                           (.asrt (.un .not (.bin .le (.var 12) (.bin .idx (.fn 31 (.bin .cons (.var 0) (.bin .cons (.var 1) (.bin .cons (.var 2) (.bin .cons (.var 3) (.bin .cons (.var 4) (.bin .cons (.var 5) (.bin .cons (.var 6) (.bin .cons (.var 7) (.bin .cons (.var 8) (.bin .cons (.var 9) (.bin .cons (.var 10) (.bin .cons (.var 11) (.bin .cons (.var 12) (.bin .cons (.var 18) .nil))))))))))))))) (.int 0))))
                            (.asrt (.un .not (.bin .le (.un .len (.tri .set (.tri .set (.var 19) (.bin .add (.int 0) (.bin .idx (.fn 32 (.bin .cons (.var 0) (.bin .cons (.var 1) (.bin .cons (.var 2) (.bin .cons (.var 3) (.bin .cons (.var 4) (.bin .cons (.var 5) (.bin .cons (.var 6) (.bin .cons (.var 7) (.bin .cons (.var 8) (.bin .cons (.var 9) (.bin .cons (.var 10) (.bin .cons (.var 11) (.bin .cons (.var 12) (.bin .cons (.var 18) .nil))))))))))))))) (.int 0))) (.bin .idx (.var 13) (.bin .add (.int 0) (.var 18)))) (.bin .add (.int 0) (.bin .idx (.fn 32 (.bin .cons (.var 0) (.bin .cons (.var 1) (.bin .cons (.var 2) (.bin .cons (.var 3) (.bin .cons (.var 4) (.bin .cons (.var 5) (.bin .cons (.var 6) (.bin .cons (.var 7) (.bin .cons (.var 8) (.bin .cons (.var 9) (.bin .cons (.var 10) (.bin .cons (.var 11) (.bin .cons (.var 12) (.bin .cons (.var 18) .nil))))))))))))))) (.int 0))) (.bin .idx (.bin .idx (.bin .idx (.bin .idx (.bin .idx (.fn 159 (.bin .cons (.var 14) .nil)) (.int 0)) (.bin .add (.int 0) (.var 20))) (.int 1)) (.var 21)) (.int 1)))) (.bin .add (.int 0) (.bin .idx (.fn 31 (.bin .cons (.var 0) (.bin .cons (.var 1) (.bin .cons (.var 2) (.bin .cons (.var 3) (.bin .cons (.var 4) (.bin .cons (.var 5) (.bin .cons (.var 6) (.bin .cons (.var 7) (.bin .cons (.var 8) (.bin .cons (.var 9) (.bin .cons (.var 10) (.bin .cons (.var 11) (.bin .cons (.var 12) (.bin .cons (.var 18) .nil))))))))))))))) (.int 0)))))
                             (.leaf [(.un (.wrap .i64) (.bin .add (.var 18) (.int 1))), (.tri .set (.tri .set (.tri .set (.var 19) (.bin .add (.int 0) (.bin .idx (.fn 32 (.bin .cons (.var 0) (.bin .cons (.var 1) (.bin .cons (.var 2) (.bin .cons (.var 3) (.bin .cons (.var 4) (.bin .cons (.var 5) (.bin .cons (.var 6) (.bin .cons (.var 7) (.bin .cons (.var 8) (.bin .cons (.var 9) (.bin .cons (.var 10) (.bin .cons (.var 11) (.bin .cons (.var 12) (.bin .cons (.var 18) .nil))))))))))))))) (.int 0))) (.bin .idx (.var 13) (.bin .add (.int 0) (.var 18)))) (.bin .add (.int 0) (.bin .idx (.fn 32 (.bin .cons (.var 0) (.bin .cons (.var 1) (.bin .cons (.var 2) (.bin .cons (.var 3) (.bin .cons (.var 4) (.bin .cons (.var 5) (.bin .cons (.var 6) (.bin .cons (.var 7) (.bin .cons (.var 8) (.bin .cons (.var 9) (.bin .cons (.var 10) (.bin .cons (.var 11) (.bin .cons (.var 12) (.bin .cons (.var 18) .nil))))))))))))))) (.int 0))) (.bin .idx (.bin .idx (.bin .idx (.bin .idx (.bin .idx (.fn 159 (.bin .cons (.var 14) .nil)) (.int 0)) (.bin .add (.int 0) (.var 20))) (.int 1)) (.var 21)) (.int 1))) (.bin .add (.int 0) (.bin .idx (.fn 31 (.bin .cons (.var 0) (.bin .cons (.var 1) (.bin .cons (.var 2) (.bin .cons (.var 3) (.bin .cons (.var 4) (.bin .cons (.var 5) (.bin .cons (.var 6) (.bin .cons (.var 7) (.bin .cons (.var 8) (.bin .cons (.var 9) (.bin .cons (.var 10) (.bin .cons (.var 11) (.bin .cons (.var 12) (.bin .cons (.var 18) .nil))))))))))))))) (.int 0))) (.un (.wrap .i64) (.bin .mul (.int 2) (.bin .idx (.bin .idx (.bin .idx (.fn 159 (.bin .cons (.var 14) .nil)) (.int 0)) (.bin .add (.int 0) (.var 20))) (.int 0)))))])))))
                         .fail))
                       .fail)))
                    (.leaf [(.un (.wrap .i64) (.bin .add (.var 18) (.int 1))), (.tri .set (.var 19) (.bin .add (.int 0) (.bin .idx (.fn 32 (.bin .cons (.var 0) (.bin .cons (.var 1) (.bin .cons (.var 2) (.bin .cons (.var 3) (.bin .cons (.var 4) (.bin .cons (.var 5) (.bin .cons (.var 6) (.bin .cons (.var 7) (.bin .cons (.var 8) (.bin .cons (.var 9) (.bin .cons (.var 10) (.bin .cons (.var 11) (.bin .cons (.var 12) (.bin .cons (.var 18) .nil))))))))))))))) (.int 0))) (.bin .idx (.var 13) (.bin .add (.int 0) (.var 18))))])))))))
              (.loop 20 [(.un (.wrap .i64) (.bin .sub (.un .len (.bin .idx (.fn 159 (.bin .cons (.var 14) .nil)) (.int 0))) (.int 1)))]
               (.br (.bin .le (.int 0) (.var 20))
                (.loop 21 [(.int 0)]
                 (.asrt (.un .not (.bin .le (.un .len (.bin .idx (.fn 159 (.bin .cons (.var 14) .nil)) (.int 0))) (.var 20)))
                  (.br (.un .not (.bin .le (.un .len (.bin .idx (.bin .idx (.bin .idx (.fn 159 (.bin .cons (.var 14) .nil)) (.int 0)) (.bin .add (.int 0) (.var 20))) (.int 1))) (.var 21)))
                   (.asrt (.bin .le (.int 0) (.var 21))
                    (.br (.bin .eq (.bin .idx (.bin .idx (.bin .idx (.bin .idx (.bin .idx (.fn 159 (.bin .cons (.var 14) .nil)) (.int 0)) (.bin .add (.int 0) (.var 20))) (.int 1)) (.var 21)) (.int 0)) (.var 18))
                     .fail
                     (.leaf [(.un (.wrap .i64) (.bin .add (.var 21) (.int 1)))])))
                   .fail))
                 (.asrt (.un .not (.bin .le (.un .len (.bin .idx (.fn 159 (.bin .cons (.var 14) .nil)) (.int 0))) (.var 20)))
                  (.br (.un .not (.bin .le (.un .len (.bin .idx (.bin .idx (.bin .idx (.fn 159 (.bin .cons (.var 14) .nil)) (.int 0)) (.bin .add (.int 0) (.var 20))) (.int 1))) (.var 21)))
                   (.asrt (.bin .le (.int 0) (.var 21))
                    .fail)
                   (.leaf [(.un (.wrap .i64) (.bin .sub (.var 20) (.int 1)))]))))
                .fail)
               (.br (.bin .le (.int 0) (.var 20))
                (.loop 21 [(.int 0)]
                 (.asrt (.un .not (.bin .le (.un .len (.bin .idx (.fn 159 (.bin .cons (.var 14) .nil)) (.int 0))) (.var 20)))
                  (.br (.un .not (.bin .le (.un .len (.bin .idx (.bin .idx (.bin .idx (.fn 159 (.bin .cons (.var 14) .nil)) (.int 0)) (.bin .add (.int 0) (.var 20))) (.int 1))) (.var 21)))
                   (.asrt (.bin .le (.int 0) (.var 21))
                    (.br (.bin .eq (.bin .idx (.bin .idx (.bin .idx (.bin .idx (.bin .idx (.fn 159 (.bin .cons (.var 14) .nil)) (.int 0)) (.bin .add (.int 0) (.var 20))) (.int 1)) (.var 21)) (.int 0)) (.var 18))
                     .fail
                     (.leaf [(.un (.wrap .i64) (.bin .add (.var 21) (.int 1)))])))
                   .fail))
                 (.asrt (.un .not (.bin .le (.un .len (.bin .idx (.fn 159 (.bin .cons (.var 14) .nil)) (.int 0))) (.var 20)))
                  (.br (.un .not (.bin .le (.un .len (.bin .idx (.bin .idx (.bin .idx (.fn 159 (.bin .cons (.var 14) .nil)) (.int 0)) (.bin .add (.int 0) (.var 20))) (.int 1))) (.var 21)))
                   (.asrt (.bin .le (.int 0) (.var 21))
                    (.br (.bin .eq (.bin .idx (.bin .idx (.bin .idx (.bin .idx (.bin .idx (.fn 159 (.bin .cons (.var 14) .nil)) (.int 0)) (.bin .add (.int 0) (.var 20))) (.int 1)) (.var 21)) (.int 0)) (.var 18))
                     (.asrt (.bin .le (.int 0) (.bin .idx (.fn 32 (.bin .cons (.var 0) (.bin .cons (.var 1) (.bin .cons (.var 2) (.bin .cons (.var 3) (.bin .cons (.var 4) (.bin .cons (.var 5) (.bin .cons (.var 6) (.bin .cons (.var 7) (.bin .cons (.var 8) (.bin .cons (.var 9) (.bin .cons (.var 10) (.bin .cons (.var 11) (.bin .cons (.var 12) (.bin .cons (.var 18) .nil))))))))))))))) (.int 0)))
                      (.asrt (.un .not (.bin .le (.var 12) (.bin .idx (.fn 32 (.bin .cons (.var 0) (.bin .cons (.var 1) (.bin .cons (.var 2) (.bin .cons (.var 3) (.bin .cons (.var 4) (.bin .cons (.var 5) (.bin .cons (.var 6) (.bin .cons (.var 7) (.bin .cons (.var 8) (.bin .cons (.var 9) (.bin .cons (.var 10) (.bin .cons (.var 11) (.bin .cons (.var 12) (.bin .cons (.var 18) .nil))))))))))))))) (.int 0))))
                       (.asrt (.un .not (.bin .le (.un .len (.var 19)) (.bin .add (.int 0) (.bin .idx (.fn 32 (.bin .cons (.var 0) (.bin .cons (.var 1) (.bin .cons (.var 2) (.bin .cons (.var 3) (.bin .cons (.var 4) (.bin .cons (.var 5) (.bin .cons (.var 6) (.bin .cons (.var 7) (.bin .cons (.var 8) (.bin .cons (.var 9) (.bin .cons (.var 10) (.bin .cons (.var 11) (.bin .cons (.var 12) (.bin .cons (.var 18) .nil))))))))))))))) (.int 0)))))
                        (.asrt (.bin .le (.int 0) (.bin .idx (.fn 31 (.bin .cons (.var 0) (.bin .cons (.var 1) (.bin .cons (.var 2) (.bin .cons (.var 3) (.bin .cons (.var 4) (.bin .cons (.var 5) (.bin .cons (.var 6) (.bin .cons (.var 7) (.bin .cons (.var 8) (.bin .cons (.var 9) (.bin .cons (.var 10) (.bin .cons (.var 11) (.bin .cons (.var 12) (.bin .cons (.var 18) .nil))))))))))))))) (.int 0)))
                         (.asrt (.un .not (.bin .le (.var 12) (.bin .idx (.fn 31 (.bin .cons (.var 0) (.bin .cons (.var 1) (.bin .cons (.var 2) (.bin .cons (.var 3) (.bin .cons (.var 4) (.bin .cons (.var 5) (.bin .cons (.var 6) (.bin .cons (.var 7) (.bin .cons (.var 8) (.bin .cons (.var 9) (.bin .cons (.var 10) (.bin .cons (.var 11) (.bin .cons (.var 12) (.bin .cons (.var 18) .nil))))))))))))))) (.int 0))))
                          (.asrt (.un .not (.bin .le (.un .len (.tri .set (.var 19) (.bin .add (.int 0) (.bin .idx (.fn 32 (.bin .cons (.var 0) (.bin .cons (.var 1) (.bin .cons (.var 2) (.bin .cons (.var 3) (.bin .cons (.var 4) (.bin .cons (.var 5) (.bin .cons (.var 6) (.bin .cons (.var 7) (.bin .cons (.var 8) (.bin .cons (.var 9) (.bin .cons (.var 10) (.bin .cons (.var 11) (.bin .cons (.var 12) (.bin .cons (.var 18) .nil))))))))))))))) (.int 0))) (.bin .idx (.bin .idx (.bin .idx (.bin .idx (.bin .idx (.fn 159 (.bin .cons (.var 14) .nil)) (.int 0)) (.bin .add (.int 0) (.var 20))) (.int 1)) (.var 21)) (.int 1)))) (.bin .add (.int 0) (.bin .idx (.fn 31 (.bin .cons (.var 0) (.bin .cons (.var 1) (.bin .cons (.var 2) (.bin .cons (.var 3) (.bin .cons (.var 4) (.bin .cons (.var 5) (.bin .cons (.var 6) (.bin .cons (.var 7) (.bin .cons (.var 8) (.bin .cons (.var 9) (.bin .cons (.var 10) (.bin .cons (.var 11) (.bin .cons (.var 12) (.bin .cons (.var 18) .nil))))))))))))))) (.int 0)))))
                           (.leaf [(.un (.wrap .i64) (.bin .add (.var 18) (.int 1))), (.tri .set (.tri .set (.var 19) (.bin .add (.int 0) (.bin .idx (.fn 32 (.bin .cons (.var 0) (.bin .cons (.var 1) (.bin .cons (.var 2) (.bin .cons (.var 3) (.bin .cons (.var 4) (.bin .cons (.var 5) (.bin .cons (.var 6) (.bin .cons (.var 7) (.bin .cons (.var 8) (.bin .cons (.var 9) (.bin .cons (.var 10) (.bin .cons (.var 11) (.bin .cons (.var 12) (.bin .cons (.var 18) .nil))))))))))))))) (.int 0))) (.bin .idx (.bin .idx (.bin .idx (.bin .idx (.bin .idx (.fn 159 (.bin .cons (.var 14) .nil)) (.int 0)) (.bin .add (.int 0) (.var 20))) (.int 1)) (.var 21)) (.int 1))) (.bin .add (.int 0) (.bin .idx (.fn 31 (.bin .cons (.var 0) (.bin .cons (.var 1) (.bin .cons (.var 2) (.bin .cons (.var 3) (.bin .cons (.var 4) (.bin .cons (.var 5) (.bin .cons (.var 6) (.bin .cons (.var 7) (.bin .cons (.var 8) (.bin .cons (.var 9) (.bin .cons (.var 10) (.bin .cons (.var 11) (.bin .cons (.var 12) (.bin .cons (.var 18) .nil))))))))))))))) (.int 0))) (.un (.wrap .i64) (.bin .mul (.int 2) (.bin .idx (.bin .idx (.bin .idx (.fn 159 (.bin .cons (.var 14) .nil)) (.int 0)) (.bin .add (.int 0) (.var 20))) (.int 0)))))])))))))
                     .fail))
                   .fail)))
                (.leaf [(.un (.wrap .i64) (.bin .add (.var 18) (.int 1))), (.var 19)]))))
             .fail)
            (.br (.un .not (.bin .le (.var 1) (.var 18)))
             (.br (.un .not (.bin .le (.un .len (.var 13)) (.var 18)))
              (.asrt (.bin .le (.int 0) (.var 18))
               (.asrt (.bin .le (.int 0) (.bin .idx (.fn 32 (.bin .cons (.var 0) (.bin .cons (.var 1) (.bin .cons (.var 2) (.bin .cons (.var 3) (.bin .cons (.var 4) (.bin .cons (.var 5) (.bin .cons (.var 6) (.bin .cons (.var 7) (.bin .cons (.var 8) (.bin .cons (.var 9) (.bin .cons (.var 10) (.bin .cons (.var 11) (.bin .cons (.var 12) (.bin .cons (.var 18) .nil))))))))))))))) (.int 0)))
                (.asrt (.un .not (.bin .le (.var 12) (.bin .idx (.fn 32 (.bin .cons (.var 0) (.bin .cons (.var 1) (.bin .cons (.var 2) (.bin .cons (.var 3) (.bin .cons (.var 4) (.bin .cons (.var 5) (.bin .cons (.var 6) (.bin .cons (.var 7) (.bin .cons (.var 8) (.bin .cons (.var 9) (.bin .cons (.var 10) (.bin .cons (.var 11) (.bin .cons (.var 12) (.bin .cons (.var 18) .nil))))))))))))))) (.int 0))))
                 (.asrt (.un .not (.bin .le (.un .len (.var 19)) (.bin .add (.int 0) (.bin .idx (.fn 32 (.bin .cons (.var 0) (.bin .cons (.var 1) (.bin .cons (.var 2) (.bin .cons (.var 3) (.bin .cons (.var 4) (.bin .cons (.var 5) (.bin .cons (.var 6) (.bin .cons (.var 7) (.bin .cons (.var 8) (.bin .cons (.var 9) (.bin .cons (.var 10) (.bin .cons (.var 11) (.bin .cons (.var 12) (.bin .cons (.var 18) .nil))))))))))))))) (.int 0)))))
                  (.loop 20 [(.un (.wrap .i64) (.bin .sub (.un .len (.bin .idx (.fn 159 (.bin .cons (.var 14) .nil)) (.int 0))) (.int 1)))]
                   (.br (.bin .le (.int 0) (.var 20))
                    (.loop 21 [(.int 0)]
                     (.asrt (.un .not (.bin .le (.un .len (.bin .idx (.fn 159 (.bin .cons (.var 14) .nil)) (.int 0))) (.var 20)))
                      (.br (.un .not (.bin .le (.un .len (.bin .idx (.bin .idx (.bin .idx (.fn 159 (.bin .cons (.var 14) .nil)) (.int 0)) (.bin .add (.int 0) (.var 20))) (.int 1))) (.var 21)))
                       (.asrt (.bin .le (.int 0) (.var 21))
                        (.br (.bin .eq (.bin .idx (.bin .idx (.bin .idx (.bin .idx (.bin .idx (.fn 159 (.bin .cons (.var 14) .nil)) (.int 0)) (.bin .add (.int 0) (.var 20))) (.int 1)) (.var 21)) (.int 0)) (.var 18))
                         .fail
                         (.leaf [(.un (.wrap .i64) (.bin .add (.var 21) (.int 1)))])))
                       .fail))
                     (.asrt (.un .not (.bin .le (.un .len (.bin .idx (.fn 159 (.bin .cons (.var 14) .nil)) (.int 0))) (.var 20)))
                      (.br (.un .not (.bin .le (.un .len (.bin .idx (.bin .idx (.bin .idx (.fn 159 (.bin .cons (.var 14) .nil)) (.int 0)) (.bin .add (.int 0) (.var 20))) (.int 1))) (.var 21)))
                       (.asrt (.bin .le (.int 0) (.var 21))
                        .fail)
                       (.leaf [(.un (.wrap .i64) (.bin .sub (.var 20) (.int 1)))]))))
                    .fail)
                   (.br (.bin .le (.int 0) (.var 20))
                    (.loop 21 [(.int 0)]
                     (.asrt (.un .not (.bin .le (.un .len (.bin .idx (.fn 159 (.bin .cons (.var 14) .nil)) (.int 0))) (.var 20)))
                      (.br (.un .not (.bin .le (.un .len (.bin .idx (.bin .idx (.bin .idx (.fn 159 (.bin .cons (.var 14) .nil)) (.int 0)) (.bin .add (.int 0) (.var 20))) (.int 1))) (.var 21)))
                       (.asrt (.bin .le (.int 0) (.var 21))
                        (.br (.bin .eq (.bin .idx (.bin .idx (.bin .idx (.bin .idx (.bin .idx (.fn 159 (.bin .cons (.var 14) .nil)) (.int 0)) (.bin .add (.int 0) (.var 20))) (.int 1)) (.var 21)) (.int 0)) (.var 18))
                         .fail
                         (.leaf [(.un (.wrap .i64) (.bin .add (.var 21) (.int 1)))])))
                       .fail))
                     (.asrt (.un .not (.bin .le (.un .len (.bin .idx (.fn 159 (.bin .cons (.var 14) .nil)) (.int 0))) (.var 20)))
                      (.br (.un .not (.bin .le (.un .len (.bin .idx (.bin .idx (.bin .idx (.fn 159 (.bin .cons (.var 14) .nil)) (.int 0)) (.bin .add (.int 0) (.var 20))) (.int 1))) (.var 21)))
                       (.asrt (.bin .le (.int 0) (.var 21))
                        (.br (.bin .eq (.bin .idx (.bin .idx (.bin .idx (.bin .idx (.bin .idx (.fn 159 (.bin .cons (.var 14) .nil)) (.int 0)) (.bin .add (.int 0) (.var 20))) (.int 1)) (.var 21)) (.int 0)) (.var 18))
                         (.asrt (.un .not (.bin .le (.un .len (.tri .set (.var 19) (.bin .add (.int 0) (.bin .idx (.fn 32 (.bin .cons (.var 0) (.bin .cons (.var 1) (.bin .cons (.var 2) (.bin .cons (.var 3) (.bin .cons (.var 4) (.bin .cons (.var 5) (.bin .cons (.var 6) (.bin .cons (.var 7) (.bin .cons (.var 8) (.bin .cons (.var 9) (.bin .cons (.var 10) (.bin .cons (.var 11) (.bin .cons (.var 12) (.bin .cons (.var 18) .nil))))))))))))))) (.int 0))) (.bin .idx (.var 13) (.bin .add (.int 0) (.var 18))))) (.bin .add (.int 0) (.bin .idx (.fn 32 (.bin .cons (.var 0) (.bin .cons (.var 1) (.bin .cons (.var 2) (.bin .cons (.var 3) (.bin .cons (.var 4) (.bin .cons (.var 5) (.bin .cons (.var 6) (.bin .cons (.var 7) (.bin .cons (.var 8) (.bin .cons (.var 9) (.bin .cons (.var 10) (.bin .cons (.var 11) (.bin .cons (.var 12) (.bin .cons (.var 18) .nil))))))))))))))) (.int 0)))))
                          (.asrt (.bin .le (.int 0) (.bin .idx (.fn 31 (.bin .cons (.var 0) (.bin .cons (.var 1) (.bin .cons (.var 2) (.bin .cons (.var 3) (.bin .cons (.var 4) (.bin .cons (.var 5) (.bin .cons (.var 6) (.bin .cons (.var 7) (.bin .cons (.var 8) (.bin .cons (.var 9) (.bin .cons (.var 10) (.bin .cons (.var 11) (.bin .cons (.var 12) (.bin .cons (.var 18) .nil))))))))))))))) (.int 0)))
                           (.asrt (.un .not (.bin .le (.var 12) (.bin .idx (.fn 31 (.bin .cons (.var 0) (.bin .cons (.var 1) (.bin .cons (.var 2) (.bin .cons (.var 3) (.bin .cons (.var 4) (.bin .cons (.var 5) (.bin .cons (.var 6) (.bin .cons (.var 7) (.bin .cons (.var 8) (.bin .cons (.var 9) (.bin .cons (.var 10) (.bin .cons (.var 11) (.bin .cons (.var 12) (.bin .cons (.var 18) .nil))))))))))))))) (.int 0))))
                            (.asrt (.un .not (.bin .le (.un .len (.tri .set (.tri .set (.var 19) (.bin .add (.int 0) (.bin .idx (.fn 32 (.bin .cons (.var 0) (.bin .cons (.var 1) (.bin .cons (.var 2) (.bin .cons (.var 3) (.bin .cons (.var 4) (.bin .cons (.var 5) (.bin .cons (.var 6) (.bin .cons (.var 7) (.bin .cons (.var 8) (.bin .cons (.var 9) (.bin .cons (.var 10) (.bin .cons (.var 11) (.bin .cons (.var 12) (.bin .cons (.var 18) .nil))))))))))))))) (.int 0))) (.bin .idx (.var 13) (.bin .add (.int 0) (.var 18)))) (.bin .add (.int 0) (.bin .idx (.fn 32 (.bin .cons (.var 0) (.bin .cons (.var 1) (.bin .cons (.var 2) (.bin .cons (.var 3) (.bin .cons (.var 4) (.bin .cons (.var 5) (.bin .cons (.var 6) (.bin .cons (.var 7) (.bin .cons (.var 8) (.bin .cons (.var 9) (.bin .cons (.var 10) (.bin .cons (.var 11) (.bin .cons (.var 12) (.bin .cons (.var 18) .nil))))))))))))))) (.int 0))) (.bin .idx (.bin .idx (.bin .idx (.bin .idx (.bin .idx (.fn 159 (.bin .cons (.var 14) .nil)) (.int 0)) (.bin .add (.int 0) (.var 20))) (.int 1)) (.var 21)) (.int 1)))) (.bin .add (.int 0) (.bin .idx (.fn 31 (.bin .cons (.var 0) (.bin .cons (.var 1) (.bin .cons (.var 2) (.bin .cons (.var 3) (.bin .cons (.var 4) (.bin .cons (.var 5) (.bin .cons (.var 6) (.bin .cons (.var 7) (.bin .cons (.var 8) (.bin .cons (.var 9) (.bin .cons (.var 10) (.bin .cons (.var 11) (.bin .cons (.var 12) (.bin .cons (.var 18) .nil))))))))))))))) (.int 0)))))
                             .fail))))
                         .fail))
                       .fail)))
                    .fail))))))
              (.loop 20 [(.un (.wrap .i64) (.bin .sub (.un .len (.bin .idx (.fn 159 (.bin .cons (.var 14) .nil)) (.int 0))) (.int 1)))]
               (.br (.bin .le (.int 0) (.var 20))
                (.loop 21 [(.int 0)]
                 (.asrt (.un .not (.bin .le (.un .len (.bin .idx (.fn 159 (.bin .cons (.var 14) .nil)) (.int 0))) (.var 20)))
                  (.br (.un .not (.bin .le (.un .len (.bin .idx (.bin .idx (.bin .idx (.fn 159 (.bin .cons (.var 14) .nil)) (.int 0)) (.bin .add (.int 0) (.var 20))) (.int 1))) (.var 21)))
                   (.asrt (.bin .le (.int 0) (.var 21))
                    (.br (.bin .eq (.bin .idx (.bin .idx (.bin .idx (.bin .idx (.bin .idx (.fn 159 (.bin .cons (.var 14) .nil)) (.int 0)) (.bin .add (.int 0) (.var 20))) (.int 1)) (.var 21)) (.int 0)) (.var 18))
                     .fail
                     (.leaf [(.un (.wrap .i64) (.bin .add (.var 21) (.int 1)))])))
                   .fail))
                 (.asrt (.un .not (.bin .le (.un .len (.bin .idx (.fn 159 (.bin .cons (.var 14) .nil)) (.int 0))) (.var 20)))
                  (.br (.un .not (.bin .le (.un .len (.bin .idx (.bin .idx (.bin .idx (.fn 159 (.bin .cons (.var 14) .nil)) (.int 0)) (.bin .add (.int 0) (.var 20))) (.int 1))) (.var 21)))
                   (.asrt (.bin .le (.int 0) (.var 21))
                    .fail)
                   (.leaf [(.un (.wrap .i64) (.bin .sub (.var 20) (.int 1)))]))))
                .fail)
               (.br (.bin .le (.int 0) (.var 20))
                (.loop 21 [(.int 0)]
                 (.asrt (.un .not (.bin .le (.un .len (.bin .idx (.fn 159 (.bin .cons (.var 14) .nil)) (.int 0))) (.var 20)))
                  (.br (.un .not (.bin .le (.un .len (.bin .idx (.bin .idx (.bin .idx (.fn 159 (.bin .cons (.var 14) .nil)) (.int 0)) (.bin .add (.int 0) (.var 20))) (.int 1))) (.var 21)))
                   (.asrt (.bin .le (.int 0) (.var 21))
                    (.br (.bin .eq (.bin .idx (.bin .idx (.bin .idx (.bin .idx (.bin .idx (.fn 159 (.bin .cons (.var 14) .nil)) (.int 0)) (.bin .add (.int 0) (.var 20))) (.int 1)) (.var 21)) (.int 0)) (.var 18))
                     .fail
                     (.leaf [(.un (.wrap .i64) (.bin .add (.var 21) (.int 1)))])))
                   .fail))
                 (.asrt (.un .not (.bin .le (.un .len (.bin .idx (.fn 159 (.bin .cons (.var 14) .nil)) (.int 0))) (.var 20)))
                  (.br (.un .not (.bin .le (.un .len (.bin .idx (.bin .idx (.bin .idx (.fn 159 (.bin .cons (.var 14) .nil)) (.int 0)) (.bin .add (.int 0) (.var 20))) (.int 1))) (.var 21)))
                   (.asrt (.bin .le (.int 0) (.var 21))
                    (.br (.bin .eq (.bin .idx (.bin .idx (.bin .idx (.bin .idx (.bin .idx (.fn 159 (.bin .cons (.var 14) .nil)) (.int 0)) (.bin .add (.int 0) (.var 20))) (.int 1)) (.var 21)) (.int 0)) (.var 18))
                     (.asrt (.bin .le (.int 0) (.bin .idx (.fn 32 (.bin .cons (.var 0) (.bin .cons (.var 1) (.bin .cons (.var 2) (.bin .cons (.var 3) (.bin .cons (.var 4) (.bin .cons (.var 5) (.bin .cons (.var 6) (.bin .cons (.var 7) (.bin .cons (.var 8) (.bin .cons (.var 9) (.bin .cons (.var 10) (.bin .cons (.var 11) (.bin .cons (.var 12) (.bin .cons (.var 18) .nil))))))))))))))) (.int 0)))
                      (.asrt (.un .not (.bin .le (.var 12) (.bin .idx (.fn 32 (.bin .cons (.var 0) (.bin .cons (.var 1) (.bin .cons (.var 2) (.bin .cons (.var 3) (.bin .cons (.var 4) (.bin .cons (.var 5) (.bin .cons (.var 6) (.bin .cons (.var 7) (.bin .cons (.var 8) (.bin .cons (.var 9) (.bin .cons (.var 10) (.bin .cons (.var 11) (.bin .cons (.var 12) (.bin .cons (.var 18) .nil))))))))))))))) (.int 0))))
                       (.asrt (.un .not (.bin .le (.un .len (.var 19)) (.bin .add (.int 0) (.bin .idx (.fn 32 (.bin .cons (.var 0) (.bin .cons (.var 1) (.bin .cons (.var 2) (.bin .cons (.var 3) (.bin .cons (.var 4) (.bin .cons (.var 5) (.bin .cons (.var 6) (.bin .cons (.var 7) (.bin .cons (.var 8) (.bin .cons (.var 9) (.bin .cons (.var 10) (.bin .cons (.var 11) (.bin .cons (.var 12) (.bin .cons (.var 18) .nil))))))))))))))) (.int 0)))))
                        (.asrt (.bin .le (.int 0) (.bin .idx (.fn 31 (.bin .cons (.var 0) (.bin .cons (.var 1) (.bin .cons (.var 2) (.bin .cons (.var 3) (.bin .cons (.var 4) (.bin .cons (.var 5) (.bin .cons (.var 6) (.bin .cons (.var 7) (.bin .cons (.var 8) (.bin .cons (.var 9) (.bin .cons (.var 10) (.bin .cons (.var 11) (.bin .cons (.var 12) (.bin .cons (.var 18) .nil))))))))))))))) (.int 0)))
                         (.asrt (.un .not (.bin .le (.var 12) (.bin .idx (.fn 31 (.bin .cons (.var 0) (.bin .cons (.var 1) (.bin .cons (.var 2) (.bin .cons (.var 3) (.bin .cons (.var 4) (.bin .cons (.var 5) (.bin .cons (.var 6) (.bin .cons (.var 7) (.bin .cons (.var 8) (.bin .cons (.var 9) (.bin .cons (.var 10) (.bin .cons (.var 11) (.bin .cons (.var 12) (.bin .cons (.var 18) .nil))))))))))))))) (.int 0))))
                          (.asrt (.un .not (.bin .le (.un .len (.tri .set (.var 19) (.bin .add (.int 0) (.bin .idx (.fn 32 (.bin .cons (.var 0) (.bin .cons (.var 1) (.bin .cons (.var 2) (.bin .cons (.var 3) (.bin .cons (.var 4) (.bin .cons (.var 5) (.bin .cons (.var 6) (.bin .cons (.var 7) (.bin .cons (.var 8) (.bin .cons (.var 9) (.bin .cons (.var 10) (.bin .cons (.var 11) (.bin .cons (.var 12) (.bin .cons (.var 18) .nil))))))))))))))) (.int 0))) (.bin .idx (.bin .idx (.bin .idx (.bin .idx (.bin .idx (.fn 159 (.bin .cons (.var 14) .nil)) (.int 0)) (.bin .add (.int 0) (.var 20))) (.int 1)) (.var 21)) (.int 1)))) (.bin .add (.int 0) (.bin .idx (.fn 31 (.bin .cons (.var 0) (.bin .cons (.var 1) (.bin .cons (.var 2) (.bin .cons (.var 3) (.bin .cons (.var 4) (.bin .cons (.var 5) (.bin .cons (.var 6) (.bin .cons (.var 7) (.bin .cons (.var 8) (.bin .cons (.var 9) (.bin .cons (.var 10) (.bin .cons (.var 11) (.bin .cons (.var 12) (.bin .cons (.var 18) .nil))))))))))))))) (.int 0)))))
                           .fail))))))
                     .fail))
                   .fail)))
                .fail)))
             (.asrt (.bin .le (.bin .add (.int 0) (.var 12)) (.un .len (.var 19)))
              (.leaf [(.bin .take (.bin .drop (.var 19) (.int 0)) (.var 12)), (.bin .idx (.fn 159 (.bin .cons (.var 14) .nil)) (.int 0))])))))))))))))))
def rBootSm : List (Nat × Smy) := [(13, ⟨159, [.one (.rows false [.str])], [.one (.nst [.pl (.int .i64), .sub [.int .i64, .int .i64]]), .one (.pl (.int .i64))], lenC [(0, 1000)], none⟩), (34, ⟨32, [.agg [.pl (.int .i64), .pl (.int .i64), .pl (.int .i64), .pl (.int .i64), .pl (.int .i64), .pl (.int .i64), .pl (.int .i64), .pl (.int .i64), .pl (.int .i64), .pl (.int .i64), .pl (.int .i64), .pl (.int .i64), .pl (.int .i64)], .one (.pl (.int .i64))], [.one (.pl (.int .i64))], fun _ => [], none⟩), (35, ⟨31, [.agg [.pl (.int .i64), .pl (.int .i64), .pl (.int .i64), .pl (.int .i64), .pl (.int .i64), .pl (.int .i64), .pl (.int .i64), .pl (.int .i64), .pl (.int .i64), .pl (.int .i64), .pl (.int .i64), .pl (.int .i64), .pl (.int .i64)], .one (.pl (.int .i64))], [.one (.pl (.int .i64))], fun _ => [], none⟩)]
def rBootLa : List (LK × LA) := [(⟨99, 10, 23, 18, 10⟩, ⟨[(12, (.int .i64 (.var 18))), (13, .any), (14, .any), (15, .any), (52, .any), (53, .any), (54, .any), (55, .any), (56, .any), (57, .any), (58, .any), (59, .any), (60, .any), (61, .any), (62, .any), (63, .any), (64, .any), (65, .any), (66, .any), (67, .any), (68, .any), (69, .any), (70, .any), (71, .any), (72, .any), (73, .any), (74, .any), (75, .any), (76, .any), (77, .any), (78, .any), (79, .any), (80, .any), (81, .any), (82, .any), (83, .any), (84, .any), (85, .any), (86, .any), (87, .any), (88, .any), (89, .any), (90, .any), (91, .any), (92, .any), (93, .any), (94, .any), (95, .any), (96, .any)], [(21, (.rows [.int .i64] (.var 19)))], [], 2, 0⟩),
  (⟨51, 2, 24, 20, 12⟩, ⟨[(7, (.int .i64 (.var 20))), (8, .any), (12, .any), (13, .any), (14, .any), (15, .any), (16, .any), (17, .any), (18, .any), (19, .any), (20, .any), (21, .any), (22, .any), (23, .any), (24, .any), (25, .any), (26, .any), (27, .any), (28, .any), (29, .any), (30, .any), (31, .any), (32, .any), (33, .any), (34, .any), (35, .any), (36, .any), (37, .any), (38, .any), (39, .any), (40, .any), (41, .any), (42, .any), (43, .any), (44, .any), (45, .any), (46, .any), (47, .any), (48, .any), (49, .any)], [], [], 1, 0⟩),
  (⟨51, 5, 24, 21, 13⟩, ⟨[(8, (.int .i64 (.var 21))), (16, .any), (17, .any), (18, .any), (19, .any), (20, .any), (21, .any), (22, .any), (23, .any), (24, .any), (25, .any), (26, .any), (27, .any), (28, .any), (29, .any), (30, .any), (31, .any), (32, .any), (33, .any), (34, .any), (35, .any), (36, .any), (37, .any), (38, .any), (39, .any), (40, .any), (41, .any), (42, .any), (43, .any), (44, .any), (45, .any), (46, .any), (47, .any), (48, .any), (49, .any)], [], [], 1, 0⟩),
  (⟨51, 2, 35, 20, 16⟩, ⟨[(7, (.int .i64 (.var 20))), (8, .any), (12, .any), (13, .any), (14, .any), (15, .any), (16, .any), (17, .any), (18, .any), (19, .any), (20, .any), (21, .any), (22, .any), (23, .any), (24, .any), (25, .any), (26, .any), (27, .any), (28, .any), (29, .any), (30, .any), (31, .any), (32, .any), (33, .any), (34, .any), (35, .any), (36, .any), (37, .any), (38, .any), (39, .any), (40, .any), (41, .any), (42, .any), (43, .any), (44, .any), (45, .any), (46, .any), (47, .any), (48, .any), (49, .any)], [], [], 1, 0⟩),
  (⟨51, 5, 35, 21, 17⟩, ⟨[(8, (.int .i64 (.var 21))), (16, .any), (17, .any), (18, .any), (19, .any), (20, .any), (21, .any), (22, .any), (23, .any), (24, .any), (25, .any), (26, .any), (27, .any), (28, .any), (29, .any), (30, .any), (31, .any), (32, .any), (33, .any), (34, .any), (35, .any), (36, .any), (37, .any), (38, .any), (39, .any), (40, .any), (41, .any), (42, .any), (43, .any), (44, .any), (45, .any), (46, .any), (47, .any), (48, .any), (49, .any)], [], [], 1, 0⟩),
  (⟨99, 6, 23, 16, 9⟩, ⟨[(11, (.int .i64 (.var 16))), (36, .any), (37, .any), (38, .any), (39, .any), (40, .any), (41, .any), (42, .any), (43, .any), (44, .any), (45, .any), (46, .any), (47, .any), (48, .any), (49, .any), (50, .any), (51, .any)], [(21, (.rows [.int .i64] (.var 17)))], [], 2, 0⟩)]
def rBootPhi : Fs := ⟨fun n d => match n with
  | 159 => .list (r3RecoverF d.l)
  | 32 => .list (rValF d.l)
  | 31 => .list (rWordF d.l)
  | _ => d, 147⟩
theorem rBootS : SmyOk true Tryd.prog rBootPhi rBootSm := (smy_cons (lenP [(0, 1000)]) r3RecoverF r3Recover_pure (len_hp [(0, 1000)]) (fun _ => rfl) (fun _ h => by cases h) (smy_cons (fun _ => True) rValF rVal_pure (fun _ _ _ _ => trivial) (fun _ => rfl) (fun _ h => by cases h) (smy_cons (fun _ => True) rWordF rWord_pure (fun _ _ _ _ => trivial) (fun _ => rfl) (fun _ h => by cases h) smy_nil)))
theorem rBootT : treeOk ⟨Tryd.prog, rBootSm, rBootLa, true⟩ 4000 24 [.agg [.pl (.int .i64), .pl (.int .i64), .pl (.int .i64), .pl (.int .i64), .pl (.int .i64), .pl (.int .i64), .pl (.int .i64), .pl (.int .i64), .pl (.int .i64), .pl (.int .i64), .pl (.int .i64), .pl (.int .i64), .pl (.int .i64)], .one (.rows false [.int .i64]), .agg [.rows false [.str], .rows false [.int .i64, .str]]] [.agg [.rows false [.int .i64]], .one (.nst [.pl (.int .i64), .sub [.int .i64, .int .i64]])] ([]) rBootTree = true := by decide +kernel
set_option maxHeartbeats 1000000 in
theorem rBoot_pure : PureE true Tryd.prog 24 [.agg [.pl (.int .i64), .pl (.int .i64), .pl (.int .i64), .pl (.int .i64), .pl (.int .i64), .pl (.int .i64), .pl (.int .i64), .pl (.int .i64), .pl (.int .i64), .pl (.int .i64), .pl (.int .i64), .pl (.int .i64), .pl (.int .i64)], .one (.rows false [.int .i64]), .agg [.rows false [.str], .rows false [.int .i64, .str]]] [.agg [.rows false [.int .i64]], .one (.nst [.pl (.int .i64), .sub [.int .i64, .int .i64]])] (fun ds => (fun ds => lenP [(13, 1000000), (14, 1000), (15, 1000000)] ds ∧ rgeP [(1, 0, 32), (5, 0, 0), (6, 1, 1), (8, 3, 3), (11, 4, 60), (12, 4, 300)] ds) ds ∧ lyP ds) rBootF := by
  refine pure_tree (X := ⟨Tryd.prog, rBootSm, rBootLa, true⟩) (by decide +kernel) (Checked.mixed Tryd.checked) rBootS (by decide +kernel) (by decide +kernel) rBootT (by decide +kernel) ?_
  intro ds hl hp
  obtain ⟨d0, d1, d2, d3, d4, d5, d6, d7, d8, d9, d10, d11, d12, d13, d14, d15, rfl⟩ := len16 hl
  have hy : d11.i + 4 * d1.i ≤ d12.i := hp.2
  have b13 : (d13.l.length : Int) ≤ 1000000 := hp.1.1 (13, 1000000) (by simp)
  have b14 : (d14.l.length : Int) ≤ 1000 := hp.1.1 (14, 1000) (by simp)
  have b15 : (d15.l.length : Int) ≤ 1000000 := hp.1.1 (15, 1000000) (by simp)
  have r1 : 0 ≤ d1.i ∧ d1.i ≤ 32 := hp.1.2 (1, 0, 32) (by simp)
  have r5 : 0 ≤ d5.i ∧ d5.i ≤ 0 := hp.1.2 (5, 0, 0) (by simp)
  have r6 : 1 ≤ d6.i ∧ d6.i ≤ 1 := hp.1.2 (6, 1, 1) (by simp)
  have r8 : 3 ≤ d8.i ∧ d8.i ≤ 3 := hp.1.2 (8, 3, 3) (by simp)
  have r11 : 4 ≤ d11.i ∧ d11.i ≤ 60 := hp.1.2 (11, 4, 60) (by simp)
  have r12 : 4 ≤ d12.i ∧ d12.i ≤ 300 := hp.1.2 (12, 4, 300) (by simp)
  have hF : rBootF [d0, d1, d2, d3, d4, d5, d6, d7, d8, d9, d10, d11, d12, d13, d14, d15] = rBootE d0.i d1.i d2.i d3.i d4.i d5.i d6.i d7.i d8.i d9.i d10.i d11.i d12.i (d13.l.map DV.i) (d14.l.map DV.s) (d15.l.map decis) := rfl
  rw [hF]
  clear hF hp hl
  have hN : nrmL (clsOf [.agg [.pl (.int .i64), .pl (.int .i64), .pl (.int .i64), .pl (.int .i64), .pl (.int .i64), .pl (.int .i64), .pl (.int .i64), .pl (.int .i64), .pl (.int .i64), .pl (.int .i64), .pl (.int .i64), .pl (.int .i64), .pl (.int .i64)], .one (.rows false [.int .i64]), .agg [.rows false [.str], .rows false [.int .i64, .str]]]) [d0, d1, d2, d3, d4, d5, d6, d7, d8, d9, d10, d11, d12, d13, d14, d15] = [.int d0.i, .int d1.i, .int d2.i, .int d3.i, .int d4.i, .int d5.i, .int d6.i, .int d7.i, .int d8.i, .int d9.i, .int d10.i, .int d11.i, .int d12.i, .list ((d13.l.map DV.i).map DV.int), .list ((d14.l.map DV.s).map DV.str), .list ((d15.l.map decis).map encis)] := by
    simp only [clsOf, Sh.cls, List.append_nil, List.cons_append, List.nil_append, nrmL, Cl.nrm, CK.nrm, map_Li, map_Lis, map_Ls]
  rw [hN]
  clear hN
  generalize d0.i = x0
  generalize d1.i = x1 at r1 hy ⊢
  generalize d2.i = x2
  generalize d3.i = x3
  generalize d4.i = x4
  generalize d5.i = x5 at r5 ⊢
  generalize d6.i = x6 at r6 ⊢
  generalize d7.i = x7
  generalize d8.i = x8 at r8 ⊢
  generalize d9.i = x9
  generalize d10.i = x10
  generalize d11.i = x11 at r11 hy ⊢
  generalize d12.i = x12 at r12 hy ⊢
  rw [← List.length_map (f := DV.i)] at b13
  generalize d13.l.map DV.i = x13 at b13 ⊢
  rw [← List.length_map (f := DV.s)] at b14
  generalize d14.l.map DV.s = x14 at b14 ⊢
  rw [← List.length_map (f := decis)] at b15
  generalize d15.l.map decis = x15 at b15 ⊢
  refine ⟨facts_nil _, ?_⟩
  unfold rBootTree rBootE
  obtain rfl : x5 = 0 := by omega
  obtain rfl : x6 = 1 := by omega
  obtain rfl : x8 = 3 := by omega
  obtain ⟨N, rfl⟩ : ∃ N : Nat, x12 = N := ⟨x12.toNat, by omega⟩
  obtain ⟨L, rfl⟩ : ∃ L : Nat, x1 = L := ⟨x1.toNat, by omega⟩
  have hrl := recover_len x14
  have hrw := recover_w x14
  simp only [Sat, clsOf, Sh.cls, List.append_nil, List.cons_append, List.nil_append, nrmL, Cl.nrm, List.map_cons, List.map_nil, List.length_cons, List.length_nil, List.cons.injEq, DV.list.injEq, and_true, true_and]
  try simp only [q_le, q_eq, q_not, iff_true, iff_false, Bool.not_true, Bool.not_false, Bool.false_eq_true, eq_self]
  simp only [SE.den, evU, evT, ev_add, ev_sub, ev_mul, ev_idx, ev_cons, ev_take, ev_drop, ev_rep, i_int, l_list, envL, List.getElem?_cons_succ, List.getElem?_cons_zero, Option.getD_some, Int.toNat_natCast, Int.toNat_zero, Int.reduceToNat, List.length_map, rows_i, Int.zero_add, and_true, eq_self, List.length_replicate, f_En_0, rows_En, f_En_1, rows_En, rBootPhi, r3RecoverF, r3RecoverE, rValF, rValE, rWordF, rWordE, gi, gLs, dece_s, List.length_set]
  generalize recoverM x14 = rc at *
  obtain ⟨es, en⟩ := rc
  dsimp only at hrl hrw ⊢
  have hV : ∀ j : Nat, j < L → placeM x11 L j 4 1 = x11 + 4 * j + 1 := fun j hj => place_in (by omega) (by omega) (by omega) (by omega) (by omega) (by omega)
  have hW : ∀ j : Nat, j < L → placeM x11 L j 4 0 = x11 + 4 * j + 0 := fun j hj => place_in (by omega) (by omega) (by omega) (by omega) (by omega) (by omega)
  have hwl : IntKind.i64.wrap ((es.length : Int) - 1) = es.length - 1 := w64 (by omega) (by omega)
  have hsh : ∀ v : Int, IntKind.i64.wrap (2 * v) = freeM v := fun v => rfl
  refine ⟨b14, by omega, by omega, by omega, by omega, by omega, by omega, by omega, by omega, ?_⟩
  refine rounds_at es.length (fun i => [.int i, .list ((cellsG N x11 L (clkM (es.take i)) 1 en (fun _ => 0) (fun _ => 0)).map DV.int)]) ?_ (fun _ => rfl) (fun i hi => ?_) ?_
  · rw [show (List.replicate N (DV.int 0)) = (List.replicate N (0 : Int)).map DV.int by rw [List.map_replicate], set_Li, set_Li, cells_zero N x11 L, set_sp, set_en]
    rfl
  · have hwi : IntKind.i64.wrap ((i : Int) + 1) = ((i + 1 : Nat) : Int) := by rw [w64 (by omega) (by omega)]; omega
    simp only [i_int, l_list, List.getElem?_cons_succ, List.getElem?_cons_zero, Option.getD_some, Int.toNat_natCast, List.length_map, set_Li, inj_Li, and_true, true_and, eq_self, DV.list.injEq, List.cons.injEq, hwi, cells_len, raw_En_0]
    exact ⟨fun _ => ⟨by omega, by omega, by omega, by omega, by rw [set_ck, clk_take hi]⟩, fun h => absurd h (by omega)⟩
  · rw [List.take_length]
    simp only [i_int, l_list, List.getElem?_cons_succ, List.getElem?_cons_zero, Option.getD_some, List.length_map, List.cons_append, List.nil_append, cells_len]
    refine ⟨fun h => absurd (Int.le_refl _) h, fun _ => ⟨rfl, ?_⟩⟩
    refine rounds_at L (fun j => [.int j, .list ((stageR N x11 L x13 es en j).map DV.int)]) ?_ (fun _ => rfl) (fun j hj => ?_) ?_
    · rw [show cellsG N x11 L (clkM es) 1 en (fun _ => 0) (fun _ => 0) = stageR N x11 L x13 es en 0 from cells_congr (fun k h0 h1 => by rw [if_neg (by omega)]) (fun k h0 h1 => by rw [if_neg (by omega)])]
      rfl
    · have hwj : IntKind.i64.wrap ((j : Int) + 1) = ((j + 1 : Nat) : Int) := by rw [w64 (by omega) (by omega)]; omega
      simp only [i_int, l_list, List.getElem?_cons_succ, List.getElem?_cons_zero, Option.getD_some, Int.toNat_natCast, List.length_map, inj_Li, and_true, true_and, eq_self, DV.list.injEq, List.cons.injEq, List.cons_append, List.nil_append, hwl, hV j hj, hW j hj, hsh, hwj, stageR_len]
      refine ⟨fun _ => ⟨fun hf => ⟨by omega, by omega, by omega, by omega, rfl, ?_⟩, fun hf => ⟨rfl, ?_⟩⟩, fun h => absurd h (by omega)⟩
      all_goals
        refine last_loop es j (fun i hi hno => ?_) (fun hn => ?_) (fun i q hi hq hno hk hlast => ?_)
        · have hwi : IntKind.i64.wrap ((i : Int) - 1) = i - 1 := w64 (by omega) (by omega)
          simp only [i_int, List.getElem?_cons_succ, List.getElem?_cons_zero, Option.getD_some, Int.toNat_natCast, eq_self, List.cons_append, List.nil_append, f_ii_0, hwi]
          refine ⟨fun _ => ⟨rfl, ?_⟩, fun h => absurd (by omega) h⟩
          have := hrw i
          refine scan_loop (Nat.le_refl _) hno (fun t ht hne => ?_) ?_
          · simp only [i_int, List.getElem?_cons_zero, Option.getD_some, Int.toNat_natCast, and_true, eq_self, DV.int.injEq, List.cons.injEq, w64 (n := (t : Int) + 1) (by omega) (by omega)]
            exact ⟨by omega, fun _ => ⟨by omega, hne, fun _ => by omega⟩, fun h => absurd h (by omega)⟩
          · simp only [i_int, List.getElem?_cons_zero, Option.getD_some]
            exact ⟨by omega, fun h => absurd (Int.le_refl _) h, fun _ => trivial⟩
        · simp only [i_int, List.getElem?_cons_succ, List.getElem?_cons_zero, Option.getD_some, Int.reduceToNat, List.cons_append, List.nil_append]
          refine ⟨fun h => absurd h (by omega), fun _ => ?_⟩
          first
            | (rw [get_dv, set_Li, stageR_first hn (by omega) (by omega)])
            | exact (stageR_none hn (by omega)).symm
        · have hwi : IntKind.i64.wrap ((i : Int) - 1) = i - 1 := w64 (by omega) (by omega)
          simp only [i_int, List.getElem?_cons_succ, List.getElem?_cons_zero, Option.getD_some, Int.toNat_natCast, set_Li, inj_Li, List.cons_append, List.nil_append, f_ii_0, raw_ii_1]
          refine ⟨fun _ => ⟨rfl, ?_⟩, fun h => absurd (by omega) h⟩
          have := hrw i
          refine scan_loop (j := q) (by omega) hno (fun t ht hne => ?_) ?_
          · simp only [i_int, List.getElem?_cons_zero, Option.getD_some, Int.toNat_natCast, and_true, eq_self, DV.int.injEq, List.cons.injEq, w64 (n := (t : Int) + 1) (by omega) (by omega)]
            exact ⟨by omega, fun _ => ⟨by omega, hne, fun _ => by omega⟩, fun h => absurd h (by omega)⟩
          · simp only [i_int, List.getElem?_cons_zero, Option.getD_some, Int.toNat_natCast]
            have hst := stageR_some (n := N) (base := x11) (locs := L) (first := x13) (en := en) hlast (by omega) (by omega)
            have he : x11 + 4 * (j : Int) + 0 = x11 + 4 * j := by omega
            first
              | (rw [get_dv, set_Li, set_Li, set_Li, set_twice, he, hst]
                 exact ⟨by omega, fun _ => ⟨by omega, fun _ => ⟨by omega, by omega, by omega, by omega, rfl⟩, fun h => h hk⟩, fun h => absurd h (by omega)⟩)
              | (rw [he, hst]
                 exact ⟨by omega, fun _ => ⟨by omega, fun _ => ⟨by omega, by omega, by omega, by omega, by omega, by omega, rfl⟩, fun h => h hk⟩, fun h => absurd h (by omega)⟩)
    · simp only [i_int, l_list, List.getElem?_cons_succ, List.getElem?_cons_zero, Option.getD_some, List.length_map, List.cons_append, List.nil_append, stageR_len]
      refine ⟨fun h => absurd (Int.le_refl _) h, fun _ => ?_⟩
      refine ⟨Int.le_refl _, ?_⟩
      rw [List.drop_zero, List.take_of_length_le (by rw [List.length_map, stageR_len]; exact Nat.le_refl _), rows_i, ← stageR_end]
      rfl
end Go.Proofs.YtkfjgggiopegbaaDoor
end
section
namespace Go.Proofs.YtkfjgggiopegbaaDoor
set_option linter.unusedVariables false
set_option linter.unusedSimpArgs false
set_option maxRecDepth 100000
def oneM23 (v : Int) (w : List Tii) (v' : Int) (w' : List Tii) : Bool := decide (v = v' ∧ w = w')
def rOneE (v : Int) (w : List Tii) (v' : Int) (w' : List Tii) : List DV := [.bool (oneM23 v w v' w')]
def rOneF (ds : List DV) : List DV := rOneE (gi ds 0) (gLii ds 1) (gi ds 2) (gLii ds 3)
def rOneTree : PT :=
(.br (.un .not (.bin .eq (.var 0) (.var 2)))
 (.leaf [(.bool false)])
 (.br (.un .not (.bin .eq (.un .len (.var 1)) (.un .len (.var 3))))
  (.leaf [(.bool false)])
  (.loop 4 [(.int 0)]
   (.br (.un .not (.bin .le (.un .len (.var 1)) (.var 4)))
    (.asrt (.bin .le (.int 0) (.var 4))
     (.asrt (.un .not (.bin .le (.un .len (.var 3)) (.var 4)))
      (.br (.un .not (.bin .and (.bin .eq (.bin .idx (.bin .idx (.var 1) (.bin .add (.int 0) (.var 4))) (.int 0)) (.bin .idx (.bin .idx (.var 3) (.bin .add (.int 0) (.var 4))) (.int 0))) (.bin .eq (.bin .idx (.bin .idx (.var 1) (.bin .add (.int 0) (.var 4))) (.int 1)) (.bin .idx (.bin .idx (.var 3) (.bin .add (.int 0) (.var 4))) (.int 1)))))
       .fail
       (.leaf [(.un (.wrap .i64) (.bin .add (.var 4) (.int 1)))]))))
    .fail)
   (.br (.un .not (.bin .le (.un .len (.var 1)) (.var 4)))
    (.asrt (.bin .le (.int 0) (.var 4))
     (.asrt (.un .not (.bin .le (.un .len (.var 3)) (.var 4)))
      (.br (.un .not (.bin .and (.bin .eq (.bin .idx (.bin .idx (.var 1) (.bin .add (.int 0) (.var 4))) (.int 0)) (.bin .idx (.bin .idx (.var 3) (.bin .add (.int 0) (.var 4))) (.int 0))) (.bin .eq (.bin .idx (.bin .idx (.var 1) (.bin .add (.int 0) (.var 4))) (.int 1)) (.bin .idx (.bin .idx (.var 3) (.bin .add (.int 0) (.var 4))) (.int 1)))))
       (.leaf [(.bool false)])
       .fail)))
    (.leaf [(.bool true)])))))
def rOneSm : List (Nat × Smy) := []
def rOneLa : List (LK × LA) := [(⟨38, 4, 6, 4, 2⟩, ⟨[(5, (.int .i64 (.var 4))), (20, .any), (21, .any), (22, .any), (23, .any), (24, .any), (25, .any), (26, .any), (27, .any), (28, .any), (29, .any), (30, .any), (31, .any), (32, .any), (33, .any), (34, .any), (35, .any), (36, .any), (37, .any)], [], [], 1, 0⟩)]
def rOnePhi : Fs := ⟨fun n d => match n with
  | _ => d, 147⟩
theorem rOneS : SmyOk true Tryd.prog rOnePhi rOneSm := smy_nil
theorem rOneT : treeOk ⟨Tryd.prog, rOneSm, rOneLa, true⟩ 4000 14 [.agg [.pl (.int .i64), .rows false [.int .i64, .int .i64]], .agg [.pl (.int .i64), .rows false [.int .i64, .int .i64]]] [.one (.pl .bool)] ([]) rOneTree = true := by decide +kernel
set_option maxHeartbeats 1000000 in
theorem rOne_pure : PureE true Tryd.prog 14 [.agg [.pl (.int .i64), .rows false [.int .i64, .int .i64]], .agg [.pl (.int .i64), .rows false [.int .i64, .int .i64]]] [.one (.pl .bool)] (lenP [(1, 1000000), (3, 1000000)]) rOneF := by
  refine pure_tree (X := ⟨Tryd.prog, rOneSm, rOneLa, true⟩) (by decide +kernel) (Checked.mixed Tryd.checked) rOneS (by decide +kernel) (by decide +kernel) rOneT (by decide +kernel) ?_
  intro ds hl hp
  obtain ⟨d0, d1, d2, d3, rfl⟩ := len4 hl
  have b1 : (d1.l.length : Int) ≤ 1000000 := hp (1, 1000000) (by simp)
  have b3 : (d3.l.length : Int) ≤ 1000000 := hp (3, 1000000) (by simp)
  have hF : rOneF [d0, d1, d2, d3] = rOneE d0.i (d1.l.map decii) d2.i (d3.l.map decii) := rfl
  rw [hF]
  clear hF hp hl
  have hN : nrmL (clsOf [.agg [.pl (.int .i64), .rows false [.int .i64, .int .i64]], .agg [.pl (.int .i64), .rows false [.int .i64, .int .i64]]]) [d0, d1, d2, d3] = [.int d0.i, .list ((d1.l.map decii).map encii), .int d2.i, .list ((d3.l.map decii).map encii)] := by
    simp only [clsOf, Sh.cls, List.append_nil, List.cons_append, List.nil_append, nrmL, Cl.nrm, CK.nrm, map_Lii]
  rw [hN]
  clear hN
  generalize d0.i = x0
  rw [← List.length_map (f := decii)] at b1
  generalize d1.l.map decii = x1 at b1 ⊢
  generalize d2.i = x2
  rw [← List.length_map (f := decii)] at b3
  generalize d3.l.map decii = x3 at b3 ⊢
  refine ⟨facts_nil _, ?_⟩
  unfold rOneTree rOneE oneM23
  simp only [Sat, clsOf, Sh.cls, List.append_nil, List.cons_append, List.nil_append, nrmL, Cl.nrm, CK.nrm, List.map_cons, List.map_nil, List.length_cons, List.length_nil, List.cons.injEq, DV.bool.injEq, and_true, true_and]
  simp only [q_le, q_eq, q_and, q_not, q_bool, iff_true, iff_false, Bool.not_true, Bool.not_false, Bool.false_eq_true, eq_self]
  simp only [SE.den, evU, ev_add, ev_idx, i_int, b_bool, l_list, envL, List.getElem?_cons_succ, List.getElem?_cons_zero, Option.getD_some, Int.toNat_zero, Int.reduceToNat, List.length_map, Int.zero_add, f_ii_0, f_ii_1, rOnePhi]
  refine ⟨fun h => ?_, fun hv => ⟨fun h => ?_, fun hl => ?_⟩⟩
  · exact (decide_eq_false (fun e => h e.1)).symm
  · exact (decide_eq_false (fun e => h (by rw [e.2]))).symm
  · subst hv
    have hl' : x1.length = x3.length := by omega
    refine rounds_find x1.length (fun i => [DV.int i]) (fun i => x1[i]?.getD dii ≠ x3[i]?.getD dii) rfl (fun _ => rfl) (fun i hi hs hj => ?_) (fun i hi hs hj => ?_) (fun hj => ?_)
    · have hs' : x1[i]?.getD dii = x3[i]?.getD dii := by simpa using hs
      simp only [i_int, List.getElem?_cons_zero, Option.getD_some, Int.toNat_natCast, and_true, eq_self, not_true_eq_false, DV.int.injEq, List.cons.injEq, w64 (n := (i : Int) + 1) (by omega) (by omega), hs']
      have e1 : ¬ (x1.length : Int) ≤ i := by omega
      have e2 : ¬ (x3.length : Int) ≤ i := by omega
      simp [e1, e2]
    · simp only [i_int, List.getElem?_cons_zero, Option.getD_some, Int.toNat_natCast, true_and, eq_self]
      have e1 : ¬ (x1.length : Int) ≤ i := by omega
      have e2 : ¬ (x3.length : Int) ≤ i := by omega
      have hne : ¬ x1 = x3 := fun e => hs (by rw [e])
      have hd : ¬ ((x1[i]?.getD dii).1 = (x3[i]?.getD dii).1 ∧ (x1[i]?.getD dii).2 = (x3[i]?.getD dii).2) := fun e => hs (Prod.ext e.1 e.2)
      simp [e1, e2, hne]
      try (intro a b; exact hd ⟨a, b⟩)
      try exact fun a b => hd ⟨a, b⟩
    · simp only [i_int, List.getElem?_cons_zero, Option.getD_some, Int.toNat_natCast, true_and, eq_self]
      have : x1 = x3 := List.ext_getElem? fun i => by
        by_cases hi : i < x1.length
        · have := hj i hi
          rw [List.getElem?_eq_getElem hi, List.getElem?_eq_getElem (by omega)] at this ⊢
          simpa using this
        · rw [List.getElem?_eq_none (by omega), List.getElem?_eq_none (by omega)]
      simp [this]
end Go.Proofs.YtkfjgggiopegbaaDoor
end
section
namespace Go.Proofs.YtkfjgggiopegbaaDoor
set_option linter.unusedVariables false
set_option linter.unusedSimpArgs false
set_option maxRecDepth 100000
theorem few_len {s : List (List UInt8)} {w : List Tis} (h : fewDM s w = true) : (s.length : Int) ≤ 600 ∧ (w.length : Int) ≤ 60 := by
  unfold fewDM at h
  simp only [Bool.and_eq_true, decide_eq_true_eq] at h
  exact ⟨h.1, h.2.1⟩
def durableBootF (ds : List DV) : List DV := [.bool true]
def durableBootN0 : SE := (.bin .cons (.var 0) (.bin .cons (.var 1) (.bin .cons (.var 2) (.bin .cons (.var 3) (.bin .cons (.var 4) (.bin .cons (.var 5) (.bin .cons (.var 6) (.bin .cons (.var 7) (.bin .cons (.var 8) (.bin .cons (.var 9) (.bin .cons (.var 10) (.bin .cons (.var 11) (.bin .cons (.var 12) (.bin .cons (.var 13) (.bin .cons (.var 14) (.bin .cons (.var 15) .nil))))))))))))))))
def durableBootN1 : SE := (.fn 166 durableBootN0)
def durableBootN2 : SE := (.bin .idx durableBootN1 (.int 1))
def durableBootN3 : SE := (.un .len durableBootN2)
def durableBootN4 : SE := (.un (.wrap .i64) (.bin .sub durableBootN3 (.int 1)))
def durableBootN5 : SE := (.un .not (.bin .le durableBootN3 (.var 17)))
def durableBootN6 : SE := (.bin .idx durableBootN2 (.bin .add (.int 0) (.var 17)))
def durableBootN7 : SE := (.bin .idx durableBootN6 (.int 1))
def durableBootN8 : SE := (.un .not (.bin .le (.un .len durableBootN7) (.var 18)))
def durableBootN9 : SE := (.bin .idx durableBootN7 (.var 18))
def durableBootN10 : SE := (.bin .idx durableBootN9 (.int 0))
def durableBootN11 : SE := (.bin .eq durableBootN10 (.var 16))
def durableBootN12 : PT := (.br durableBootN8 (.asrt (.bin .le (.int 0) (.var 18)) (.br durableBootN11 .fail (.leaf [(.un (.wrap .i64) (.bin .add (.var 18) (.int 1)))]))) .fail)
def durableBootN13 : SE := (.un .not (.bin .le durableBootN3 (.var 19)))
def durableBootN14 : SE := (.bin .idx durableBootN2 (.bin .add (.int 0) (.var 19)))
def durableBootN15 : SE := (.bin .idx durableBootN14 (.int 1))
def durableBootN16 : SE := (.un .len durableBootN15)
def durableBootN17 : SE := (.un .not (.bin .le durableBootN16 (.var 20)))
def durableBootN18 : SE := (.bin .idx durableBootN15 (.var 20))
def durableBootN19 : SE := (.bin .idx durableBootN18 (.int 0))
def durableBootN20 : SE := (.bin .eq durableBootN19 (.var 16))
def durableBootN21 : PT := (.asrt durableBootN13 (.br durableBootN17 (.asrt (.bin .le (.int 0) (.var 20)) (.br durableBootN20 .fail (.leaf [(.un (.wrap .i64) (.bin .add (.var 20) (.int 1)))]))) .fail))
def durableBootN22 : SE := (.fn 165 durableBootN0)
def durableBootN23 : SE := (.bin .idx durableBootN22 (.int 0))
def durableBootN24 : SE := (.bin .le (.un .len durableBootN23) (.int 1000000))
def durableBootN25 : SE := (.bin .idx durableBootN1 (.int 0))
def durableBootN26 : SE := (.bin .le (.un .len durableBootN25) (.int 1000000))
def durableBootN27 : SE := (.bin .idx (.fn 4 (.bin .cons durableBootN23 (.bin .cons durableBootN25 .nil))) (.int 0))
def durableBootN28 : SE := (.bin .idx durableBootN22 (.int 1))
def durableBootN29 : SE := (.un .len durableBootN28)
def durableBootN30 : SE := (.un .not (.bin .eq durableBootN29 durableBootN3))
def durableBootN31 : SE := (.un .not (.bin .le durableBootN29 (.var 21)))
def durableBootN32 : SE := (.un .not (.bin .le durableBootN3 (.var 21)))
def durableBootN33 : SE := (.bin .idx durableBootN28 (.bin .add (.int 0) (.var 21)))
def durableBootN34 : SE := (.bin .idx durableBootN33 (.int 1))
def durableBootN35 : SE := (.bin .le (.un .len durableBootN34) (.int 1000000))
def durableBootN36 : SE := (.bin .idx durableBootN2 (.bin .add (.int 0) (.var 21)))
def durableBootN37 : SE := (.bin .idx durableBootN36 (.int 1))
def durableBootN38 : SE := (.bin .le (.un .len durableBootN37) (.int 1000000))
def durableBootN39 : SE := (.un .not (.bin .idx (.fn 113 (.bin .cons (.bin .idx durableBootN33 (.int 0)) (.bin .cons durableBootN34 (.bin .cons (.bin .idx durableBootN36 (.int 0)) (.bin .cons durableBootN37 .nil))))) (.int 0)))
def durableBootN40 : SE := (.bin .idx durableBootN14 (.int 0))
def durableBootN41 : SE := (.un .not (.bin .le durableBootN29 (.var 20)))
def durableBootN42 : SE := (.un .not (.bin .le durableBootN3 (.var 20)))
def durableBootN43 : SE := (.bin .idx durableBootN28 (.bin .add (.int 0) (.var 20)))
def durableBootN44 : SE := (.bin .idx durableBootN43 (.int 1))
def durableBootN45 : SE := (.bin .le (.un .len durableBootN44) (.int 1000000))
def durableBootN46 : SE := (.bin .idx durableBootN2 (.bin .add (.int 0) (.var 20)))
def durableBootN47 : SE := (.bin .idx durableBootN46 (.int 1))
def durableBootN48 : SE := (.bin .le (.un .len durableBootN47) (.int 1000000))
def durableBootN49 : SE := (.un .not (.bin .idx (.fn 113 (.bin .cons (.bin .idx durableBootN43 (.int 0)) (.bin .cons durableBootN44 (.bin .cons (.bin .idx durableBootN46 (.int 0)) (.bin .cons durableBootN47 .nil))))) (.int 0)))
def durableBootN50 : PT := (.br (.bin .idx (.fn 133 .nil) (.int 0)) (.asrt durableBootN24 (.asrt durableBootN26 (.br durableBootN27 (.br durableBootN30 (.leaf [(.bool false)]) (.loop 20 [(.int 0)] (.br durableBootN41 (.asrt (.bin .le (.int 0) (.var 20)) (.asrt durableBootN42 (.asrt durableBootN45 (.asrt durableBootN48 (.br durableBootN49 .fail (.leaf [(.un (.wrap .i64) (.bin .add (.var 20) (.int 1)))])))))) .fail) (.br durableBootN41 (.asrt (.bin .le (.int 0) (.var 20)) (.asrt durableBootN42 (.asrt durableBootN45 (.asrt durableBootN48 (.br durableBootN49 (.leaf [(.bool false)]) .fail))))) (.leaf [(.bool false)])))) (.leaf [(.bool false)])))) (.leaf [(.bool false)]))
def durableBootN51 : SE := (.un .not (.bin .le durableBootN3 (.var 18)))
def durableBootN52 : SE := (.bin .idx (.bin .idx durableBootN2 (.bin .add (.int 0) (.var 18))) (.int 1))
def durableBootN53 : SE := (.un .not (.bin .le (.un .len durableBootN52) (.var 19)))
def durableBootN54 : SE := (.bin .eq (.bin .idx (.bin .idx durableBootN52 (.var 19)) (.int 0)) (.var 16))
def durableBootN55 : PT := (.asrt durableBootN51 (.br durableBootN53 (.asrt (.bin .le (.int 0) (.var 19)) (.br durableBootN54 .fail (.leaf [(.un (.wrap .i64) (.bin .add (.var 19) (.int 1)))]))) .fail))
def durableBootN56 : SE := (.un .not (.bin .le durableBootN29 (.var 19)))
def durableBootN57 : SE := (.bin .idx durableBootN28 (.bin .add (.int 0) (.var 19)))
def durableBootN58 : SE := (.bin .idx durableBootN57 (.int 1))
def durableBootN59 : SE := (.bin .le (.un .len durableBootN58) (.int 1000000))
def durableBootN60 : SE := (.bin .le durableBootN16 (.int 1000000))
def durableBootN61 : SE := (.un .not (.bin .idx (.fn 113 (.bin .cons (.bin .idx durableBootN57 (.int 0)) (.bin .cons durableBootN58 (.bin .cons durableBootN40 (.bin .cons durableBootN15 .nil))))) (.int 0)))
def durableBootTree : PT :=
(.br (.un .not (.bin .le (.int 1) (.var 0))) (.leaf [(.bin .idx (.fn 133 .nil) (.int 0))]) (.br (.un .not (.bin .le (.var 0) (.int 4))) (.leaf [(.bin .idx (.fn 133 .nil) (.int 0))]) (.br (.un .not (.bin .le (.int 0) (.var 1))) (.leaf [(.bin .idx (.fn 133 .nil) (.int 0))]) (.br (.un .not (.bin .le (.var 1) (.int 32))) (.leaf [(.bin .idx (.fn 133 .nil) (.int 0))]) (.br (.un .not (.bin .le (.int 0) (.var 2))) (.leaf [(.bin .idx (.fn 133 .nil) (.int 0))]) (.br (.un .not (.bin .le (.var 2) (.int 8))) (.leaf [(.bin .idx (.fn 133 .nil) (.int 0))]) (.br (.bin .le (.int 0) (.var 3)) (.br (.bin .le (.var 3) (.int 512)) (.br (.bin .le (.int 0) (.var 4)) (.br (.un .not (.bin .le (.var 4) (.int 3))) (.leaf [(.bin .idx (.fn 133 .nil) (.int 0))]) (.br (.un .not (.bin .and (.bin .eq (.int 0) (.var 5)) (.bin .and (.bin .eq (.int 1) (.var 6)) (.bin .and (.bin .eq (.int 2) (.var 7)) (.bin .and (.bin .eq (.int 3) (.var 8)) (.bin .and (.bin .eq (.int 4) (.var 9)) (.bin .and (.bin .eq (.un (.wrap .i64) (.bin .add (.int 4) (.un (.wrap .i64) (.bin .mul (.int 4) (.var 0))))) (.var 10)) (.bin .and (.bin .eq (.un (.wrap .i64) (.bin .add (.un (.wrap .i64) (.bin .add (.int 4) (.un (.wrap .i64) (.bin .mul (.int 4) (.var 0))))) (.var 2))) (.var 11)) (.bin .eq (.un (.wrap .i64) (.bin .add (.un (.wrap .i64) (.bin .add (.un (.wrap .i64) (.bin .add (.int 4) (.un (.wrap .i64) (.bin .mul (.int 4) (.var 0))))) (.var 2))) (.un (.wrap .i64) (.bin .mul (.int 4) (.var 1))))) (.var 12)))))))))) (.leaf [(.bin .idx (.fn 133 .nil) (.int 0))]) (.br (.un .not (.bin .le (.un .len (.var 13)) (.int 40))) (.leaf [(.bin .idx (.fn 133 .nil) (.int 0))]) (.br (.un .not (.bin .idx (.fn 80 (.bin .cons (.var 14) (.bin .cons (.var 15) .nil))) (.int 0))) (.leaf [(.bin .idx (.fn 133 .nil) (.int 0))]) (.asrt (.bin .le (.un .len (.var 14)) (.int 1000000)) (.asrt (.bin .le (.un .len (.var 15)) (.int 1000000)) (.br (.un .not (.bin .idx (.fn 78 (.bin .cons (.var 14) (.bin .cons (.var 15) .nil))) (.int 0))) (.leaf [(.bin .idx (.fn 133 .nil) (.int 0))]) (.asrt (.bin .le (.un .len (.var 14)) (.int 1000)) (.asrt (.bin .le (.bin .add (.var 11) (.bin .mul (.int 4) (.var 1))) (.var 12)) (.loop 17 [durableBootN4] (.br (.bin .le (.int 0) (.var 17)) (.asrt durableBootN5 (.loop 18 [(.int 0)] durableBootN12 (.br durableBootN8 (.asrt (.bin .le (.int 0) (.var 18)) .fail) (.leaf [(.un (.wrap .i64) (.bin .sub (.var 17) (.int 1)))])))) .fail) (.br (.bin .le (.int 0) (.var 17)) (.asrt durableBootN5 (.loop 18 [(.int 0)] durableBootN12 (.br durableBootN8 (.asrt (.bin .le (.int 0) (.var 18)) (.br durableBootN11 (.loop 19 [durableBootN4] (.br (.bin .le (.int 0) (.var 19)) (.loop 20 [(.int 0)] durableBootN21 (.asrt durableBootN13 (.br durableBootN17 (.asrt (.bin .le (.int 0) (.var 20)) .fail) (.leaf [(.un (.wrap .i64) (.bin .sub (.var 19) (.int 1)))])))) .fail) (.br (.bin .le (.int 0) (.var 19)) (.loop 20 [(.int 0)] durableBootN21 (.asrt durableBootN13 (.br durableBootN17 (.asrt (.bin .le (.int 0) (.var 20)) (.br durableBootN20 (.br (.bin .idx (.fn 133 .nil) (.int 0)) (.asrt durableBootN24 (.asrt durableBootN26 (.br durableBootN27 (.br durableBootN30 (.leaf [(.bool false)]) (.loop 21 [(.int 0)] (.br durableBootN31 (.asrt (.bin .le (.int 0) (.var 21)) (.asrt durableBootN32 (.asrt durableBootN35 (.asrt durableBootN38 (.br durableBootN39 .fail (.leaf [(.un (.wrap .i64) (.bin .add (.var 21) (.int 1)))])))))) .fail) (.br durableBootN31 (.asrt (.bin .le (.int 0) (.var 21)) (.asrt durableBootN32 (.asrt durableBootN35 (.asrt durableBootN38 (.br durableBootN39 (.leaf [(.bool false)]) .fail))))) (.br (.bin .and (.bin .eq durableBootN10 durableBootN19) (.bin .eq (.bin .idx durableBootN9 (.int 1)) (.bin .idx durableBootN18 (.int 1)))) (.br (.bin .eq (.bin .idx durableBootN6 (.int 0)) durableBootN40) (.leaf [(.bool true)]) (.leaf [(.bool false)])) (.leaf [(.bool false)]))))) (.leaf [(.bool false)])))) (.leaf [(.bool false)])) .fail)) .fail))) durableBootN50)) .fail)) .fail))) (.loop 18 [durableBootN4] (.br (.bin .le (.int 0) (.var 18)) (.loop 19 [(.int 0)] durableBootN55 (.asrt durableBootN51 (.br durableBootN53 (.asrt (.bin .le (.int 0) (.var 19)) .fail) (.leaf [(.un (.wrap .i64) (.bin .sub (.var 18) (.int 1)))])))) .fail) (.br (.bin .le (.int 0) (.var 18)) (.loop 19 [(.int 0)] durableBootN55 (.asrt durableBootN51 (.br durableBootN53 (.asrt (.bin .le (.int 0) (.var 19)) (.br durableBootN54 durableBootN50 .fail)) .fail))) (.br (.bin .idx (.fn 133 .nil) (.int 0)) (.asrt durableBootN24 (.asrt durableBootN26 (.br durableBootN27 (.br durableBootN30 (.leaf [(.bool false)]) (.loop 19 [(.int 0)] (.br durableBootN56 (.asrt (.bin .le (.int 0) (.var 19)) (.asrt durableBootN13 (.asrt durableBootN59 (.asrt durableBootN60 (.br durableBootN61 .fail (.leaf [(.un (.wrap .i64) (.bin .add (.var 19) (.int 1)))])))))) .fail) (.br durableBootN56 (.asrt (.bin .le (.int 0) (.var 19)) (.asrt durableBootN13 (.asrt durableBootN59 (.asrt durableBootN60 (.br durableBootN61 (.leaf [(.bool false)]) .fail))))) (.leaf [(.bool true)])))) (.leaf [(.bool false)])))) (.leaf [(.bool false)]))))))))))))))) (.leaf [(.bin .idx (.fn 133 .nil) (.int 0))])) (.leaf [(.bin .idx (.fn 133 .nil) (.int 0))])) (.leaf [(.bin .idx (.fn 133 .nil) (.int 0))]))))))))
def durableBootSm : List (Nat × Smy) := [(19, ⟨133, [], [.one (.pl .bool)], fun _ => [], none⟩), (21, ⟨80, [.agg [.rows false [.str], .rows false [.int .i64, .str]]], [.one (.pl .bool)], lenC [(0, 9223372036854775807), (1, 9223372036854775807)], none⟩), (22, ⟨78, [.agg [.rows false [.str], .rows false [.int .i64, .str]]], [.one (.pl .bool)], lenC [(0, 1000000), (1, 1000000)], none⟩), (23, ⟨165, [.agg [.pl (.int .i64), .pl (.int .i64), .pl (.int .i64), .pl (.int .i64), .pl (.int .i64), .pl (.int .i64), .pl (.int .i64), .pl (.int .i64), .pl (.int .i64), .pl (.int .i64), .pl (.int .i64), .pl (.int .i64), .pl (.int .i64)], .one (.rows false [.int .i64]), .agg [.rows false [.str], .rows false [.int .i64, .str]]], [.agg [.rows false [.int .i64]], .one (.nst [.pl (.int .i64), .sub [.int .i64, .int .i64]])], fun es => (fun es => lenC [(13, 1000000), (14, 1000), (15, 1000000)] es ++ rgeC [(1, 0, 32), (5, 0, 0), (6, 1, 1), (8, 3, 3), (11, 4, 60), (12, 4, 300)] es) es ++ lyC es, none⟩), (24, ⟨166, [.agg [.pl (.int .i64), .pl (.int .i64), .pl (.int .i64), .pl (.int .i64), .pl (.int .i64), .pl (.int .i64), .pl (.int .i64), .pl (.int .i64), .pl (.int .i64), .pl (.int .i64), .pl (.int .i64), .pl (.int .i64), .pl (.int .i64)], .one (.rows false [.int .i64]), .agg [.rows false [.str], .rows false [.int .i64, .str]]], [.agg [.rows false [.int .i64]], .one (.nst [.pl (.int .i64), .sub [.int .i64, .int .i64]])], fun es => (fun es => lenC [(13, 1000000), (14, 1000), (15, 1000000)] es ++ rgeC [(1, 0, 32), (5, 0, 0), (6, 1, 1), (8, 3, 3), (11, 4, 60), (12, 4, 300)] es) es ++ lyC es, none⟩), (27, ⟨4, [.agg [.rows false [.int .i64]], .agg [.rows false [.int .i64]]], [.one (.pl .bool)], lenC [(0, 1000000), (1, 1000000)], none⟩), (14, ⟨113, [.agg [.pl (.int .i64), .rows false [.int .i64, .int .i64]], .agg [.pl (.int .i64), .rows false [.int .i64, .int .i64]]], [.one (.pl .bool)], lenC [(1, 1000000), (3, 1000000)], none⟩)]
def durableBootLa : List (LK × LA) := [(⟨29, 4, 42, 19, 25⟩, ⟨[(5, (.int .i64 (.var 19))), (6, .any), (12, .any), (13, .any), (14, .any), (15, .any), (16, .any), (17, .any), (18, .any), (19, .any), (20, .any), (21, .any), (22, .any), (23, .any), (24, .any), (25, .any), (26, .any), (27, .any), (28, .any)], [], [], 1, 0⟩),
  (⟨29, 4, 58, 20, 29⟩, ⟨[(5, (.int .i64 (.var 20))), (6, .any), (12, .any), (13, .any), (14, .any), (15, .any), (16, .any), (17, .any), (18, .any), (19, .any), (20, .any), (21, .any), (22, .any), (23, .any), (24, .any), (25, .any), (26, .any), (27, .any), (28, .any)], [], [], 1, 0⟩),
  (⟨51, 2, 41, 18, 19⟩, ⟨[(7, (.int .i64 (.var 18))), (8, .any), (12, .any), (13, .any), (14, .any), (15, .any), (16, .any), (17, .any), (18, .any), (19, .any), (20, .any), (21, .any), (22, .any), (23, .any), (24, .any), (25, .any), (26, .any), (27, .any), (28, .any), (29, .any), (30, .any), (31, .any), (32, .any), (33, .any), (34, .any), (35, .any), (36, .any), (37, .any), (38, .any), (39, .any), (40, .any), (41, .any), (42, .any), (43, .any), (44, .any), (45, .any), (46, .any), (47, .any), (48, .any), (49, .any)], [], [], 1, 0⟩),
  (⟨51, 5, 41, 19, 20⟩, ⟨[(8, (.int .i64 (.var 19))), (16, .any), (17, .any), (18, .any), (19, .any), (20, .any), (21, .any), (22, .any), (23, .any), (24, .any), (25, .any), (26, .any), (27, .any), (28, .any), (29, .any), (30, .any), (31, .any), (32, .any), (33, .any), (34, .any), (35, .any), (36, .any), (37, .any), (38, .any), (39, .any), (40, .any), (41, .any), (42, .any), (43, .any), (44, .any), (45, .any), (46, .any), (47, .any), (48, .any), (49, .any)], [], [], 1, 0⟩),
  (⟨29, 4, 54, 20, 29⟩, ⟨[(5, (.int .i64 (.var 20))), (6, .any), (12, .any), (13, .any), (14, .any), (15, .any), (16, .any), (17, .any), (18, .any), (19, .any), (20, .any), (21, .any), (22, .any), (23, .any), (24, .any), (25, .any), (26, .any), (27, .any), (28, .any)], [], [], 1, 0⟩),
  (⟨29, 4, 70, 21, 33⟩, ⟨[(5, (.int .i64 (.var 21))), (6, .any), (12, .any), (13, .any), (14, .any), (15, .any), (16, .any), (17, .any), (18, .any), (19, .any), (20, .any), (21, .any), (22, .any), (23, .any), (24, .any), (25, .any), (26, .any), (27, .any), (28, .any)], [], [], 1, 0⟩),
  (⟨51, 2, 53, 19, 23⟩, ⟨[(7, (.int .i64 (.var 19))), (8, .any), (12, .any), (13, .any), (14, .any), (15, .any), (16, .any), (17, .any), (18, .any), (19, .any), (20, .any), (21, .any), (22, .any), (23, .any), (24, .any), (25, .any), (26, .any), (27, .any), (28, .any), (29, .any), (30, .any), (31, .any), (32, .any), (33, .any), (34, .any), (35, .any), (36, .any), (37, .any), (38, .any), (39, .any), (40, .any), (41, .any), (42, .any), (43, .any), (44, .any), (45, .any), (46, .any), (47, .any), (48, .any), (49, .any)], [], [], 1, 0⟩),
  (⟨51, 5, 53, 20, 24⟩, ⟨[(8, (.int .i64 (.var 20))), (16, .any), (17, .any), (18, .any), (19, .any), (20, .any), (21, .any), (22, .any), (23, .any), (24, .any), (25, .any), (26, .any), (27, .any), (28, .any), (29, .any), (30, .any), (31, .any), (32, .any), (33, .any), (34, .any), (35, .any), (36, .any), (37, .any), (38, .any), (39, .any), (40, .any), (41, .any), (42, .any), (43, .any), (44, .any), (45, .any), (46, .any), (47, .any), (48, .any), (49, .any)], [], [], 1, 0⟩),
  (⟨19, 1, 39, 17, 18⟩, ⟨[(3, (.int .i64 (.var 17))), (7, .any), (8, .any), (9, .any), (10, .any), (11, .any), (12, .any), (13, .any), (14, .any), (15, .any), (16, .any), (17, .any), (18, .any)], [], [], 1, 0⟩),
  (⟨19, 2, 40, 18, 20⟩, ⟨[(5, .any), (8, (.int .i64 (.var 18))), (9, .any), (10, .any), (11, .any), (12, .any), (13, .any), (14, .any), (15, .any), (16, .any), (17, .any), (18, .any)], [], [], 1, 0⟩)]
def durableBootPhi : Fs := ⟨fun n d => match n with
  | 133 => .list (lSane25F d.l)
  | 80 => .list (rFewF d.l)
  | 78 => .list (rDRightF d.l)
  | 165 => .list (dBootF d.l)
  | 166 => .list (rBootF d.l)
  | 4 => .list (rSameF d.l)
  | 113 => .list (rOneF d.l)
  | _ => d, 147⟩
theorem durableBootS : SmyOk true Tryd.prog durableBootPhi durableBootSm := (smy_cons (fun _ => True) lSane25F lSane25_pure (fun _ _ _ _ => trivial) (fun _ => rfl) (fun _ h => by cases h) (smy_cons (lenP [(0, 9223372036854775807), (1, 9223372036854775807)]) rFewF rFew_pure (len_hp [(0, 9223372036854775807), (1, 9223372036854775807)]) (fun _ => rfl) (fun _ h => by cases h) (smy_cons (lenP [(0, 1000000), (1, 1000000)]) rDRightF rDRight_pure (len_hp [(0, 1000000), (1, 1000000)]) (fun _ => rfl) (fun _ h => by cases h) (smy_cons (fun ds => (fun ds => lenP [(13, 1000000), (14, 1000), (15, 1000000)] ds ∧ rgeP [(1, 0, 32), (5, 0, 0), (6, 1, 1), (8, 3, 3), (11, 4, 60), (12, 4, 300)] ds) ds ∧ lyP ds) dBootF dBoot_pure (ly_hp (C := fun es => lenC [(13, 1000000), (14, 1000), (15, 1000000)] es ++ rgeC [(1, 0, 32), (5, 0, 0), (6, 1, 1), (8, 3, 3), (11, 4, 60), (12, 4, 300)] es) (Q := fun ds => lenP [(13, 1000000), (14, 1000), (15, 1000000)] ds ∧ rgeP [(1, 0, 32), (5, 0, 0), (6, 1, 1), (8, 3, 3), (11, 4, 60), (12, 4, 300)] ds) (both_hp [(13, 1000000), (14, 1000), (15, 1000000)] [(1, 0, 32), (5, 0, 0), (6, 1, 1), (8, 3, 3), (11, 4, 60), (12, 4, 300)])) (fun _ => rfl) (fun _ h => by cases h) (smy_cons (fun ds => (fun ds => lenP [(13, 1000000), (14, 1000), (15, 1000000)] ds ∧ rgeP [(1, 0, 32), (5, 0, 0), (6, 1, 1), (8, 3, 3), (11, 4, 60), (12, 4, 300)] ds) ds ∧ lyP ds) rBootF rBoot_pure (ly_hp (C := fun es => lenC [(13, 1000000), (14, 1000), (15, 1000000)] es ++ rgeC [(1, 0, 32), (5, 0, 0), (6, 1, 1), (8, 3, 3), (11, 4, 60), (12, 4, 300)] es) (Q := fun ds => lenP [(13, 1000000), (14, 1000), (15, 1000000)] ds ∧ rgeP [(1, 0, 32), (5, 0, 0), (6, 1, 1), (8, 3, 3), (11, 4, 60), (12, 4, 300)] ds) (both_hp [(13, 1000000), (14, 1000), (15, 1000000)] [(1, 0, 32), (5, 0, 0), (6, 1, 1), (8, 3, 3), (11, 4, 60), (12, 4, 300)])) (fun _ => rfl) (fun _ h => by cases h) (smy_cons (lenP [(0, 1000000), (1, 1000000)]) rSameF rSame_pure (len_hp [(0, 1000000), (1, 1000000)]) (fun _ => rfl) (fun _ h => by cases h) (smy_cons (lenP [(1, 1000000), (3, 1000000)]) rOneF rOne_pure (len_hp [(1, 1000000), (3, 1000000)]) (fun _ => rfl) (fun _ h => by cases h) smy_nil)))))))
theorem durableBootT : treeOk ⟨Tryd.prog, durableBootSm, durableBootLa, true⟩ 4000 5 [.agg [.pl (.int .i64), .pl (.int .i64), .pl (.int .i64), .pl (.int .i64), .pl (.int .i64), .pl (.int .i64), .pl (.int .i64), .pl (.int .i64), .pl (.int .i64), .pl (.int .i64), .pl (.int .i64), .pl (.int .i64), .pl (.int .i64), .rows false [.int .i64], .rows false [.str], .rows false [.int .i64, .str], .pl (.int .i64)]] [.one (.pl .bool)] (rng (-9223372036854775808) 9223372036854775807 (.var 0) ++ (rng (-9223372036854775808) 9223372036854775807 (.var 1) ++ (rng (-9223372036854775808) 9223372036854775807 (.var 2) ++ (rng (-9223372036854775808) 9223372036854775807 (.var 3) ++ (rng (-9223372036854775808) 9223372036854775807 (.var 4) ++ (rng 0 9223372036854775807 (.un .len (.var 13)) ++ (rng 0 9223372036854775807 (.un .len (.var 14)) ++ (rng 0 9223372036854775807 (.un .len (.var 15)) ++ (rng (-9223372036854775808) 9223372036854775807 (.var 16) ++ ([])))))))))) durableBootTree = true := by decide +kernel
end Go.Proofs.YtkfjgggiopegbaaDoor
end
section
namespace Go.Proofs.YtkfjgggiopegbaaDoor
set_option linter.unusedVariables false
set_option linter.unusedSimpArgs false
set_option maxRecDepth 100000
set_option maxHeartbeats 1000000 in
theorem durableBoot_pure : PureE true Tryd.prog 5 [.agg [.pl (.int .i64), .pl (.int .i64), .pl (.int .i64), .pl (.int .i64), .pl (.int .i64), .pl (.int .i64), .pl (.int .i64), .pl (.int .i64), .pl (.int .i64), .pl (.int .i64), .pl (.int .i64), .pl (.int .i64), .pl (.int .i64), .rows false [.int .i64], .rows false [.str], .rows false [.int .i64, .str], .pl (.int .i64)]] [.one (.pl .bool)] (Wts (clsOf [.agg [.pl (.int .i64), .pl (.int .i64), .pl (.int .i64), .pl (.int .i64), .pl (.int .i64), .pl (.int .i64), .pl (.int .i64), .pl (.int .i64), .pl (.int .i64), .pl (.int .i64), .pl (.int .i64), .pl (.int .i64), .pl (.int .i64), .rows false [.int .i64], .rows false [.str], .rows false [.int .i64, .str], .pl (.int .i64)]])) durableBootF := by
  refine pure_tree (X := ⟨Tryd.prog, durableBootSm, durableBootLa, true⟩) (by decide +kernel) (Checked.mixed Tryd.checked) durableBootS (by decide +kernel) (by decide +kernel) durableBootT (by decide +kernel) ?_
  intro ds hl hp
  obtain ⟨d0, d1, d2, d3, d4, d5, d6, d7, d8, d9, d10, d11, d12, d13, d14, d15, d16, rfl⟩ := len17 hl
  obtain ⟨_, _, he, w0, hp⟩ := hp
  cases he
  have r0 : -9223372036854775808 ≤ d0.i ∧ d0.i ≤ 9223372036854775807 := wt_i w0 rfl rfl
  clear w0
  obtain ⟨_, _, he, w1, hp⟩ := hp
  cases he
  have r1 : -9223372036854775808 ≤ d1.i ∧ d1.i ≤ 9223372036854775807 := wt_i w1 rfl rfl
  clear w1
  obtain ⟨_, _, he, w2, hp⟩ := hp
  cases he
  have r2 : -9223372036854775808 ≤ d2.i ∧ d2.i ≤ 9223372036854775807 := wt_i w2 rfl rfl
  clear w2
  obtain ⟨_, _, he, w3, hp⟩ := hp
  cases he
  have r3 : -9223372036854775808 ≤ d3.i ∧ d3.i ≤ 9223372036854775807 := wt_i w3 rfl rfl
  clear w3
  obtain ⟨_, _, he, w4, hp⟩ := hp
  cases he
  have r4 : -9223372036854775808 ≤ d4.i ∧ d4.i ≤ 9223372036854775807 := wt_i w4 rfl rfl
  clear w4
  obtain ⟨_, _, he, w5, hp⟩ := hp
  cases he
  have r5 : -9223372036854775808 ≤ d5.i ∧ d5.i ≤ 9223372036854775807 := wt_i w5 rfl rfl
  clear w5
  obtain ⟨_, _, he, w6, hp⟩ := hp
  cases he
  have r6 : -9223372036854775808 ≤ d6.i ∧ d6.i ≤ 9223372036854775807 := wt_i w6 rfl rfl
  clear w6
  obtain ⟨_, _, he, w7, hp⟩ := hp
  cases he
  have r7 : -9223372036854775808 ≤ d7.i ∧ d7.i ≤ 9223372036854775807 := wt_i w7 rfl rfl
  clear w7
  obtain ⟨_, _, he, w8, hp⟩ := hp
  cases he
  have r8 : -9223372036854775808 ≤ d8.i ∧ d8.i ≤ 9223372036854775807 := wt_i w8 rfl rfl
  clear w8
  obtain ⟨_, _, he, w9, hp⟩ := hp
  cases he
  have r9 : -9223372036854775808 ≤ d9.i ∧ d9.i ≤ 9223372036854775807 := wt_i w9 rfl rfl
  clear w9
  obtain ⟨_, _, he, w10, hp⟩ := hp
  cases he
  have r10 : -9223372036854775808 ≤ d10.i ∧ d10.i ≤ 9223372036854775807 := wt_i w10 rfl rfl
  clear w10
  obtain ⟨_, _, he, w11, hp⟩ := hp
  cases he
  have r11 : -9223372036854775808 ≤ d11.i ∧ d11.i ≤ 9223372036854775807 := wt_i w11 rfl rfl
  clear w11
  obtain ⟨_, _, he, w12, hp⟩ := hp
  cases he
  have r12 : -9223372036854775808 ≤ d12.i ∧ d12.i ≤ 9223372036854775807 := wt_i w12 rfl rfl
  clear w12
  obtain ⟨_, _, he, w13, hp⟩ := hp
  cases he
  have b13 : ((d13.l.map DV.i).length : Int) ≤ 9223372036854775807 := by rw [List.length_map]; exact wt_len w13
  have v13 : ∀ v ∈ d13.l.map DV.i, -9223372036854775808 ≤ v ∧ v ≤ 9223372036854775807 := wt_ints w13 rfl rfl
  clear w13
  obtain ⟨_, _, he, w14, hp⟩ := hp
  cases he
  have b14 : ((d14.l.map DV.s).length : Int) ≤ 9223372036854775807 := by rw [List.length_map]; exact wt_len w14
  have v14 : ∀ v ∈ d14.l.map DV.s, (v.length : Int) ≤ 9223372036854775807 := wt_strs w14
  clear w14
  obtain ⟨_, _, he, w15, hp⟩ := hp
  cases he
  have b15 : ((d15.l.map decis).length : Int) ≤ 9223372036854775807 := by rw [List.length_map]; exact wt_len w15
  have v15 := wt_is w15
  clear w15
  obtain ⟨_, _, he, w16, hp⟩ := hp
  cases he
  have r16 : -9223372036854775808 ≤ d16.i ∧ d16.i ≤ 9223372036854775807 := wt_i w16 rfl rfl
  clear w16
  have hN : nrmL (clsOf [.agg [.pl (.int .i64), .pl (.int .i64), .pl (.int .i64), .pl (.int .i64), .pl (.int .i64), .pl (.int .i64), .pl (.int .i64), .pl (.int .i64), .pl (.int .i64), .pl (.int .i64), .pl (.int .i64), .pl (.int .i64), .pl (.int .i64), .rows false [.int .i64], .rows false [.str], .rows false [.int .i64, .str], .pl (.int .i64)]]) [d0, d1, d2, d3, d4, d5, d6, d7, d8, d9, d10, d11, d12, d13, d14, d15, d16] = [.int d0.i, .int d1.i, .int d2.i, .int d3.i, .int d4.i, .int d5.i, .int d6.i, .int d7.i, .int d8.i, .int d9.i, .int d10.i, .int d11.i, .int d12.i, .list ((d13.l.map DV.i).map DV.int), .list ((d14.l.map DV.s).map DV.str), .list ((d15.l.map decis).map encis), .int d16.i] := by
    simp only [clsOf, Sh.cls, List.append_nil, nrmL, Cl.nrm, CK.nrm, map_Li, map_Lis, map_Ls]
  have hF : durableBootF [d0, d1, d2, d3, d4, d5, d6, d7, d8, d9, d10, d11, d12, d13, d14, d15, d16] = [.bool true] := rfl
  rw [hN, hF]
  clear hN hp hl hF
  generalize d0.i = x0 at r0 ⊢
  generalize d1.i = x1 at r1 ⊢
  generalize d2.i = x2 at r2 ⊢
  generalize d3.i = x3 at r3 ⊢
  generalize d4.i = x4 at r4 ⊢
  generalize d5.i = x5 at r5 ⊢
  generalize d6.i = x6 at r6 ⊢
  generalize d7.i = x7 at r7 ⊢
  generalize d8.i = x8 at r8 ⊢
  generalize d9.i = x9 at r9 ⊢
  generalize d10.i = x10 at r10 ⊢
  generalize d11.i = x11 at r11 ⊢
  generalize d12.i = x12 at r12 ⊢
  generalize d13.l.map DV.i = x13 at b13 v13 ⊢
  generalize d14.l.map DV.s = x14 at b14 v14 ⊢
  generalize d15.l.map decis = x15 at b15 v15 ⊢
  generalize d16.i = x16 at r16 ⊢
  refine ⟨(rng_ok (e := .var 0) r0.1 r0.2 (rng_ok (e := .var 1) r1.1 r1.2 (rng_ok (e := .var 2) r2.1 r2.2 (rng_ok (e := .var 3) r3.1 r3.2 (rng_ok (e := .var 4) r4.1 r4.2 (rng_ok (e := .un .len (.var 13)) (Int.natCast_nonneg _) (by show ((x13.map _).length : Int) ≤ _; rw [List.length_map]; exact b13) (rng_ok (e := .un .len (.var 14)) (Int.natCast_nonneg _) (by show ((x14.map _).length : Int) ≤ _; rw [List.length_map]; exact b14) (rng_ok (e := .un .len (.var 15)) (Int.natCast_nonneg _) (by show ((x15.map _).length : Int) ≤ _; rw [List.length_map]; exact b15) (rng_ok (e := .var 16) r16.1 r16.2 (facts_nil _)))))))))), ?_⟩
  unfold durableBootTree
  simp only [Sat, clsOf, Sh.cls, List.append_nil, List.cons_append, List.nil_append, nrmL, Cl.nrm, CK.nrm, List.map_cons, List.map_nil, List.length_cons, List.length_nil, List.cons.injEq, DV.bool.injEq, and_true, true_and, durableBootN0, durableBootN1, durableBootN2, durableBootN3, durableBootN4, durableBootN5, durableBootN6, durableBootN7, durableBootN8, durableBootN9, durableBootN10, durableBootN11, durableBootN12, durableBootN13, durableBootN14, durableBootN15, durableBootN16, durableBootN17, durableBootN18, durableBootN19, durableBootN20, durableBootN21, durableBootN22, durableBootN23, durableBootN24, durableBootN25, durableBootN26, durableBootN27, durableBootN28, durableBootN29, durableBootN30, durableBootN31, durableBootN32, durableBootN33, durableBootN34, durableBootN35, durableBootN36, durableBootN37, durableBootN38, durableBootN39, durableBootN40, durableBootN41, durableBootN42, durableBootN43, durableBootN44, durableBootN45, durableBootN46, durableBootN47, durableBootN48, durableBootN49, durableBootN50, durableBootN51, durableBootN52, durableBootN53, durableBootN54, durableBootN55, durableBootN56, durableBootN57, durableBootN58, durableBootN59, durableBootN60, durableBootN61]
  simp only [q_le, q_eq, q_and, q_not, q_bool, iff_true, iff_false, Bool.not_true, Bool.not_false, Bool.false_eq_true, eq_self]
  simp only [Bool.true_eq_false, SE.den, evU, ev_add, ev_sub, ev_mul, ev_idx, ev_cons, i_int, b_bool, l_list, envL, List.getElem?_cons_succ, List.getElem?_cons_zero, Option.getD_some, Int.toNat_zero, Int.reduceToNat, List.length_map, Int.zero_add, Bool.false_eq_true, eq_self, not_true_eq_false, f_En_0, f_En_1, f_ii_0, f_ii_1, durableBootPhi, lSane25F, lSane25E, rFewF, rFewE, rDRightF, rDRightE, dBootF, dBootE, rBootF, rBootE, rSameF, rSameE, rOneF, rOneE, gi, gLi, gLs, dece_i, dece_s, gLii, deces_ii, gLis, deces_is, lSane25E]
  refine ⟨fun _ => trivial, fun h1 => ⟨fun _ => trivial, fun h2 => ⟨fun _ => trivial, fun h3 => ⟨fun _ => trivial, fun h4 => ⟨fun _ => trivial, fun h5 => ⟨fun _ => trivial, fun h6 => ⟨fun h7 => ⟨fun h8 => ⟨fun h9 => ⟨fun _ => trivial, fun h10 => ⟨fun _ => trivial, fun hl => ⟨fun _ => trivial, fun h11 => ⟨fun _ => trivial, fun hf => ?_⟩⟩⟩⟩, fun _ => trivial⟩, fun _ => trivial⟩, fun _ => trivial⟩⟩⟩⟩⟩⟩⟩
  obtain ⟨f1, f2⟩ := few_len hf
  refine ⟨by omega, by omega, fun _ => trivial, fun _ => ⟨by omega, by simp only [w64_eq] at hl; omega, ?_⟩⟩
  have hrl := recover_len x14
  have hrw := recover_w x14
  have hbl : ∀ rc : List TEn × Int, (bootM x12.toNat x11 x1 x13 rc.1 rc.2).length = x12.toNat := fun rc => boot_len ..
  simp only [hbl]
  have hsz : (x12.toNat : Int) ≤ 1000000 := by simp only [w64_eq] at hl; omega
  generalize recoverM x14 = rc at *
  obtain ⟨es, en⟩ := rc
  dsimp only at hrl hrw ⊢
  clear hf hl hbl v14 v13 v15
  have hwl : IntKind.i64.wrap ((es.length : Int) - 1) = es.length - 1 := w64 (by omega) (by omega)
  have hwd : ∀ i : Nat, i < es.length → IntKind.i64.wrap ((i : Int) - 1) = i - 1 := fun i h => w64 (by omega) (by omega)
  have hwt : ∀ i t : Nat, t < (es[i]?.getD dEn).2.length → IntKind.i64.wrap ((t : Int) + 1) = ((t + 1 : Nat) : Int) := fun i t h => by
    have := hrw i
    rw [w64 (by omega) (by omega)]; omega
  have hwi : ∀ i : Nat, i < es.length → IntKind.i64.wrap ((i : Int) + 1) = ((i + 1 : Nat) : Int) := fun i h => by rw [w64 (by omega) (by omega)]; omega
  have hone : ∀ v w, oneM23 v w v w = true := fun v w => by unfold oneM23; simp
  simp only [hwl]
  refine last_loop es x16 (fun i hi hno => ?_) (fun hn => ?_) (fun i q hi hq hno hk hlast => ?_)
  · simp only [i_int, List.getElem?_cons_succ, List.getElem?_cons_zero, Option.getD_some, Int.toNat_natCast, eq_self, List.cons_append, List.nil_append, hwd i hi]
    refine ⟨fun _ => ⟨by omega, rfl, ?_⟩, fun h => absurd (by omega) h⟩
    refine scan_loop (Nat.le_refl _) hno (fun t ht hne => ?_) ?_
    · simp only [i_int, List.getElem?_cons_zero, Option.getD_some, Int.toNat_natCast, eq_self, hwt i t ht]
      exact ⟨fun _ => ⟨by omega, hne, fun _ => trivial⟩, fun h => absurd h (by omega)⟩
    · simp only [i_int, List.getElem?_cons_zero, Option.getD_some]
      exact ⟨fun h => absurd (Int.le_refl _) h, fun _ => trivial⟩
  · simp only [i_int, List.getElem?_cons_succ, List.getElem?_cons_zero, Option.getD_some, Int.reduceToNat, List.cons_append, List.nil_append]
    refine ⟨fun h => absurd h (by omega), fun _ => ⟨rfl, ?_⟩⟩
    refine last_loop es x16 (fun i2 hi2 hno2 => ?_) (fun hn2 => ?_) (fun i2 q2 hi2 hq2 hno2 hk2 hlast2 => ?_)
    · simp only [i_int, List.getElem?_cons_succ, List.getElem?_cons_zero, Option.getD_some, Int.toNat_natCast, eq_self, List.cons_append, List.nil_append, hwd i2 hi2]
      refine ⟨fun _ => ⟨rfl, ?_⟩, fun h => absurd (by omega) h⟩
      refine scan_loop (Nat.le_refl _) hno2 (fun t ht hne => ?_) ?_
      · simp only [i_int, List.getElem?_cons_zero, Option.getD_some, Int.toNat_natCast, eq_self, hwt i2 t ht]
        exact ⟨by omega, fun _ => ⟨by omega, hne, fun _ => trivial⟩, fun h => absurd h (by omega)⟩
      · simp only [i_int, List.getElem?_cons_zero, Option.getD_some]
        exact ⟨by omega, fun h => absurd (Int.le_refl _) h, fun _ => trivial⟩
    · simp only [i_int, List.getElem?_cons_succ, List.getElem?_cons_zero, Option.getD_some, Int.reduceToNat, List.cons_append, List.nil_append]
      refine ⟨fun h => absurd h (by omega), fun _ => ?_⟩
      refine ⟨fun _ => ⟨hsz, hsz, fun _ => ⟨fun h => h, fun _ => ⟨rfl, ?_⟩⟩, fun h => by simp at h⟩, fun h => h⟩
      refine rounds_at es.length (fun i => [.int i]) rfl (fun _ => rfl) (fun a ha => ?_) ?_
      · have := hrw a
        simp only [Bool.true_eq_false, i_int, List.getElem?_cons_zero, Option.getD_some, Int.toNat_natCast, eq_self, hone, hwi a ha]
        exact ⟨fun _ => ⟨by omega, by omega, by omega, by omega, fun h => h, fun _ => trivial⟩, fun h => absurd h (by omega)⟩
      · simp only [Bool.true_eq_false, i_int, List.getElem?_cons_zero, Option.getD_some, Int.toNat_natCast, eq_self, hone]
        exact ⟨fun h => absurd (Int.le_refl _) h, fun _ => by simp⟩
    · rw [hn] at hlast2
      cases hlast2
  · simp only [i_int, List.getElem?_cons_succ, List.getElem?_cons_zero, Option.getD_some, Int.toNat_natCast, List.cons_append, List.nil_append]
    refine ⟨fun _ => ⟨by omega, rfl, ?_⟩, fun h => absurd (by omega) h⟩
    refine scan_loop (j := q) (by omega) hno (fun t ht hne => ?_) ?_
    · simp only [i_int, List.getElem?_cons_zero, Option.getD_some, Int.toNat_natCast, eq_self, hwt i t ht]
      exact ⟨fun _ => ⟨by omega, hne, fun _ => trivial⟩, fun h => absurd h (by omega)⟩
    · simp only [i_int, List.getElem?_cons_succ, List.getElem?_cons_zero, Option.getD_some, Int.toNat_natCast, List.cons_append, List.nil_append]
      refine ⟨fun _ => ⟨by omega, fun _ => ⟨rfl, ?_⟩, fun h => h hk⟩, fun h => absurd h (by omega)⟩
      refine last_loop es x16 (fun i2 hi2 hno2 => ?_) (fun hn2 => ?_) (fun i2 q2 hi2 hq2 hno2 hk2 hlast2 => ?_)
      · simp only [i_int, List.getElem?_cons_succ, List.getElem?_cons_zero, Option.getD_some, Int.toNat_natCast, eq_self, List.cons_append, List.nil_append, hwd i2 hi2]
        refine ⟨fun _ => ⟨rfl, ?_⟩, fun h => absurd (by omega) h⟩
        refine scan_loop (Nat.le_refl _) hno2 (fun t ht hne => ?_) ?_
        · simp only [i_int, List.getElem?_cons_zero, Option.getD_some, Int.toNat_natCast, eq_self, hwt i2 t ht]
          exact ⟨by omega, fun _ => ⟨by omega, hne, fun _ => trivial⟩, fun h => absurd h (by omega)⟩
        · simp only [i_int, List.getElem?_cons_zero, Option.getD_some]
          exact ⟨by omega, fun h => absurd (Int.le_refl _) h, fun _ => trivial⟩
      · rw [hlast] at hn2
        cases hn2
      · rw [hlast] at hlast2
        simp only [Option.some.injEq, Prod.mk.injEq] at hlast2
        simp only [i_int, List.getElem?_cons_succ, List.getElem?_cons_zero, Option.getD_some, Int.toNat_natCast, List.cons_append, List.nil_append]
        refine ⟨fun _ => ⟨rfl, ?_⟩, fun h => absurd (by omega) h⟩
        refine scan_loop (j := q2) (by omega) hno2 (fun t ht hne => ?_) ?_
        · simp only [i_int, List.getElem?_cons_zero, Option.getD_some, Int.toNat_natCast, eq_self, hwt i2 t ht]
          exact ⟨by omega, fun _ => ⟨by omega, hne, fun _ => trivial⟩, fun h => absurd h (by omega)⟩
        · simp only [i_int, List.getElem?_cons_succ, List.getElem?_cons_zero, Option.getD_some, Int.toNat_natCast, and_true, eq_self, not_true_eq_false, List.cons_append, List.nil_append, ← hlast2.1, ← hlast2.2]
          refine ⟨by omega, fun _ => ⟨by omega, fun _ => ⟨fun _ => ⟨hsz, hsz, fun _ => ⟨fun h => h, fun _ => ⟨rfl, ?_⟩⟩, fun h => by simp at h⟩, fun h => h⟩, fun h => h hk⟩, fun h => absurd h (by omega)⟩
          refine rounds_at es.length (fun i => [.int i]) rfl (fun _ => rfl) (fun a ha => ?_) ?_
          · have := hrw a
            simp only [Bool.true_eq_false, i_int, List.getElem?_cons_zero, Option.getD_some, Int.toNat_natCast, eq_self, hone, hwi a ha]
            exact ⟨fun _ => ⟨by omega, by omega, by omega, by omega, fun h => h, fun _ => trivial⟩, fun h => absurd h (by omega)⟩
          · simp only [Bool.true_eq_false, i_int, List.getElem?_cons_zero, Option.getD_some, Int.toNat_natCast, eq_self, hone]
            exact ⟨fun h => absurd (Int.le_refl _) h, fun _ => by simp⟩
namespace row
open Go.ChangeShapes Go.WideShapes Go.ChangeAt Go.RowKit Go.Joins Go.Deep Go.Proofs.YtkfjgggiopegbaaDoor
theorem lifted (os : Os) (started : os.Started) (H : Type) (enc : TypeId × Value → H) :
    ReturnsInHanded {} Tryd.checked os 5 .any (fun w args => (Rows.durableBootMatchesSpecSpec.pre enc Tryd.prog Tryd.f5 [] false w args ∧ laidMetH Tryd.prog Rows.durableBootMatchesSpecRow.laid w) ∧ sizedMet enc Tryd.prog Tryd.f5 (OpenSpec.ofChange Rows.durableBootMatchesSpecSpec) false w args) (Rows.durableBootMatchesSpecSpec.post enc Tryd.prog Tryd.f5 false true false false) := by
  refine returnsInHanded_of_change_and (C := Tryd.checked) (X := fun w _ => laidMetH Tryd.prog Rows.durableBootMatchesSpecRow.laid w) (fun _ _ _ hh h => h.of_heap hh) own started (by kernel_rfl) Tryd.func5
    (ChangeSpec.witness_shaped (enc := enc) (C := Tryd.checked) (os := os) (X := fun w _ => laidMetH Tryd.prog Rows.durableBootMatchesSpecRow.laid w) false (World.laidAll Tryd.prog os Rows.durableBootMatchesSpecRow.laid) #[.agg #[.int .i64 0, .int .i64 0, .int .i64 0, .int .i64 0, .int .i64 0, .int .i64 0, .int .i64 0, .int .i64 0, .int .i64 0, .int .i64 0, .int .i64 0, .int .i64 0, .int .i64 0, .slice none 0 0, .slice none 0 0, .slice none 0 0, .int .i64 0]] 8 (World.laidAll_os _ _ _)
      (World.shaped_of_ZipB (by kernel_rfl) (by kernel_rfl)) (by kernel_rfl) (by kernel_rfl) (by kernel_rfl)
      (by rw [MakeChecks.laidMetH_plain _ _ _ (by kernel_rfl)]; exact laidMet_laidAll _ (by kernel_rfl) (by kernel_rfl))) ?_
  intro W base args ds gs before hval0 hW hcnd _ _ _
  have hval : ∀ (j : Nat) t v, Tryd.f5.params[j]? = some t → args[j]? = some v → Value.okWide Tryd.prog W .any base t v := hval0
  have hW' := hW
  obtain ⟨p, q, hA0, hV, rfl, hfz, hnd⟩ := hW
  have hA : DataW.TrodAll enc Tryd.prog W 0 (fun _ => true) true Tryd.f5.params.toList args.toList ds p := hA0
  have hval2 : ∀ (j : Nat) t v, Tryd.f5.params.toList[j]? = some t → args.toList[j]? = some v → Value.okWide Tryd.prog W .any base t v := fun j t v a b => hval j t v (by simpa using a) (by simpa using b)
  have hcall := law_of durableBoot_pure (fun _ h => h) (by rw [Tryd.params5]; kernel_rfl) hA hval2
  rw [Tryd.params5] at hA
  obtain ⟨v0, vs0, d0, ds0, p0, q0, hargs, rfl, rfl, h0, r0⟩ := trodAll_cons hA
  obtain ⟨rfl, rfl, rfl⟩ := trodAll_nil r0
  obtain rfl : args = #[v0] := by cases args; simp_all
  obtain ⟨rfl, rfl⟩ := trodVars_none hV
  have lt0 : ∀ x ∈ p0, x.block < W.heap.size := by obtain ⟨m, hm⟩ := h0; exact DataW.trod_lt m _ _ _ hm
  clear hA0 hval0 hval2
  refine Calls.mono hcall fun e W' ⟨he, bel⟩ => ?_
  subst he
  exact ⟨_, rfl, _, _, _, [], _, [], hW', trodAll_mk1 (shut_bool Tryd.underlying4 _), (trodAll_cons_mk (Below.trod laidOut (by kernel_rfl) (of_decide_eq_true (by kernel_rfl)) h0 bel lt0) trodAll_mk0), rfl, bel.frame _, fun h => by cases h⟩
theorem over : Rows.durableBootMatchesSpecRow.holds Tryd.pinned (OpenSpec.ofChange Rows.durableBootMatchesSpecSpec) :=
  OpenClaim.holds_of_wide 5 Tryd.f5 rfl rfl rfl rfl rfl rfl rfl ⟨rfl, rfl, rfl, rfl, rfl⟩ rfl rfl rfl rfl rfl (by kernel_rfl) Tryd.func5 (by kernel_rfl)
    (of_decide_eq_true (by kernel_rfl)) (by unfold Func.isWrapper; first | (rw [if_pos (by decide +kernel)]; kernel_rfl) | (rw [if_neg (by decide +kernel)]; exact ⟨rfl, rfl⟩))
    (fun os started H enc _ => lifted os started H enc)
end row
theorem durableBoot_proved : Rows.DurableBootMatchesSpecCardSaid :=
  Claim7.holds_tied_plain_at .later [] [.data, .pinned] true _ false row.over (fun _ h => by cases h) (by kernel_rfl) (fun _ h => by cases h) durableBootMatchesSpec_row_tie rfl ⟨rfl, rfl⟩ (by kernel_rfl) rfl
    (fun f fn hf hfn => by
      obtain rfl : f = 5 := Option.some.inj ((show Tryd.prog.funcNamed Rows.durableBootMatchesSpecRow.func = some 5 by kernel_rfl).symm.trans hf) |>.symm
      obtain rfl : fn = Tryd.f5 := (Option.some.inj (Tryd.func5.symm.trans hfn)).symm
      exact ⟨by kernel_rfl, fun j t ht => by
        have hm : t ∈ Tryd.f5.params.toList := by simpa using Array.mem_of_getElem? ht
        have hall : (Tryd.f5.params.toList.all fun u => !Tryd.prog.wantsStandIn u) = true := by kernel_rfl
        exact (show Tryd.prog.wantsStandIn t = false by simpa using List.all_eq_true.1 hall t hm)⟩)
    (by kernel_rfl)
end Go.Proofs.YtkfjgggiopegbaaDoor
end
