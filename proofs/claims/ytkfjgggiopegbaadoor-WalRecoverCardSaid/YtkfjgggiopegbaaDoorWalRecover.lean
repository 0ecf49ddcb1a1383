/- WalRecover: the law returns true for every input, and each argument reads afterwards as it read before. No condition. -/
import Derived.Test.YtkfjgggiopegbaaDoorLSane23
import Derived.Test.YtkfjgggiopegbaaDoorWRecord
import Derived.Test.YtkfjgggiopegbaaDoorRValid
import Derived.Test.YtkfjgggiopegbaaDoorWRecover
import Derived.Test.YtkfjgggiopegbaaDoorROne
import Derived.Test.YtkfjgggiopegbaaDoorWalR4
import Derived.Test.YtkfjgggiopegbaaDoorTie
import Derived.Test.YtkfjgggiopegbaaDoorCards
import Derived.Lay
import Derived.SevenTiedAt
import Derived.Test.YtkfjgggiopegbaaDoorBd
import Derived.Test.YtkfjgggiopegbaaDoorOpen
namespace Go.Proofs.YtkfjgggiopegbaaDoor
set_option linter.unusedVariables false
set_option linter.unusedSimpArgs false
set_option maxRecDepth 100000

theorem iteI_F {p : Prop} {inst : Decidable p} {a b : Int} (h : ¬ p) : @ite Int p inst a b = b := if_neg h
theorem rise_of : ∀ (l : List TEn) (p : Int), (∀ x ∈ l, rgeW x.2) → (∀ j, j < l.length → validM (l[j]?.getD dEn).1 (l[j]?.getD dEn).2 = true) → (∀ j, j < l.length → 0 < j → (l[j - 1]?.getD dEn).1 < (l[j]?.getD dEn).1) → (0 < l.length → p < (l[0]?.getD dEn).1) → RiseM p l
  | [], _, _, _, _, _ => trivial
  | x :: l, p, hw, hv, ha, hp => by
    refine ⟨hv 0 (by simp), hw x (List.mem_cons_self ..), hp (by simp), rise_of l x.1 (fun y hy => hw y (List.mem_cons_of_mem _ hy)) (fun j hj => hv (j + 1) (by simpa using hj)) (fun j hj h0 => ?_) (fun h => ha 1 (by simpa using h) (by omega))⟩
    have := ha (j + 1) (by simpa using hj) (by omega)
    obtain ⟨k, rfl⟩ : ∃ k, j = k + 1 := ⟨j - 1, by omega⟩
    exact this
theorem recs_snoc (l : List TEn) (i : Nat) (h : i < l.length) : recsM (l.take (i + 1)) = recsM (l.take i) ++ recordM (l[i]?.getD dEn).1 (l[i]?.getD dEn).2 := by
  unfold recsM
  rw [List.take_add_one, List.getElem?_eq_getElem h, List.flatMap_append]
  simp
theorem recs_le : ∀ (l : List TEn), (∀ x ∈ l, rgeW x.2) → (recsM l).length ≤ 26 * l.length
  | [], _ => by simp [recsM]
  | x :: l, h => by
    have e1 : recsM (x :: l) = recordM x.1 x.2 ++ recsM l := by unfold recsM; rw [List.flatMap_cons]
    have ih := recs_le l fun y hy => h y (List.mem_cons_of_mem _ hy)
    have := record_le x.1 (h x (List.mem_cons_self ..))
    rw [e1, List.length_append, List.length_cons]
    omega
theorem app_Ls2 (a b : List (List UInt8)) : a.map DV.str ++ b.map DV.str = (a ++ b).map DV.str := by rw [List.map_append]
theorem rounds_head {B : List DV → List DV → Prop} {R : List DV → Prop} {X Y : DV} {l : List DV} (h : X = Y) (k : Rounds B R (Y :: l)) : Rounds B R (X :: l) := h ▸ k
def zerM (s : List UInt8) (c t : Nat) : List UInt8 := (s.take c ++ List.replicate t 0) ++ s.drop (c + t)
theorem zer_set (s : List UInt8) (c t : Nat) (h : c + t < s.length) : (bytesN (zerM s c t)).set (c + t) 0 = bytesN (zerM s c (t + 1)) := by
  unfold zerM
  have hl : (bytesN (s.take c ++ List.replicate t 0)).length = c + t := by rw [bytes_len, List.length_append, List.length_take, List.length_replicate]; omega
  rw [bytes_app, List.set_append_right _ _ (by omega), hl, Nat.sub_self, List.drop_eq_getElem_cons h, bytes_app (s.take c ++ List.replicate (t + 1) 0)]
  have e : bytesN (s[c + t] :: s.drop (c + t + 1)) = (s[c + t].toNat : Int) :: bytesN (s.drop (c + t + 1)) := rfl
  have e2 : bytesN (s.take c ++ List.replicate (t + 1) 0) = bytesN (s.take c ++ List.replicate t 0) ++ [0] := by
    rw [List.replicate_succ', ← List.append_assoc, bytes_app (s.take c ++ List.replicate t 0)]; rfl
  rw [e, List.set_cons_zero, e2, List.append_assoc]
  rfl
theorem torn_loop {B : List DV → List DV → Prop} {R : List DV → Prop} {c : Nat} {s : List UInt8} (hs : s.length = 32) (hc : c ≤ 32)
    (hB : ∀ (k : Nat) (b : List Int), k < 32 → b.length = 32 → B [.int k, .list (b.map .int)] [.int ((k + 1 : Nat) : Int), .list ((b.set k 0).map .int)])
    (hR : R [.int ((32 : Nat) : Int), .list ((bytesN (cutM c s)).map .int)]) : Rounds B R [.int c, .list ((bytesN s).map .int)] := by
  refine rounds_at (32 - c) (fun t => [.int ((c + t : Nat) : Int), .list ((bytesN (zerM s c t)).map .int)]) ?_ (fun _ => rfl) (fun t ht => ?_) ?_
  · unfold zerM
    simp
  · rw [← zer_set s c t (by omega)]
    refine hB (c + t) _ (by omega) ?_
    unfold zerM
    rw [bytes_len, List.length_append, List.length_append, List.length_take, List.length_replicate, List.length_drop]
    omega
  · have e : c + (32 - c) = 32 := by omega
    have e2 : zerM s c (32 - c) = cutM c s := by
      unfold zerM cutM
      rw [e, hs, List.drop_eq_nil_of_le (by omega), List.append_nil]
    simp only [e, e2]
    exact hR
theorem set_Ls (l : List (List UInt8)) (j : Nat) (n : List UInt8) : (l.map DV.str).set j (.str n) = (l.set j n).map DV.str := by rw [List.map_set]

def walRecoverF (ds : List DV) : List DV := [.bool true]
/-- What the executor makes of it. -/
def walRecoverTree : PT :=
(.br (.un .not (.bin .le (.un .len (.var 0)) (.int 5)))
 (.leaf [(.bin .idx (.fn 112 .nil) (.int 0))])
 (.br (.bin .eq (.un .len (.var 0)) (.int 0))
  (.leaf [(.bin .idx (.fn 112 .nil) (.int 0))])
  (.loop 4 [(.int 0)]
   (.br (.un .not (.bin .le (.un .len (.var 0)) (.var 4)))
    (.asrt (.bin .le (.int 0) (.var 4))
     (.asrt (.bin .le (.un .len (.bin .idx (.bin .idx (.var 0) (.bin .add (.int 0) (.var 4))) (.int 1))) (.int 9223372036854775807))
      (.br (.un .not (.bin .idx (.fn 114 (.bin .cons (.bin .idx (.bin .idx (.var 0) (.bin .add (.int 0) (.var 4))) (.int 0)) (.bin .cons (.bin .idx (.bin .idx (.var 0) (.bin .add (.int 0) (.var 4))) (.int 1)) .nil))) (.int 0)))
       .fail
       (.br (.un .not (.bin .le (.var 4) (.int 0)))
        (.asrt (.bin .le (.int 0) (.tri .ite (.un .not (.bin .le (.int 0) (.un (.wrap .i64) (.bin .sub (.var 4) (.int 1))))) (.int 0) (.un (.wrap .i64) (.bin .sub (.var 4) (.int 1)))))
         (.asrt (.un .not (.bin .le (.un .len (.var 0)) (.tri .ite (.un .not (.bin .le (.int 0) (.un (.wrap .i64) (.bin .sub (.var 4) (.int 1))))) (.int 0) (.un (.wrap .i64) (.bin .sub (.var 4) (.int 1))))))
          (.br (.bin .le (.bin .idx (.bin .idx (.var 0) (.bin .add (.int 0) (.var 4))) (.int 0)) (.bin .idx (.bin .idx (.var 0) (.bin .add (.int 0) (.tri .ite (.un .not (.bin .le (.int 0) (.un (.wrap .i64) (.bin .sub (.var 4) (.int 1))))) (.int 0) (.un (.wrap .i64) (.bin .sub (.var 4) (.int 1)))))) (.int 0)))
           .fail
           (.leaf [(.un (.wrap .i64) (.bin .add (.var 4) (.int 1)))]))))
        (.leaf [(.un (.wrap .i64) (.bin .add (.var 4) (.int 1)))])))))
    .fail)
   (.br (.un .not (.bin .le (.un .len (.var 0)) (.var 4)))
    (.asrt (.bin .le (.int 0) (.var 4))
     (.asrt (.bin .le (.un .len (.bin .idx (.bin .idx (.var 0) (.bin .add (.int 0) (.var 4))) (.int 1))) (.int 9223372036854775807))
      (.br (.un .not (.bin .idx (.fn 114 (.bin .cons (.bin .idx (.bin .idx (.var 0) (.bin .add (.int 0) (.var 4))) (.int 0)) (.bin .cons (.bin .idx (.bin .idx (.var 0) (.bin .add (.int 0) (.var 4))) (.int 1)) .nil))) (.int 0)))
       (.leaf [(.bin .idx (.fn 112 .nil) (.int 0))])
       (.br (.un .not (.bin .le (.var 4) (.int 0)))
        (.asrt (.bin .le (.int 0) (.tri .ite (.un .not (.bin .le (.int 0) (.un (.wrap .i64) (.bin .sub (.var 4) (.int 1))))) (.int 0) (.un (.wrap .i64) (.bin .sub (.var 4) (.int 1)))))
         (.asrt (.un .not (.bin .le (.un .len (.var 0)) (.tri .ite (.un .not (.bin .le (.int 0) (.un (.wrap .i64) (.bin .sub (.var 4) (.int 1))))) (.int 0) (.un (.wrap .i64) (.bin .sub (.var 4) (.int 1))))))
          (.br (.bin .le (.bin .idx (.bin .idx (.var 0) (.bin .add (.int 0) (.var 4))) (.int 0)) (.bin .idx (.bin .idx (.var 0) (.bin .add (.int 0) (.tri .ite (.un .not (.bin .le (.int 0) (.un (.wrap .i64) (.bin .sub (.var 4) (.int 1))))) (.int 0) (.un (.wrap .i64) (.bin .sub (.var 4) (.int 1)))))) (.int 0)))
           (.leaf [(.bin .idx (.fn 112 .nil) (.int 0))])
           .fail)))
        .fail))))
    (.loop 5 [.nil, (.int 0), (.int 0)]
     (.br (.un .not (.bin .le (.un .len (.var 0)) (.var 7)))
      (.asrt (.bin .le (.int 0) (.var 7))
       (.br (.un .not (.bin .le (.un .len (.bin .idx (.bin .idx (.var 0) (.bin .add (.int 0) (.var 7))) (.int 1))) (.int 40)))
        .fail
        (.asrt (.bin .le (.bin .add (.un .len (.var 5)) (.un .len (.bin .idx (.fn 103 (.bin .cons (.bin .idx (.bin .idx (.var 0) (.bin .add (.int 0) (.var 7))) (.int 0)) (.bin .cons (.bin .idx (.bin .idx (.var 0) (.bin .add (.int 0) (.var 7))) (.int 1)) .nil))) (.int 0)))) (.int 4294967296))
         (.leaf [(.bin .app (.var 5) (.bin .idx (.fn 103 (.bin .cons (.bin .idx (.bin .idx (.var 0) (.bin .add (.int 0) (.var 7))) (.int 0)) (.bin .cons (.bin .idx (.bin .idx (.var 0) (.bin .add (.int 0) (.var 7))) (.int 1)) .nil))) (.int 0))), (.un .len (.var 5)), (.un (.wrap .i64) (.bin .add (.var 7) (.int 1)))]))))
      .fail)
     (.br (.un .not (.bin .le (.un .len (.var 0)) (.var 7)))
      (.asrt (.bin .le (.int 0) (.var 7))
       (.br (.un .not (.bin .le (.un .len (.bin .idx (.bin .idx (.var 0) (.bin .add (.int 0) (.var 7))) (.int 1))) (.int 40)))
        (.leaf [(.bin .idx (.fn 112 .nil) (.int 0))])
        (.asrt (.bin .le (.bin .add (.un .len (.var 5)) (.un .len (.bin .idx (.fn 103 (.bin .cons (.bin .idx (.bin .idx (.var 0) (.bin .add (.int 0) (.var 7))) (.int 0)) (.bin .cons (.bin .idx (.bin .idx (.var 0) (.bin .add (.int 0) (.var 7))) (.int 1)) .nil))) (.int 0)))) (.int 4294967296))
         .fail)))
      (.asrt (.bin .le (.un .len (.var 5)) (.int 4294967296))
       (.loop 8 [(.var 5), (.int 0)]
        (.br (.un .not (.bin .le (.un (.wrap .i64) (.bin .tmod (.var 3) (.int 9))) (.var 9)))
         (.asrt (.bin .le (.bin .add (.un .len (.var 8)) (.int 1)) (.int 4294967296))
          (.leaf [(.bin .snoc (.var 8) (.str [0, 0, 0, 0, 0, 0, 0, 0, 0, 0, 0, 0, 0, 0, 0, 0, 0, 0, 0, 0, 0, 0, 0, 0, 0, 0, 0, 0, 0, 0, 0, 0])), (.un (.wrap .i64) (.bin .add (.var 9) (.int 1)))]))
         .fail)
        (.br (.un .not (.bin .le (.un (.wrap .i64) (.bin .tmod (.var 3) (.int 9))) (.var 9)))
         (.asrt (.bin .le (.bin .add (.un .len (.var 8)) (.int 1)) (.int 4294967296))
          .fail)
         (.asrt (.bin .le (.un .len (.var 8)) (.int 1000))
          (.br (.un .not (.bin .eq (.un .len (.bin .idx (.fn 153 (.bin .cons (.var 8) .nil)) (.int 0))) (.un .len (.var 0))))
           (.leaf [(.bool false)])
           (.loop 10 [(.int 0)]
            (.br (.un .not (.bin .le (.un .len (.bin .idx (.fn 153 (.bin .cons (.var 8) .nil)) (.int 0))) (.var 10)))
             (.asrt (.bin .le (.int 0) (.var 10))
              (.asrt (.un .not (.bin .le (.un .len (.var 0)) (.var 10)))
               (.asrt (.bin .le (.un .len (.bin .idx (.bin .idx (.bin .idx (.fn 153 (.bin .cons (.var 8) .nil)) (.int 0)) (.bin .add (.int 0) (.var 10))) (.int 1))) (.int 1000000))
                (.asrt (.bin .le (.un .len (.bin .idx (.bin .idx (.var 0) (.bin .add (.int 0) (.var 10))) (.int 1))) (.int 1000000))
                 (.br (.un .not (.bin .idx (.fn 113 (.bin .cons (.bin .idx (.bin .idx (.bin .idx (.fn 153 (.bin .cons (.var 8) .nil)) (.int 0)) (.bin .add (.int 0) (.var 10))) (.int 0)) (.bin .cons (.bin .idx (.bin .idx (.bin .idx (.fn 153 (.bin .cons (.var 8) .nil)) (.int 0)) (.bin .add (.int 0) (.var 10))) (.int 1)) (.bin .cons (.bin .idx (.bin .idx (.var 0) (.bin .add (.int 0) (.var 10))) (.int 0)) (.bin .cons (.bin .idx (.bin .idx (.var 0) (.bin .add (.int 0) (.var 10))) (.int 1)) .nil))))) (.int 0)))
                  .fail
                  (.leaf [(.un (.wrap .i64) (.bin .add (.var 10) (.int 1)))]))))))
             .fail)
            (.br (.un .not (.bin .le (.un .len (.bin .idx (.fn 153 (.bin .cons (.var 8) .nil)) (.int 0))) (.var 10)))
             (.asrt (.bin .le (.int 0) (.var 10))
              (.asrt (.un .not (.bin .le (.un .len (.var 0)) (.var 10)))
               (.asrt (.bin .le (.un .len (.bin .idx (.bin .idx (.bin .idx (.fn 153 (.bin .cons (.var 8) .nil)) (.int 0)) (.bin .add (.int 0) (.var 10))) (.int 1))) (.int 1000000))
                (.asrt (.bin .le (.un .len (.bin .idx (.bin .idx (.var 0) (.bin .add (.int 0) (.var 10))) (.int 1))) (.int 1000000))
                 (.br (.un .not (.bin .idx (.fn 113 (.bin .cons (.bin .idx (.bin .idx (.bin .idx (.fn 153 (.bin .cons (.var 8) .nil)) (.int 0)) (.bin .add (.int 0) (.var 10))) (.int 0)) (.bin .cons (.bin .idx (.bin .idx (.bin .idx (.fn 153 (.bin .cons (.var 8) .nil)) (.int 0)) (.bin .add (.int 0) (.var 10))) (.int 1)) (.bin .cons (.bin .idx (.bin .idx (.var 0) (.bin .add (.int 0) (.var 10))) (.int 0)) (.bin .cons (.bin .idx (.bin .idx (.var 0) (.bin .add (.int 0) (.var 10))) (.int 1)) .nil))))) (.int 0)))
                  (.leaf [(.bool false)])
                  .fail)))))
             (.br (.un .not (.bin .eq (.bin .idx (.fn 153 (.bin .cons (.var 8) .nil)) (.int 1)) (.un .len (.var 5))))
              (.leaf [(.bool false)])
              (.br (.bin .le (.un .len (.var 5)) (.var 6))
               (.leaf [(.bool false)])
               (.asrt (.un .not (.bin .eq (.un (.wrap .i64) (.bin .sub (.un .len (.var 5)) (.var 6))) (.int 0)))
                (.asrt (.bin .le (.int 0) (.un (.wrap .i64) (.bin .add (.var 6) (.bin .tmod (.un (.wrap .i64) (.var 1)) (.un (.wrap .i64) (.bin .sub (.un .len (.var 5)) (.var 6)))))))
                 (.asrt (.un .not (.bin .le (.un .len (.var 5)) (.un (.wrap .i64) (.bin .add (.var 6) (.bin .tmod (.un (.wrap .i64) (.var 1)) (.un (.wrap .i64) (.bin .sub (.un .len (.var 5)) (.var 6))))))))
                  (.br (.un .not (.bin .eq (.un .slen (.bin .idx (.var 5) (.bin .add (.int 0) (.un (.wrap .i64) (.bin .add (.var 6) (.bin .tmod (.un (.wrap .i64) (.var 1)) (.un (.wrap .i64) (.bin .sub (.un .len (.var 5)) (.var 6))))))))) (.int 32)))
                   (.leaf [(.bool false)])
                   (.loop 11 [(.un (.wrap .i64) (.bin .tmod (.var 2) (.int 32))), (.un .bytes (.bin .idx (.var 5) (.bin .add (.int 0) (.un (.wrap .i64) (.bin .add (.var 6) (.bin .tmod (.un (.wrap .i64) (.var 1)) (.un (.wrap .i64) (.bin .sub (.un .len (.var 5)) (.var 6)))))))))]
                    (.br (.un .not (.bin .le (.int 32) (.var 11)))
                     (.asrt (.bin .le (.int 0) (.var 11))
                      (.asrt (.un .not (.bin .le (.un .len (.var 12)) (.bin .add (.int 0) (.var 11))))
                       (.leaf [(.un (.wrap .i64) (.bin .add (.var 11) (.int 1))), (.tri .set (.var 12) (.bin .add (.int 0) (.var 11)) (.int 0))])))
                     .fail)
                    (.br (.un .not (.bin .le (.int 32) (.var 11)))
                     (.asrt (.bin .le (.int 0) (.var 11))
                      (.asrt (.un .not (.bin .le (.un .len (.var 12)) (.bin .add (.int 0) (.var 11))))
                       .fail))
                     (.asrt (.bin .le (.bin .add (.int 0) (.un .slen (.bin .idx (.var 5) (.bin .add (.int 0) (.un (.wrap .i64) (.bin .add (.var 6) (.bin .tmod (.un (.wrap .i64) (.var 1)) (.un (.wrap .i64) (.bin .sub (.un .len (.var 5)) (.var 6)))))))))) (.un .len (.var 12)))
                      (.asrt (.un .not (.bin .le (.un .len (.var 8)) (.un (.wrap .i64) (.bin .add (.var 6) (.bin .tmod (.un (.wrap .i64) (.var 1)) (.un (.wrap .i64) (.bin .sub (.un .len (.var 5)) (.var 6))))))))
                       (.loop 13 [(.un (.wrap .i64) (.bin .add (.un (.wrap .i64) (.bin .add (.var 6) (.bin .tmod (.un (.wrap .i64) (.var 1)) (.un (.wrap .i64) (.bin .sub (.un .len (.var 5)) (.var 6)))))) (.int 1))), (.tri .set (.var 8) (.bin .add (.int 0) (.un (.wrap .i64) (.bin .add (.var 6) (.bin .tmod (.un (.wrap .i64) (.var 1)) (.un (.wrap .i64) (.bin .sub (.un .len (.var 5)) (.var 6))))))) (.un .str8 (.bin .take (.bin .drop (.var 12) (.int 0)) (.un .slen (.bin .idx (.var 5) (.bin .add (.int 0) (.un (.wrap .i64) (.bin .add (.var 6) (.bin .tmod (.un (.wrap .i64) (.var 1)) (.un (.wrap .i64) (.bin .sub (.un .len (.var 5)) (.var 6))))))))))))]
                        (.br (.un .not (.bin .le (.un .len (.var 8)) (.var 13)))
                         (.asrt (.bin .le (.int 0) (.var 13))
                          (.asrt (.un .not (.bin .le (.un .len (.var 14)) (.bin .add (.int 0) (.var 13))))
                           (.leaf [(.un (.wrap .i64) (.bin .add (.var 13) (.int 1))), (.tri .set (.var 14) (.bin .add (.int 0) (.var 13)) (.str [0, 0, 0, 0, 0, 0, 0, 0, 0, 0, 0, 0, 0, 0, 0, 0, 0, 0, 0, 0, 0, 0, 0, 0, 0, 0, 0, 0, 0, 0, 0, 0]))])))
                         .fail)
                        (.br (.un .not (.bin .le (.un .len (.var 8)) (.var 13)))
                         (.asrt (.bin .le (.int 0) (.var 13))
                          (.asrt (.un .not (.bin .le (.un .len (.var 14)) (.bin .add (.int 0) (.var 13))))
                           .fail))
                         (.asrt (.bin .le (.bin .add (.int 0) (.un .len (.var 8))) (.un .len (.var 14)))
                          (.asrt (.bin .le (.un .len (.bin .take (.bin .drop (.var 14) (.int 0)) (.un .len (.var 8)))) (.int 1000))
                           (.asrt (.un .not (.bin .le (.un .len (.var 14)) (.bin .add (.int 0) (.un (.wrap .i64) (.bin .add (.var 6) (.bin .tmod (.un (.wrap .i64) (.var 1)) (.un (.wrap .i64) (.bin .sub (.un .len (.var 5)) (.var 6)))))))))
                            (.br (.bin .eqs (.bin .idx (.var 14) (.bin .add (.int 0) (.un (.wrap .i64) (.bin .add (.var 6) (.bin .tmod (.un (.wrap .i64) (.var 1)) (.un (.wrap .i64) (.bin .sub (.un .len (.var 5)) (.var 6)))))))) (.bin .idx (.var 5) (.bin .add (.int 0) (.un (.wrap .i64) (.bin .add (.var 6) (.bin .tmod (.un (.wrap .i64) (.var 1)) (.un (.wrap .i64) (.bin .sub (.un .len (.var 5)) (.var 6)))))))))
                             (.br (.bin .eq (.un (.wrap .i64) (.bin .add (.var 6) (.bin .tmod (.un (.wrap .i64) (.var 1)) (.un (.wrap .i64) (.bin .sub (.un .len (.var 5)) (.var 6)))))) (.un (.wrap .i64) (.bin .sub (.un .len (.var 5)) (.int 1))))
                              (.br (.bin .idx (.fn 112 .nil) (.int 0))
                               (.br (.un .not (.bin .eq (.un .len (.bin .idx (.fn 153 (.bin .cons (.bin .take (.bin .drop (.var 14) (.int 0)) (.un .len (.var 8))) .nil)) (.int 0))) (.un .len (.var 0))))
                                (.leaf [(.bool false)])
                                (.loop 15 [(.int 0)]
                                 (.br (.un .not (.bin .le (.un .len (.bin .idx (.fn 153 (.bin .cons (.bin .take (.bin .drop (.var 14) (.int 0)) (.un .len (.var 8))) .nil)) (.int 0))) (.var 15)))
                                  (.asrt (.bin .le (.int 0) (.var 15))
                                   (.asrt (.un .not (.bin .le (.un .len (.var 0)) (.var 15)))
                                    (.asrt (.bin .le (.un .len (.bin .idx (.bin .idx (.bin .idx (.fn 153 (.bin .cons (.bin .take (.bin .drop (.var 14) (.int 0)) (.un .len (.var 8))) .nil)) (.int 0)) (.bin .add (.int 0) (.var 15))) (.int 1))) (.int 1000000))
                                     (.asrt (.bin .le (.un .len (.bin .idx (.bin .idx (.var 0) (.bin .add (.int 0) (.var 15))) (.int 1))) (.int 1000000))
                                      (.br (.un .not (.bin .idx (.fn 113 (.bin .cons (.bin .idx (.bin .idx (.bin .idx (.fn 153 (.bin .cons (.bin .take (.bin .drop (.var 14) (.int 0)) (.un .len (.var 8))) .nil)) (.int 0)) (.bin .add (.int 0) (.var 15))) (.int 0)) (.bin .cons (.bin .idx (.bin .idx (.bin .idx (.fn 153 (.bin .cons (.bin .take (.bin .drop (.var 14) (.int 0)) (.un .len (.var 8))) .nil)) (.int 0)) (.bin .add (.int 0) (.var 15))) (.int 1)) (.bin .cons (.bin .idx (.bin .idx (.var 0) (.bin .add (.int 0) (.var 15))) (.int 0)) (.bin .cons (.bin .idx (.bin .idx (.var 0) (.bin .add (.int 0) (.var 15))) (.int 1)) .nil))))) (.int 0)))
                                       .fail
                                       (.leaf [(.un (.wrap .i64) (.bin .add (.var 15) (.int 1)))]))))))
                                  .fail)
                                 (.br (.un .not (.bin .le (.un .len (.bin .idx (.fn 153 (.bin .cons (.bin .take (.bin .drop (.var 14) (.int 0)) (.un .len (.var 8))) .nil)) (.int 0))) (.var 15)))
                                  (.asrt (.bin .le (.int 0) (.var 15))
                                   (.asrt (.un .not (.bin .le (.un .len (.var 0)) (.var 15)))
                                    (.asrt (.bin .le (.un .len (.bin .idx (.bin .idx (.bin .idx (.fn 153 (.bin .cons (.bin .take (.bin .drop (.var 14) (.int 0)) (.un .len (.var 8))) .nil)) (.int 0)) (.bin .add (.int 0) (.var 15))) (.int 1))) (.int 1000000))
                                     (.asrt (.bin .le (.un .len (.bin .idx (.bin .idx (.var 0) (.bin .add (.int 0) (.var 15))) (.int 1))) (.int 1000000))
                                      (.br (.un .not (.bin .idx (.fn 113 (.bin .cons (.bin .idx (.bin .idx (.bin .idx (.fn 153 (.bin .cons (.bin .take (.bin .drop (.var 14) (.int 0)) (.un .len (.var 8))) .nil)) (.int 0)) (.bin .add (.int 0) (.var 15))) (.int 0)) (.bin .cons (.bin .idx (.bin .idx (.bin .idx (.fn 153 (.bin .cons (.bin .take (.bin .drop (.var 14) (.int 0)) (.un .len (.var 8))) .nil)) (.int 0)) (.bin .add (.int 0) (.var 15))) (.int 1)) (.bin .cons (.bin .idx (.bin .idx (.var 0) (.bin .add (.int 0) (.var 15))) (.int 0)) (.bin .cons (.bin .idx (.bin .idx (.var 0) (.bin .add (.int 0) (.var 15))) (.int 1)) .nil))))) (.int 0)))
                                       (.leaf [(.bool false)])
                                       .fail)))))
                                  (.leaf [(.bin .eq (.bin .idx (.fn 153 (.bin .cons (.bin .take (.bin .drop (.var 14) (.int 0)) (.un .len (.var 8))) .nil)) (.int 1)) (.un .len (.var 5)))]))))
                               (.leaf [(.bool false)]))
                              (.br (.bin .idx (.fn 112 .nil) (.int 0))
                               (.br (.un .not (.bin .eq (.un .len (.bin .idx (.fn 153 (.bin .cons (.bin .take (.bin .drop (.var 14) (.int 0)) (.un .len (.var 8))) .nil)) (.int 0))) (.bin .sub (.un (.wrap .i64) (.bin .sub (.un .len (.var 0)) (.int 1))) (.int 0))))
                                (.leaf [(.bool false)])
                                (.loop 15 [(.int 0)]
                                 (.br (.un .not (.bin .le (.un .len (.bin .idx (.fn 153 (.bin .cons (.bin .take (.bin .drop (.var 14) (.int 0)) (.un .len (.var 8))) .nil)) (.int 0))) (.var 15)))
                                  (.asrt (.bin .le (.int 0) (.var 15))
                                   (.asrt (.un .not (.bin .le (.bin .sub (.un (.wrap .i64) (.bin .sub (.un .len (.var 0)) (.int 1))) (.int 0)) (.var 15)))
                                    (.asrt (.bin .le (.un .len (.bin .idx (.bin .idx (.bin .idx (.fn 153 (.bin .cons (.bin .take (.bin .drop (.var 14) (.int 0)) (.un .len (.var 8))) .nil)) (.int 0)) (.bin .add (.int 0) (.var 15))) (.int 1))) (.int 1000000))
                                     (.asrt (.bin .le (.un .len (.bin .idx (.bin .idx (.var 0) (.bin .add (.int 0) (.var 15))) (.int 1))) (.int 1000000))
                                      (.br (.un .not (.bin .idx (.fn 113 (.bin .cons (.bin .idx (.bin .idx (.bin .idx (.fn 153 (.bin .cons (.bin .take (.bin .drop (.var 14) (.int 0)) (.un .len (.var 8))) .nil)) (.int 0)) (.bin .add (.int 0) (.var 15))) (.int 0)) (.bin .cons (.bin .idx (.bin .idx (.bin .idx (.fn 153 (.bin .cons (.bin .take (.bin .drop (.var 14) (.int 0)) (.un .len (.var 8))) .nil)) (.int 0)) (.bin .add (.int 0) (.var 15))) (.int 1)) (.bin .cons (.bin .idx (.bin .idx (.var 0) (.bin .add (.int 0) (.var 15))) (.int 0)) (.bin .cons (.bin .idx (.bin .idx (.var 0) (.bin .add (.int 0) (.var 15))) (.int 1)) .nil))))) (.int 0)))
                                       .fail
                                       (.leaf [(.un (.wrap .i64) (.bin .add (.var 15) (.int 1)))]))))))
                                  .fail)
                                 (.br (.un .not (.bin .le (.un .len (.bin .idx (.fn 153 (.bin .cons (.bin .take (.bin .drop (.var 14) (.int 0)) (.un .len (.var 8))) .nil)) (.int 0))) (.var 15)))
                                  (.asrt (.bin .le (.int 0) (.var 15))
                                   (.asrt (.un .not (.bin .le (.bin .sub (.un (.wrap .i64) (.bin .sub (.un .len (.var 0)) (.int 1))) (.int 0)) (.var 15)))
                                    (.asrt (.bin .le (.un .len (.bin .idx (.bin .idx (.bin .idx (.fn 153 (.bin .cons (.bin .take (.bin .drop (.var 14) (.int 0)) (.un .len (.var 8))) .nil)) (.int 0)) (.bin .add (.int 0) (.var 15))) (.int 1))) (.int 1000000))
                                     (.asrt (.bin .le (.un .len (.bin .idx (.bin .idx (.var 0) (.bin .add (.int 0) (.var 15))) (.int 1))) (.int 1000000))
                                      (.br (.un .not (.bin .idx (.fn 113 (.bin .cons (.bin .idx (.bin .idx (.bin .idx (.fn 153 (.bin .cons (.bin .take (.bin .drop (.var 14) (.int 0)) (.un .len (.var 8))) .nil)) (.int 0)) (.bin .add (.int 0) (.var 15))) (.int 0)) (.bin .cons (.bin .idx (.bin .idx (.bin .idx (.fn 153 (.bin .cons (.bin .take (.bin .drop (.var 14) (.int 0)) (.un .len (.var 8))) .nil)) (.int 0)) (.bin .add (.int 0) (.var 15))) (.int 1)) (.bin .cons (.bin .idx (.bin .idx (.var 0) (.bin .add (.int 0) (.var 15))) (.int 0)) (.bin .cons (.bin .idx (.bin .idx (.var 0) (.bin .add (.int 0) (.var 15))) (.int 1)) .nil))))) (.int 0)))
                                       (.leaf [(.bool false)])
                                       .fail)))))
                                  (.leaf [(.bin .eq (.bin .idx (.fn 153 (.bin .cons (.bin .take (.bin .drop (.var 14) (.int 0)) (.un .len (.var 8))) .nil)) (.int 1)) (.var 6))]))))
                               (.leaf [(.bool false)])))
                             (.br (.bin .idx (.fn 112 .nil) (.int 0))
                              (.br (.un .not (.bin .eq (.un .len (.bin .idx (.fn 153 (.bin .cons (.bin .take (.bin .drop (.var 14) (.int 0)) (.un .len (.var 8))) .nil)) (.int 0))) (.bin .sub (.un (.wrap .i64) (.bin .sub (.un .len (.var 0)) (.int 1))) (.int 0))))
                               (.leaf [(.bool false)])
                               (.loop 15 [(.int 0)]
                                (.br (.un .not (.bin .le (.un .len (.bin .idx (.fn 153 (.bin .cons (.bin .take (.bin .drop (.var 14) (.int 0)) (.un .len (.var 8))) .nil)) (.int 0))) (.var 15)))
                                 (.asrt (.bin .le (.int 0) (.var 15))
                                  (.asrt (.un .not (.bin .le (.bin .sub (.un (.wrap .i64) (.bin .sub (.un .len (.var 0)) (.int 1))) (.int 0)) (.var 15)))
                                   (.asrt (.bin .le (.un .len (.bin .idx (.bin .idx (.bin .idx (.fn 153 (.bin .cons (.bin .take (.bin .drop (.var 14) (.int 0)) (.un .len (.var 8))) .nil)) (.int 0)) (.bin .add (.int 0) (.var 15))) (.int 1))) (.int 1000000))
                                    (.asrt (.bin .le (.un .len (.bin .idx (.bin .idx (.var 0) (.bin .add (.int 0) (.var 15))) (.int 1))) (.int 1000000))
                                     (.br (.un .not (.bin .idx (.fn 113 (.bin .cons (.bin .idx (.bin .idx (.bin .idx (.fn 153 (.bin .cons (.bin .take (.bin .drop (.var 14) (.int 0)) (.un .len (.var 8))) .nil)) (.int 0)) (.bin .add (.int 0) (.var 15))) (.int 0)) (.bin .cons (.bin .idx (.bin .idx (.bin .idx (.fn 153 (.bin .cons (.bin .take (.bin .drop (.var 14) (.int 0)) (.un .len (.var 8))) .nil)) (.int 0)) (.bin .add (.int 0) (.var 15))) (.int 1)) (.bin .cons (.bin .idx (.bin .idx (.var 0) (.bin .add (.int 0) (.var 15))) (.int 0)) (.bin .cons (.bin .idx (.bin .idx (.var 0) (.bin .add (.int 0) (.var 15))) (.int 1)) .nil))))) (.int 0)))
                                      .fail
                                      (.leaf [(.un (.wrap .i64) (.bin .add (.var 15) (.int 1)))]))))))
                                 .fail)
                                (.br (.un .not (.bin .le (.un .len (.bin .idx (.fn 153 (.bin .cons (.bin .take (.bin .drop (.var 14) (.int 0)) (.un .len (.var 8))) .nil)) (.int 0))) (.var 15)))
                                 (.asrt (.bin .le (.int 0) (.var 15))
                                  (.asrt (.un .not (.bin .le (.bin .sub (.un (.wrap .i64) (.bin .sub (.un .len (.var 0)) (.int 1))) (.int 0)) (.var 15)))
                                   (.asrt (.bin .le (.un .len (.bin .idx (.bin .idx (.bin .idx (.fn 153 (.bin .cons (.bin .take (.bin .drop (.var 14) (.int 0)) (.un .len (.var 8))) .nil)) (.int 0)) (.bin .add (.int 0) (.var 15))) (.int 1))) (.int 1000000))
                                    (.asrt (.bin .le (.un .len (.bin .idx (.bin .idx (.var 0) (.bin .add (.int 0) (.var 15))) (.int 1))) (.int 1000000))
                                     (.br (.un .not (.bin .idx (.fn 113 (.bin .cons (.bin .idx (.bin .idx (.bin .idx (.fn 153 (.bin .cons (.bin .take (.bin .drop (.var 14) (.int 0)) (.un .len (.var 8))) .nil)) (.int 0)) (.bin .add (.int 0) (.var 15))) (.int 0)) (.bin .cons (.bin .idx (.bin .idx (.bin .idx (.fn 153 (.bin .cons (.bin .take (.bin .drop (.var 14) (.int 0)) (.un .len (.var 8))) .nil)) (.int 0)) (.bin .add (.int 0) (.var 15))) (.int 1)) (.bin .cons (.bin .idx (.bin .idx (.var 0) (.bin .add (.int 0) (.var 15))) (.int 0)) (.bin .cons (.bin .idx (.bin .idx (.var 0) (.bin .add (.int 0) (.var 15))) (.int 1)) .nil))))) (.int 0)))
                                      (.leaf [(.bool false)])
                                      .fail)))))
                                 (.leaf [(.bin .eq (.bin .idx (.fn 153 (.bin .cons (.bin .take (.bin .drop (.var 14) (.int 0)) (.un .len (.var 8))) .nil)) (.int 1)) (.var 6))]))))
                              (.leaf [(.bool false)])))))))))))))))))))))))))))))))

def walRecoverSm : List (Nat × Smy) := [(8, ⟨112, [], [.one (.pl .bool)], fun _ => [], none⟩), (18, ⟨103, [.agg [.pl (.int .i64), .rows false [.int .i64, .int .i64]]], [.one (.rows true [.str])], lenC [(1, 40)], none⟩), (72, ⟨114, [.agg [.pl (.int .i64), .rows false [.int .i64, .int .i64]]], [.one (.pl .bool)], lenC [(1, 9223372036854775807)], none⟩), (12, ⟨153, [.one (.rows false [.str])], [.one (.nst [.pl (.int .i64), .sub [.int .i64, .int .i64]]), .one (.pl (.int .i64))], lenC [(0, 1000)], none⟩), (14, ⟨113, [.agg [.pl (.int .i64), .rows false [.int .i64, .int .i64]], .agg [.pl (.int .i64), .rows false [.int .i64, .int .i64]]], [.one (.pl .bool)], lenC [(1, 1000000), (3, 1000000)], none⟩)]
def walRecoverLa : List (LK × LA) := [(⟨29, 4, 30, 15, 25⟩, ⟨[(5, (.int .i64 (.var 15))), (6, .any), (12, .any), (13, .any), (14, .any), (15, .any), (16, .any), (17, .any), (18, .any), (19, .any), (20, .any), (21, .any), (22, .any), (23, .any), (24, .any), (25, .any), (26, .any), (27, .any), (28, .any)], [], [], 1, 0⟩),
  (⟨29, 4, 30, 15, 26⟩, ⟨[(5, (.int .i64 (.var 15))), (6, .any), (12, .any), (13, .any), (14, .any), (15, .any), (16, .any), (17, .any), (18, .any), (19, .any), (20, .any), (21, .any), (22, .any), (23, .any), (24, .any), (25, .any), (26, .any), (27, .any), (28, .any)], [], [], 1, 0⟩),
  (⟨194, 33, 13, 13, 18⟩, ⟨[(22, (.int .i64 (.var 13))), (136, .any), (137, .any), (138, .any), (139, .any), (140, .any), (141, .any), (142, .any), (143, .any), (144, .any), (145, .any)], [(12, (.rows [.str] (.var 14)))], [], 2, 0⟩),
  (⟨194, 27, 11, 11, 15⟩, ⟨[(20, (.int .i64 (.var 11))), (119, .any), (120, .any), (121, .any), (122, .any), (123, .any), (124, .any), (125, .any)], [(10, (.rows [.int .u8] (.var 12)))], [], 2, 0⟩),
  (⟨29, 4, 10, 10, 8⟩, ⟨[(5, (.int .i64 (.var 10))), (6, .any), (12, .any), (13, .any), (14, .any), (15, .any), (16, .any), (17, .any), (18, .any), (19, .any), (20, .any), (21, .any), (22, .any), (23, .any), (24, .any), (25, .any), (26, .any), (27, .any), (28, .any)], [], [], 1, 0⟩),
  (⟨194, 16, 8, 8, 5⟩, ⟨[(14, (.sl 8 1 (.int 0) (.un .len (.var 8)) none)), (15, (.int .i64 (.var 9))), (67, .any), (68, .any), (69, .any), (70, .any), (71, .any), (72, .any), (73, .any), (74, .any), (75, .any), (76, .any), (77, .any)], [(8, (.rows [.str] (.var 8)))], [7], 2, 1⟩),
  (⟨194, 7, 4, 5, 3⟩, ⟨[(10, (.sl 4 1 (.int 0) (.un .len (.var 5)) none)), (11, (.int .i64 (.var 6))), (12, (.int .i64 (.var 7))), (40, .any), (41, .any), (42, .any), (43, .any), (44, .any), (45, .any), (46, .any), (47, .any), (48, .any), (49, .any), (50, .any), (51, .any), (52, .any), (53, .any), (54, .any), (55, .any), (56, .any), (57, .any), (58, .any), (59, .any), (60, .any), (61, .any)], [(4, (.rows [.str] (.var 5)))], [], 3, 1⟩),
  (⟨37, 2, 4, 4, 2⟩, ⟨[(3, (.int .i64 (.var 4))), (4, .any), (5, .any), (6, .any), (7, .any), (8, .any), (9, .any), (10, .any), (11, .any), (12, .any), (13, .any), (14, .any), (15, .any), (16, .any), (17, .any), (18, .any), (19, .any), (20, .any), (21, .any), (22, .any), (23, .any), (24, .any), (25, .any), (26, .any), (27, .any), (28, .any), (29, .any), (30, .any), (31, .any), (32, .any), (33, .any), (34, .any), (35, .any), (36, .any)], [], [], 1, 0⟩)]
def walRecoverPhi : Fs := ⟨fun n d => match n with
  | 112 => .list (lSane23F d.l)
  | 103 => .list (wRecordF d.l)
  | 114 => .list (rValidF d.l)
  | 153 => .list (wRecoverF d.l)
  | 113 => .list (rOneF d.l)
  | _ => d, 147⟩
theorem walRecoverS : SmyOk false Tryd.prog walRecoverPhi walRecoverSm := (smy_cons (fun _ => True) lSane23F lSane23_pure (fun _ _ _ _ => trivial) (fun _ => rfl) (fun _ h => by cases h) (smy_cons (lenP [(1, 40)]) wRecordF wRecord_pure (len_hp [(1, 40)]) (fun _ => rfl) (fun _ h => by cases h) (smy_cons (lenP [(1, 9223372036854775807)]) rValidF rValid_pure.wide (len_hp [(1, 9223372036854775807)]) (fun _ => rfl) (fun _ h => by cases h) (smy_cons (lenP [(0, 1000)]) wRecoverF wRecover_pure.wide (len_hp [(0, 1000)]) (fun _ => rfl) (fun _ h => by cases h) (smy_cons (lenP [(1, 1000000), (3, 1000000)]) rOneF rOne_pure.wide (len_hp [(1, 1000000), (3, 1000000)]) (fun _ => rfl) (fun _ h => by cases h) smy_nil)))))
theorem walRecoverT : treeOk ⟨Tryd.prog, walRecoverSm, walRecoverLa, false⟩ 4000 4 [.one (.nst [.pl (.int .i64), .sub [.int .i64, .int .i64]]), .one (.pl (.int .u8)), .one (.pl (.int .u8)), .one (.pl (.int .u8))] [.one (.pl .bool)] (rng 0 9223372036854775807 (.un .len (.var 0)) ++ (rng (0) 255 (.var 1) ++ (rng (0) 255 (.var 2) ++ (rng (0) 255 (.var 3) ++ ([]))))) walRecoverTree = true := by decide +kernel
set_option maxHeartbeats 1000000 in
theorem walRecover_pure : PureE false Tryd.prog 4 [.one (.nst [.pl (.int .i64), .sub [.int .i64, .int .i64]]), .one (.pl (.int .u8)), .one (.pl (.int .u8)), .one (.pl (.int .u8))] [.one (.pl .bool)] (Wts (clsOf [.one (.nst [.pl (.int .i64), .sub [.int .i64, .int .i64]]), .one (.pl (.int .u8)), .one (.pl (.int .u8)), .one (.pl (.int .u8))])) walRecoverF := by
  refine pure_tree (X := ⟨Tryd.prog, walRecoverSm, walRecoverLa, false⟩) (by decide +kernel) (Checked.mixed Tryd.checked) walRecoverS (by decide +kernel) (by decide +kernel) walRecoverT (by decide +kernel) ?_
  intro ds hl hp
  obtain ⟨d0, d1, d2, d3, rfl⟩ := len4 hl
  obtain ⟨_, _, he, w0, hp⟩ := hp
  cases he
  have b0 : ((d0.l.map decEn).length : Int) ≤ 9223372036854775807 := by rw [List.length_map]; exact wt_lenN w0
  have v0 := wt_En w0
  clear w0
  obtain ⟨_, _, he, w1, hp⟩ := hp
  cases he
  have r1 : 0 ≤ d1.i ∧ d1.i ≤ 255 := wt_i w1 rfl rfl
  clear w1
  obtain ⟨_, _, he, w2, hp⟩ := hp
  cases he
  have r2 : 0 ≤ d2.i ∧ d2.i ≤ 255 := wt_i w2 rfl rfl
  clear w2
  obtain ⟨_, _, he, w3, hp⟩ := hp
  cases he
  have r3 : 0 ≤ d3.i ∧ d3.i ≤ 255 := wt_i w3 rfl rfl
  clear w3
  have hN : nrmL (clsOf [.one (.nst [.pl (.int .i64), .sub [.int .i64, .int .i64]]), .one (.pl (.int .u8)), .one (.pl (.int .u8)), .one (.pl (.int .u8))]) [d0, d1, d2, d3] = [.list ((d0.l.map decEn).map encEn), .int d1.i, .int d2.i, .int d3.i] := by
    simp only [clsOf, Sh.cls, List.append_nil, List.cons_append, List.nil_append, nrmL, Cl.nrm, CK.nrm, map_LEn]
  have hF : walRecoverF [d0, d1, d2, d3] = [.bool true] := rfl
  rw [hN, hF]
  clear hN hp hl hF
  generalize d0.l.map decEn = x0 at b0 v0 ⊢
  generalize d1.i = x1 at r1 ⊢
  generalize d2.i = x2 at r2 ⊢
  generalize d3.i = x3 at r3 ⊢
  refine ⟨(rng_ok (e := .un .len (.var 0)) (Int.natCast_nonneg _) (by show ((x0.map _).length : Int) ≤ _; rw [List.length_map]; exact b0) (rng_ok (e := .var 1) r1.1 r1.2 (rng_ok (e := .var 2) r2.1 r2.2 (rng_ok (e := .var 3) r3.1 r3.2 (facts_nil _))))), ?_⟩
  unfold walRecoverTree
  simp only [Sat, clsOf, Sh.cls, List.append_nil, List.cons_append, List.nil_append, nrmL, Cl.nrm, CK.nrm, List.map_cons, List.map_nil, List.length_cons, List.length_nil, List.cons.injEq, DV.bool.injEq, DV.int.injEq, DV.list.injEq, DV.str.injEq, and_true, true_and]
  simp only [q_le, q_eq, q_eqs, q_eqb, q_and, q_or, q_not, q_bool, iff_true, iff_false, Bool.not_true, Bool.not_false, Bool.false_eq_true, Bool.true_eq_false, eq_self, Bool.not_not]
  simp only [Bool.not_true, Bool.not_false, Bool.true_eq_false, SE.den, evU, evT, ev_le, ev_eq, ev_eqs, ev_eqb, ev_slt, ev_and, ev_or, ev_add, ev_sub, ev_mul, ev_tdiv, ev_tmod, ev_band, ev_bor, ev_bxor, ev_bandn, ev_shl, ev_shr, ev_cat, ev_byte, ev_idx, ev_cons, ev_snoc, ev_app, ev_take, ev_drop, ev_stake, ev_sdrop, ev_rep, leB_q, eqB_q, eqsB_q, not_q, i_if, b_if, l_if, s_if, i_int, b_bool, s_str, l_list, envL, List.getElem?_cons_succ, List.getElem?_cons_zero, List.getElem?_nil, Option.getD_some, Option.getD_none, Int.toNat_natCast, Int.toNat_zero, Int.reduceToNat, List.length_map, get_Li, get_Lb, get_Ls, set_Li, inj_Li, inj_Lb, inj_Ls, rows_i, rows_b, rows_s, Int.zero_add, iff_true, iff_false, and_true, true_and, Bool.false_eq_true, eq_self, not_true_eq_false, not_false_eq_true, List.length_replicate, DV.int.injEq, DV.bool.injEq, DV.str.injEq, DV.list.injEq, List.cons.injEq, f_En_0, rows_En, inj_LEn, f_En_1, rows_En, inj_LEn, f_ii_0, rows_ii, inj_Lii, f_ii_1, rows_ii, inj_Lii, walRecoverPhi, lSane23F, lSane23E, wRecordF, wRecordE, rValidF, rValidE, wRecoverF, wRecoverE, rOneF, rOneE, gi, gb, gs, gLi, gLu, gLb, gLs, dece_i, dece_b, dece_s, gLEn, deces_En, gLii, deces_ii, lSane23E]
  refine ⟨fun _ => trivial, fun h5 => ⟨fun _ => trivial, fun h0 => ?_⟩⟩
  have hwl : ∀ i : Nat, ((x0[i]?.getD dEn).2.length : Int) ≤ 9223372036854775807 := fun i => by
    cases h : x0[i]? with
    | none => simp [dEn]
    | some e => exact (v0 e (List.mem_of_getElem? h)).2.1
  have hmn : ∀ i : Nat, i < x0.length → 0 < i → ¬ ¬ (0 : Int) ≤ IntKind.i64.wrap ((i : Int) - 1) := fun i hi h => by
    rw [w64 (by omega) (by omega)]
    omega
  have hmw : ∀ i : Nat, i < x0.length → 0 < i → IntKind.i64.wrap ((i : Int) - 1) = ((i - 1 : Nat) : Int) := fun i hi h => by
    rw [w64 (by omega) (by omega)]
    omega
  refine rounds_find x0.length (fun i => [DV.int i]) (fun i => validM (x0[i]?.getD dEn).1 (x0[i]?.getD dEn).2 = false ∨ (0 < i ∧ (x0[i]?.getD dEn).1 ≤ (x0[i - 1]?.getD dEn).1)) rfl (fun _ => rfl) (fun i hi hs hj => ?_) (fun i hi hs hj => ?_) (fun hj => ?_)
  · have hw1 : IntKind.i64.wrap ((i : Int) + 1) = ((i + 1 : Nat) : Int) := by rw [w64 (by omega) (by omega)]; omega
    have hl := hwl i
    simp only [Bool.not_true, Bool.not_false, Bool.true_eq_false, SE.den, evU, evT, ev_le, ev_eq, ev_eqs, ev_eqb, ev_slt, ev_and, ev_or, ev_add, ev_sub, ev_mul, ev_tdiv, ev_tmod, ev_band, ev_bor, ev_bxor, ev_bandn, ev_shl, ev_shr, ev_cat, ev_byte, ev_idx, ev_cons, ev_snoc, ev_app, ev_take, ev_drop, ev_stake, ev_sdrop, ev_rep, leB_q, eqB_q, eqsB_q, not_q, i_if, b_if, l_if, s_if, i_int, b_bool, s_str, l_list, envL, List.getElem?_cons_succ, List.getElem?_cons_zero, List.getElem?_nil, Option.getD_some, Option.getD_none, Int.toNat_natCast, Int.toNat_zero, Int.reduceToNat, List.length_map, get_Li, get_Lb, get_Ls, set_Li, inj_Li, inj_Lb, inj_Ls, rows_i, rows_b, rows_s, Int.zero_add, iff_true, iff_false, and_true, true_and, Bool.false_eq_true, eq_self, not_true_eq_false, not_false_eq_true, List.length_replicate, DV.int.injEq, DV.bool.injEq, DV.str.injEq, DV.list.injEq, List.cons.injEq, f_En_0, rows_En, inj_LEn, f_En_1, rows_En, inj_LEn, f_ii_0, rows_ii, inj_Lii, f_ii_1, rows_ii, inj_Lii, hw1]
    refine ⟨fun _ => ⟨by omega, hl, fun h => hs (.inl h), fun _ => ⟨fun hp => ?_, fun _ => trivial⟩⟩, fun h => absurd h (by omega)⟩
    simp only [hmw i hi (by omega), Int.natCast_nonneg, not_true_eq_false, if_false, Int.toNat_natCast]
    exact ⟨trivial, by omega, fun h => hs (.inr ⟨by omega, h⟩), fun _ => trivial⟩
  · have hl := hwl i
    simp only [Bool.not_true, Bool.not_false, Bool.true_eq_false, SE.den, evU, evT, ev_le, ev_eq, ev_eqs, ev_eqb, ev_slt, ev_and, ev_or, ev_add, ev_sub, ev_mul, ev_tdiv, ev_tmod, ev_band, ev_bor, ev_bxor, ev_bandn, ev_shl, ev_shr, ev_cat, ev_byte, ev_idx, ev_cons, ev_snoc, ev_app, ev_take, ev_drop, ev_stake, ev_sdrop, ev_rep, leB_q, eqB_q, eqsB_q, not_q, i_if, b_if, l_if, s_if, i_int, b_bool, s_str, l_list, envL, List.getElem?_cons_succ, List.getElem?_cons_zero, List.getElem?_nil, Option.getD_some, Option.getD_none, Int.toNat_natCast, Int.toNat_zero, Int.reduceToNat, List.length_map, get_Li, get_Lb, get_Ls, set_Li, inj_Li, inj_Lb, inj_Ls, rows_i, rows_b, rows_s, Int.zero_add, iff_true, iff_false, and_true, true_and, Bool.false_eq_true, eq_self, not_true_eq_false, not_false_eq_true, List.length_replicate, DV.int.injEq, DV.bool.injEq, DV.str.injEq, DV.list.injEq, List.cons.injEq, f_En_0, rows_En, inj_LEn, f_En_1, rows_En, inj_LEn, f_ii_0, rows_ii, inj_Lii, f_ii_1, rows_ii, inj_Lii]
    refine ⟨fun _ => ⟨by omega, hl, fun _ => trivial, fun hv => ⟨fun hp => ?_, fun h => ?_⟩⟩, fun h => absurd h (by omega)⟩
    · simp only [hmw i hi (by omega), Int.natCast_nonneg, not_true_eq_false, if_false, Int.toNat_natCast]
      exact ⟨trivial, by omega, fun _ => trivial, fun h => h (hs.resolve_left (by rw [hv]; simp)).2⟩
    · have := hs.resolve_left (by rw [hv]; simp)
      omega
  · have hval : ∀ j, j < x0.length → validM (x0[j]?.getD dEn).1 (x0[j]?.getD dEn).2 = true := fun j h => by
      cases hv : validM (x0[j]?.getD dEn).1 (x0[j]?.getD dEn).2 with
      | true => rfl
      | false => exact absurd (.inl hv) (hj j h)
    have hasc : ∀ j, j < x0.length → 0 < j → (x0[j - 1]?.getD dEn).1 < (x0[j]?.getD dEn).1 := fun j h h1 => by
      by_cases h2 : (x0[j]?.getD dEn).1 ≤ (x0[j - 1]?.getD dEn).1
      · exact absurd (.inr ⟨h1, h2⟩) (hj j h)
      · omega
    have hrw : ∀ x ∈ x0, rgeW x.2 := fun x hx => (v0 x hx).2.2
    have hrise : RiseM 0 x0 := rise_of x0 0 hrw hval hasc fun h => (validM_iff.1 (hval 0 h)).2.1
    have hw32 : ∀ j, j < x0.length → (x0[j]?.getD dEn).2.length ≤ 32 := fun j h => (validM_iff.1 (hval j h)).2.2.2
    have htk : ∀ i, i ≤ x0.length → (recsM (x0.take i)).length ≤ 26 * i := fun i h => by
      have := recs_le (x0.take i) fun x hx => hrw x (List.mem_of_mem_take hx)
      rw [List.length_take] at this
      omega
    clear hwl hmn hmw hj v0
    simp only [Bool.not_true, Bool.not_false, Bool.true_eq_false, SE.den, evU, evT, ev_le, ev_eq, ev_eqs, ev_eqb, ev_slt, ev_and, ev_or, ev_add, ev_sub, ev_mul, ev_tdiv, ev_tmod, ev_band, ev_bor, ev_bxor, ev_bandn, ev_shl, ev_shr, ev_cat, ev_byte, ev_idx, ev_cons, ev_snoc, ev_app, ev_take, ev_drop, ev_stake, ev_sdrop, ev_rep, leB_q, eqB_q, eqsB_q, not_q, i_if, b_if, l_if, s_if, i_int, b_bool, s_str, l_list, envL, List.getElem?_cons_succ, List.getElem?_cons_zero, List.getElem?_nil, Option.getD_some, Option.getD_none, Int.toNat_natCast, Int.toNat_zero, Int.reduceToNat, List.length_map, get_Li, get_Lb, get_Ls, set_Li, inj_Li, inj_Lb, inj_Ls, rows_i, rows_b, rows_s, Int.zero_add, iff_true, iff_false, and_true, true_and, Bool.false_eq_true, eq_self, not_true_eq_false, not_false_eq_true, List.length_replicate, DV.int.injEq, DV.bool.injEq, DV.str.injEq, DV.list.injEq, List.cons.injEq, f_En_0, rows_En, inj_LEn, f_En_1, rows_En, inj_LEn, f_ii_0, rows_ii, inj_Lii, f_ii_1, rows_ii, inj_Lii]
    refine ⟨fun h => absurd (Int.le_refl _) h, fun _ => ⟨rfl, ?_⟩⟩
    refine rounds_at x0.length (fun i => [DV.list ((recsM (x0.take i)).map .str), DV.int ((recsM (x0.take (i - 1))).length : Nat), DV.int i]) (by simp [recsM]) (fun _ => rfl) (fun i hi => ?_) ?_
    · have hw1 : IntKind.i64.wrap ((i : Int) + 1) = ((i + 1 : Nat) : Int) := by rw [w64 (by omega) (by omega)]; omega
      have h32 := hw32 i hi
      have hti := htk i (by omega)
      have hti1 := htk (i + 1) (by omega)
      rw [recs_snoc x0 i hi, List.length_append] at hti1
      rw [recs_snoc x0 i hi, Nat.add_sub_cancel]
      simp only [Bool.not_true, Bool.not_false, Bool.true_eq_false, SE.den, evU, evT, ev_le, ev_eq, ev_eqs, ev_eqb, ev_slt, ev_and, ev_or, ev_add, ev_sub, ev_mul, ev_tdiv, ev_tmod, ev_band, ev_bor, ev_bxor, ev_bandn, ev_shl, ev_shr, ev_cat, ev_byte, ev_idx, ev_cons, ev_snoc, ev_app, ev_take, ev_drop, ev_stake, ev_sdrop, ev_rep, leB_q, eqB_q, eqsB_q, not_q, i_if, b_if, l_if, s_if, i_int, b_bool, s_str, l_list, envL, List.getElem?_cons_succ, List.getElem?_cons_zero, List.getElem?_nil, Option.getD_some, Option.getD_none, Int.toNat_natCast, Int.toNat_zero, Int.reduceToNat, List.length_map, get_Li, get_Lb, get_Ls, set_Li, inj_Li, inj_Lb, inj_Ls, rows_i, rows_b, rows_s, Int.zero_add, iff_true, iff_false, and_true, true_and, Bool.false_eq_true, eq_self, not_true_eq_false, not_false_eq_true, List.length_replicate, DV.int.injEq, DV.bool.injEq, DV.str.injEq, DV.list.injEq, List.cons.injEq, f_En_0, rows_En, inj_LEn, f_En_1, rows_En, inj_LEn, f_ii_0, rows_ii, inj_Lii, f_ii_1, rows_ii, inj_Lii, List.cons_append, List.nil_append, hw1, app_Ls2]
      exact ⟨fun _ => ⟨by omega, fun h => absurd (by omega) h, fun _ => by omega⟩, fun h => absurd h (by omega)⟩
    · rw [List.take_length]
      have hC := htk x0.length (Nat.le_refl _)
      rw [List.take_length] at hC
      simp only [Bool.not_true, Bool.not_false, Bool.true_eq_false, SE.den, evU, evT, ev_le, ev_eq, ev_eqs, ev_eqb, ev_slt, ev_and, ev_or, ev_add, ev_sub, ev_mul, ev_tdiv, ev_tmod, ev_band, ev_bor, ev_bxor, ev_bandn, ev_shl, ev_shr, ev_cat, ev_byte, ev_idx, ev_cons, ev_snoc, ev_app, ev_take, ev_drop, ev_stake, ev_sdrop, ev_rep, leB_q, eqB_q, eqsB_q, not_q, i_if, b_if, l_if, s_if, i_int, b_bool, s_str, l_list, envL, List.getElem?_cons_succ, List.getElem?_cons_zero, List.getElem?_nil, Option.getD_some, Option.getD_none, Int.toNat_natCast, Int.toNat_zero, Int.reduceToNat, List.length_map, get_Li, get_Lb, get_Ls, set_Li, inj_Li, inj_Lb, inj_Ls, rows_i, rows_b, rows_s, Int.zero_add, iff_true, iff_false, and_true, true_and, Bool.false_eq_true, eq_self, not_true_eq_false, not_false_eq_true, List.length_replicate, DV.int.injEq, DV.bool.injEq, DV.str.injEq, DV.list.injEq, List.cons.injEq, f_En_0, rows_En, inj_LEn, f_En_1, rows_En, inj_LEn, f_ii_0, rows_ii, inj_Lii, f_ii_1, rows_ii, inj_Lii, List.cons_append, List.nil_append]
      refine ⟨fun h => absurd (Int.le_refl _) h, fun _ => ⟨by omega, rfl, ?_⟩⟩
      obtain ⟨K, hK8, hK⟩ : ∃ K : Nat, K ≤ 8 ∧ IntKind.i64.wrap (x3.tmod 9) = K := ⟨(x3 % 9).toNat, by omega, by rw [Int.tmod_eq_emod_of_nonneg r3.1, w64 (by omega) (by omega)]; omega⟩
      simp only [hK]
      refine rounds_at K (fun j => [DV.list ((recsM x0 ++ List.replicate j z32).map .str), DV.int j]) (by simp) (fun _ => rfl) (fun j hj => ?_) ?_
      · have hwj : IntKind.i64.wrap ((j : Int) + 1) = ((j + 1 : Nat) : Int) := by rw [w64 (by omega) (by omega)]; omega
        have hz : [DV.str [0, 0, 0, 0, 0, 0, 0, 0, 0, 0, 0, 0, 0, 0, 0, 0, 0, 0, 0, 0, 0, 0, 0, 0, 0, 0, 0, 0, 0, 0, 0, 0]] = [z32].map DV.str := rfl
        have hjl : (recsM x0 ++ List.replicate j z32).length = (recsM x0).length + j := by simp
        rw [List.replicate_succ', ← List.append_assoc]
        simp only [Bool.not_true, Bool.not_false, Bool.true_eq_false, SE.den, evU, evT, ev_le, ev_eq, ev_eqs, ev_eqb, ev_slt, ev_and, ev_or, ev_add, ev_sub, ev_mul, ev_tdiv, ev_tmod, ev_band, ev_bor, ev_bxor, ev_bandn, ev_shl, ev_shr, ev_cat, ev_byte, ev_idx, ev_cons, ev_snoc, ev_app, ev_take, ev_drop, ev_stake, ev_sdrop, ev_rep, leB_q, eqB_q, eqsB_q, not_q, i_if, b_if, l_if, s_if, i_int, b_bool, s_str, l_list, envL, List.getElem?_cons_succ, List.getElem?_cons_zero, List.getElem?_nil, Option.getD_some, Option.getD_none, Int.toNat_natCast, Int.toNat_zero, Int.reduceToNat, List.length_map, get_Li, get_Lb, get_Ls, set_Li, inj_Li, inj_Lb, inj_Ls, rows_i, rows_b, rows_s, Int.zero_add, iff_true, iff_false, and_true, true_and, Bool.false_eq_true, eq_self, not_true_eq_false, not_false_eq_true, List.length_replicate, DV.int.injEq, DV.bool.injEq, DV.str.injEq, DV.list.injEq, List.cons.injEq, f_En_0, rows_En, inj_LEn, f_En_1, rows_En, inj_LEn, f_ii_0, rows_ii, inj_Lii, f_ii_1, rows_ii, inj_Lii, hwj, hz, app_Ls2, hjl]
        exact ⟨fun _ => by omega, fun h => absurd h (by omega)⟩
      · have hrec : recoverM (recsM x0 ++ List.replicate K z32) = (x0, ((recsM x0).length : Int)) := recover_all hrise (parse_tail rfl)
        have hKl : (recsM x0 ++ List.replicate K z32).length = (recsM x0).length + K := by simp
        simp only [Bool.not_true, Bool.not_false, Bool.true_eq_false, SE.den, evU, evT, ev_le, ev_eq, ev_eqs, ev_eqb, ev_slt, ev_and, ev_or, ev_add, ev_sub, ev_mul, ev_tdiv, ev_tmod, ev_band, ev_bor, ev_bxor, ev_bandn, ev_shl, ev_shr, ev_cat, ev_byte, ev_idx, ev_cons, ev_snoc, ev_app, ev_take, ev_drop, ev_stake, ev_sdrop, ev_rep, leB_q, eqB_q, eqsB_q, not_q, i_if, b_if, l_if, s_if, i_int, b_bool, s_str, l_list, envL, List.getElem?_cons_succ, List.getElem?_cons_zero, List.getElem?_nil, Option.getD_some, Option.getD_none, Int.toNat_natCast, Int.toNat_zero, Int.reduceToNat, List.length_map, get_Li, get_Lb, get_Ls, set_Li, inj_Li, inj_Lb, inj_Ls, rows_i, rows_b, rows_s, Int.zero_add, iff_true, iff_false, and_true, true_and, Bool.false_eq_true, eq_self, not_true_eq_false, not_false_eq_true, List.length_replicate, DV.int.injEq, DV.bool.injEq, DV.str.injEq, DV.list.injEq, List.cons.injEq, f_En_0, rows_En, inj_LEn, f_En_1, rows_En, inj_LEn, f_ii_0, rows_ii, inj_Lii, f_ii_1, rows_ii, inj_Lii, dece_s, hrec, hKl, List.cons_append, List.nil_append]
        refine ⟨fun h => absurd (Int.le_refl _) h, fun _ => ⟨by omega, fun h => h, fun _ => ⟨rfl, ?_⟩⟩⟩
        have hone : ∀ v w, oneM23 v w v w = true := fun v w => by unfold oneM23; simp
        refine rounds_at x0.length (fun i => [DV.int i]) rfl (fun _ => rfl) (fun i hi => ?_) ?_
        · have h32 := hw32 i hi
          have hwi : IntKind.i64.wrap ((i : Int) + 1) = ((i + 1 : Nat) : Int) := by rw [w64 (by omega) (by omega)]; omega
          simp only [Bool.not_true, Bool.not_false, Bool.true_eq_false, SE.den, evU, evT, ev_le, ev_eq, ev_eqs, ev_eqb, ev_slt, ev_and, ev_or, ev_add, ev_sub, ev_mul, ev_tdiv, ev_tmod, ev_band, ev_bor, ev_bxor, ev_bandn, ev_shl, ev_shr, ev_cat, ev_byte, ev_idx, ev_cons, ev_snoc, ev_app, ev_take, ev_drop, ev_stake, ev_sdrop, ev_rep, leB_q, eqB_q, eqsB_q, not_q, i_if, b_if, l_if, s_if, i_int, b_bool, s_str, l_list, envL, List.getElem?_cons_succ, List.getElem?_cons_zero, List.getElem?_nil, Option.getD_some, Option.getD_none, Int.toNat_natCast, Int.toNat_zero, Int.reduceToNat, List.length_map, get_Li, get_Lb, get_Ls, set_Li, inj_Li, inj_Lb, inj_Ls, rows_i, rows_b, rows_s, Int.zero_add, iff_true, iff_false, and_true, true_and, Bool.false_eq_true, eq_self, not_true_eq_false, not_false_eq_true, List.length_replicate, DV.int.injEq, DV.bool.injEq, DV.str.injEq, DV.list.injEq, List.cons.injEq, f_En_0, rows_En, inj_LEn, f_En_1, rows_En, inj_LEn, f_ii_0, rows_ii, inj_Lii, f_ii_1, rows_ii, inj_Lii, dece_s, hrec, hone, hwi, List.cons_append, List.nil_append]
          exact ⟨fun _ => ⟨by omega, by omega, by omega, by omega, fun h => h, fun _ => trivial⟩, fun h => absurd h (by omega)⟩
        · simp only [Bool.not_true, Bool.not_false, Bool.true_eq_false, SE.den, evU, evT, ev_le, ev_eq, ev_eqs, ev_eqb, ev_slt, ev_and, ev_or, ev_add, ev_sub, ev_mul, ev_tdiv, ev_tmod, ev_band, ev_bor, ev_bxor, ev_bandn, ev_shl, ev_shr, ev_cat, ev_byte, ev_idx, ev_cons, ev_snoc, ev_app, ev_take, ev_drop, ev_stake, ev_sdrop, ev_rep, leB_q, eqB_q, eqsB_q, not_q, i_if, b_if, l_if, s_if, i_int, b_bool, s_str, l_list, envL, List.getElem?_cons_succ, List.getElem?_cons_zero, List.getElem?_nil, Option.getD_some, Option.getD_none, Int.toNat_natCast, Int.toNat_zero, Int.reduceToNat, List.length_map, get_Li, get_Lb, get_Ls, set_Li, inj_Li, inj_Lb, inj_Ls, rows_i, rows_b, rows_s, Int.zero_add, iff_true, iff_false, and_true, true_and, Bool.false_eq_true, eq_self, not_true_eq_false, not_false_eq_true, List.length_replicate, DV.int.injEq, DV.bool.injEq, DV.str.injEq, DV.list.injEq, List.cons.injEq, f_En_0, rows_En, inj_LEn, f_En_1, rows_En, inj_LEn, f_ii_0, rows_ii, inj_Lii, f_ii_1, rows_ii, inj_Lii, dece_s, hrec, hone, List.cons_append, List.nil_append]
          refine ⟨fun h => absurd (Int.le_refl _) h, fun _ => ?_⟩
          -- the last record
          have hsn := recs_snoc x0 (x0.length - 1) (by omega)
          rw [show x0.length - 1 + 1 = x0.length by omega, List.take_length] at hsn
          have hv := hval (x0.length - 1) (by omega)
          have hwW : rgeW (x0[x0.length - 1]?.getD dEn).2 := by rw [List.getElem?_eq_getElem (by omega)]; exact hrw _ (List.getElem_mem _)
          have hr0 : RiseM 0 (x0.take (x0.length - 1)) := rise_take x0 0 _ hrise
          have hsec := record_secs hv hwW
          have hle := record_le (x0[x0.length - 1]?.getD dEn).1 hwW
          have hge : 1 ≤ (recordM (x0[x0.length - 1]?.getD dEn).1 (x0[x0.length - 1]?.getD dEn).2).length := by rw [record_len hv]; exact (body_len hv hwW).2.1
          have hnz := fun i (hi : i < (recordM (x0[x0.length - 1]?.getD dEn).1 (x0[x0.length - 1]?.getD dEn).2).length) => record_nz hv hwW hi
          have htn := fun (p t q : List (List UInt8)) => torn_none hv hwW (p := p) (t := t) (q := q)
          generalize recordM (x0[x0.length - 1]?.getD dEn).1 (x0[x0.length - 1]?.getD dEn).2 = R at *
          have h32 : ∀ i, i < R.length → (R[i]?.getD []).length = 32 := fun i hi => by
            rw [List.getElem?_eq_getElem hi]
            exact hsec _ (List.getElem_mem hi)
          have hE := htk (x0.length - 1) (by omega)
          have hrecT := fun post => recover_all (post := post) hr0
          generalize hl0 : recsM (x0.take (x0.length - 1)) = P at *
          rw [hsn] at hrec hKl hC ⊢
          have hCl : (P ++ R).length = P.length + R.length := List.length_append
          obtain ⟨j, hj, hk⟩ : ∃ j : Nat, j < R.length ∧ IntKind.i64.wrap ((P.length : Int) + (IntKind.i64.wrap x1).tmod (IntKind.i64.wrap (((P ++ R).length : Int) - P.length))) = ((P.length + j : Nat) : Int) := by
            have e1 : IntKind.i64.wrap (((P ++ R).length : Int) - P.length) = R.length := by rw [w64 (by omega) (by omega)]; omega
            have hm0 := Int.emod_nonneg x1 (show (R.length : Int) ≠ 0 by omega)
            have hm1 := Int.emod_lt_of_pos x1 (show (0 : Int) < R.length by omega)
            refine ⟨(x1 % R.length).toNat, by omega, ?_⟩
            rw [e1, w64 (n := x1) (by omega) (by omega), Int.tmod_eq_emod_of_nonneg r1.1, w64 (by omega) (by omega)]
            omega
          have hm : ¬ IntKind.i64.wrap (((P ++ R).length : Int) - P.length) = 0 := by rw [w64 (by omega) (by omega)]; omega
          have hat : (P ++ R)[P.length + j]?.getD [] = R[j]?.getD [] := by rw [List.getElem?_append_right (by omega), show P.length + j - P.length = j by omega]
          have h32j := h32 j hj
          simp only [hk, Int.toNat_natCast, hat]
          refine ⟨fun h => h, fun _ => ⟨fun h => absurd h (by omega), fun _ => ⟨hm, by omega, by omega, fun h => absurd (by omega) h, fun _ => ⟨rfl, ?_⟩⟩⟩⟩
          obtain ⟨c, hc, hcw⟩ : ∃ c : Nat, c ≤ 32 ∧ IntKind.i64.wrap (x2.tmod 32) = c := ⟨(x2 % 32).toNat, by omega, by rw [Int.tmod_eq_emod_of_nonneg r2.1, w64 (by omega) (by omega)]; omega⟩
          simp only [hcw]
          refine torn_loop (c := c) h32j hc (fun k b hk2 hb => ?_) ?_
          · simp only [Bool.not_true, Bool.not_false, Bool.true_eq_false, SE.den, evU, evT, ev_le, ev_eq, ev_eqs, ev_eqb, ev_slt, ev_and, ev_or, ev_add, ev_sub, ev_mul, ev_tdiv, ev_tmod, ev_band, ev_bor, ev_bxor, ev_bandn, ev_shl, ev_shr, ev_cat, ev_byte, ev_idx, ev_cons, ev_snoc, ev_app, ev_take, ev_drop, ev_stake, ev_sdrop, ev_rep, leB_q, eqB_q, eqsB_q, not_q, i_if, b_if, l_if, s_if, i_int, b_bool, s_str, l_list, envL, List.getElem?_cons_succ, List.getElem?_cons_zero, List.getElem?_nil, Option.getD_some, Option.getD_none, Int.toNat_natCast, Int.toNat_zero, Int.reduceToNat, List.length_map, get_Li, get_Lb, get_Ls, set_Li, inj_Li, inj_Lb, inj_Ls, rows_i, rows_b, rows_s, Int.zero_add, iff_true, iff_false, and_true, true_and, Bool.false_eq_true, eq_self, not_true_eq_false, not_false_eq_true, List.length_replicate, DV.int.injEq, DV.bool.injEq, DV.str.injEq, DV.list.injEq, List.cons.injEq, f_En_0, rows_En, inj_LEn, f_En_1, rows_En, inj_LEn, f_ii_0, rows_ii, inj_Lii, f_ii_1, rows_ii, inj_Lii, List.cons_append, List.nil_append, w64 (n := (k : Int) + 1) (by omega) (by omega)]
            exact ⟨fun _ => ⟨by omega, by omega, by omega⟩, fun h => absurd h (by omega)⟩
          · have hbl : (bytesN (cutM c (R[j]?.getD []))).length = 32 := by rw [bytes_len, cut_len, h32j]
            have hfin : List.map (fun d : DV => UInt8.ofNat d.i.toNat) (List.take (R[j]?.getD []).length (List.drop 0 (List.map DV.int (bytesN (cutM c (R[j]?.getD [])))))) = cutM c (R[j]?.getD []) := by
              rw [List.drop_zero, List.take_of_length_le (by rw [List.length_map, hbl]; omega), str8_Li, str_bytes]
            simp only [Bool.not_true, Bool.not_false, Bool.true_eq_false, SE.den, evU, evT, ev_le, ev_eq, ev_eqs, ev_eqb, ev_slt, ev_and, ev_or, ev_add, ev_sub, ev_mul, ev_tdiv, ev_tmod, ev_band, ev_bor, ev_bxor, ev_bandn, ev_shl, ev_shr, ev_cat, ev_byte, ev_idx, ev_cons, ev_snoc, ev_app, ev_take, ev_drop, ev_stake, ev_sdrop, ev_rep, leB_q, eqB_q, eqsB_q, not_q, i_if, b_if, l_if, s_if, i_int, b_bool, s_str, l_list, envL, List.getElem?_cons_succ, List.getElem?_cons_zero, List.getElem?_nil, Option.getD_some, Option.getD_none, Int.toNat_natCast, Int.toNat_zero, Int.reduceToNat, List.length_map, get_Li, get_Lb, get_Ls, set_Li, inj_Li, inj_Lb, inj_Ls, rows_i, rows_b, rows_s, Int.zero_add, iff_true, iff_false, and_true, true_and, Bool.false_eq_true, eq_self, not_true_eq_false, not_false_eq_true, List.length_replicate, DV.int.injEq, DV.bool.injEq, DV.str.injEq, DV.list.injEq, List.cons.injEq, f_En_0, rows_En, inj_LEn, f_En_1, rows_En, inj_LEn, f_ii_0, rows_ii, inj_Lii, f_ii_1, rows_ii, inj_Lii, List.cons_append, List.nil_append, hbl, hfin]
            refine ⟨fun h => absurd (by omega) h, fun _ => ⟨by omega, by omega, rfl, ?_⟩⟩
            have hkW : P.length + j < (P ++ R ++ List.replicate K z32).length := by omega
            have hk1 : IntKind.i64.wrap (((P.length + j : Nat) : Int) + 1) = ((P.length + j + 1 : Nat) : Int) := by rw [w64 (by omega) (by omega)]; omega
            have hz : DV.str [0, 0, 0, 0, 0, 0, 0, 0, 0, 0, 0, 0, 0, 0, 0, 0, 0, 0, 0, 0, 0, 0, 0, 0, 0, 0, 0, 0, 0, 0, 0, 0] = DV.str z32 := rfl
            refine rounds_at (R.length - 1 - j + K) (fun t => [DV.int ((P.length + j + 1 + t : Nat) : Int), DV.list ((emptyT (P ++ R ++ List.replicate K z32) (P.length + j) (cutM c (R[j]?.getD [])) t).map .str)]) ?_ (fun _ => rfl) (fun t ht => ?_) ?_
            · simp only [hk1, Nat.add_zero, empty_zero _ hkW, List.map_set]
            · have hwt : IntKind.i64.wrap (((P.length + j + 1 + t : Nat) : Int) + 1) = ((P.length + j + 1 + (t + 1) : Nat) : Int) := by rw [w64 (by omega) (by omega)]; omega
              have hel := empty_len (W := P ++ R ++ List.replicate K z32) (k := P.length + j) (t := t) (cutM c (R[j]?.getD [])) (by omega)
              rw [← empty_succ (cutM c (R[j]?.getD [])) (by omega)]
              simp only [Bool.not_true, Bool.not_false, Bool.true_eq_false, SE.den, evU, evT, ev_le, ev_eq, ev_eqs, ev_eqb, ev_slt, ev_and, ev_or, ev_add, ev_sub, ev_mul, ev_tdiv, ev_tmod, ev_band, ev_bor, ev_bxor, ev_bandn, ev_shl, ev_shr, ev_cat, ev_byte, ev_idx, ev_cons, ev_snoc, ev_app, ev_take, ev_drop, ev_stake, ev_sdrop, ev_rep, leB_q, eqB_q, eqsB_q, not_q, i_if, b_if, l_if, s_if, i_int, b_bool, s_str, l_list, envL, List.getElem?_cons_succ, List.getElem?_cons_zero, List.getElem?_nil, Option.getD_some, Option.getD_none, Int.toNat_natCast, Int.toNat_zero, Int.reduceToNat, List.length_map, get_Li, get_Lb, get_Ls, set_Li, inj_Li, inj_Lb, inj_Ls, rows_i, rows_b, rows_s, Int.zero_add, iff_true, iff_false, and_true, true_and, Bool.false_eq_true, eq_self, not_true_eq_false, not_false_eq_true, List.length_replicate, DV.int.injEq, DV.bool.injEq, DV.str.injEq, DV.list.injEq, List.cons.injEq, f_En_0, rows_En, inj_LEn, f_En_1, rows_En, inj_LEn, f_ii_0, rows_ii, inj_Lii, f_ii_1, rows_ii, inj_Lii, hwt, hz, set_Ls, hel]
              exact ⟨fun _ => ⟨by omega, by omega⟩, fun h => absurd h (by omega)⟩
            · rw [empty_end hj]
              have hTl := tornT_len R c hj
              have hLl : (P ++ tornT R j c ++ List.replicate K z32).length = P.length + R.length + K := by simp only [List.length_append, List.length_replicate, hTl]
              have hLk : (P ++ tornT R j c ++ List.replicate K z32)[P.length + j]?.getD [] = cutM c (R[j]?.getD []) := by
                rw [List.append_assoc, List.getElem?_append_right (by omega), show P.length + j - P.length = j by omega, List.getElem?_append_left (by omega)]
                unfold tornT
                rw [List.getElem?_append_right (by rw [List.length_take]; omega), List.length_take, show j - min j R.length = 0 by omega]
                rfl
              have hfull : (P ++ tornT R j c ++ List.replicate K z32).take ((P ++ R).length + K) = P ++ tornT R j c ++ List.replicate K z32 := List.take_of_length_le (by omega)
              have hwc : IntKind.i64.wrap (((P ++ R).length : Int) - 1) = ((P.length + R.length - 1 : Nat) : Int) := by rw [w64 (by omega) (by omega)]; omega
              by_cases hT : cutM c (R[j]?.getD []) = R[j]?.getD [] ∧ j + 1 = R.length
              · have hTR := tornT_eq hj hT.1 hT.2
                rw [hTR] at hLl hLk hfull ⊢
                simp only [Bool.not_true, Bool.not_false, Bool.true_eq_false, SE.den, evU, evT, ev_le, ev_eq, ev_eqs, ev_eqb, ev_slt, ev_and, ev_or, ev_add, ev_sub, ev_mul, ev_tdiv, ev_tmod, ev_band, ev_bor, ev_bxor, ev_bandn, ev_shl, ev_shr, ev_cat, ev_byte, ev_idx, ev_cons, ev_snoc, ev_app, ev_take, ev_drop, ev_stake, ev_sdrop, ev_rep, leB_q, eqB_q, eqsB_q, not_q, i_if, b_if, l_if, s_if, i_int, b_bool, s_str, l_list, envL, List.getElem?_cons_succ, List.getElem?_cons_zero, List.getElem?_nil, Option.getD_some, Option.getD_none, Int.toNat_natCast, Int.toNat_zero, Int.reduceToNat, List.length_map, get_Li, get_Lb, get_Ls, set_Li, inj_Li, inj_Lb, inj_Ls, rows_i, rows_b, rows_s, Int.zero_add, iff_true, iff_false, and_true, true_and, Bool.false_eq_true, eq_self, not_true_eq_false, not_false_eq_true, List.length_replicate, DV.int.injEq, DV.bool.injEq, DV.str.injEq, DV.list.injEq, List.cons.injEq, f_En_0, rows_En, inj_LEn, f_En_1, rows_En, inj_LEn, f_ii_0, rows_ii, inj_Lii, f_ii_1, rows_ii, inj_Lii, List.cons_append, List.nil_append, List.drop_zero, ← List.map_take, dece_s, hfull, hrec, hLl, hLk, hwc, hone]
                refine ⟨fun h => absurd (by omega) h, fun _ => ⟨by omega, by omega, by omega, fun _ => ⟨fun _ => ⟨fun _ => ⟨fun h => h, fun _ => ⟨rfl, ?_⟩⟩, fun h => h⟩, fun h => absurd (by omega) h⟩, fun h => absurd hT.1 h⟩⟩
                refine rounds_at x0.length (fun i => [DV.int i]) rfl (fun _ => rfl) (fun i hi => ?_) ?_
                · have h32 := hw32 i hi
                  have hwi : IntKind.i64.wrap ((i : Int) + 1) = ((i + 1 : Nat) : Int) := by rw [w64 (by omega) (by omega)]; omega
                  simp only [Bool.not_true, Bool.not_false, Bool.true_eq_false, SE.den, evU, evT, ev_le, ev_eq, ev_eqs, ev_eqb, ev_slt, ev_and, ev_or, ev_add, ev_sub, ev_mul, ev_tdiv, ev_tmod, ev_band, ev_bor, ev_bxor, ev_bandn, ev_shl, ev_shr, ev_cat, ev_byte, ev_idx, ev_cons, ev_snoc, ev_app, ev_take, ev_drop, ev_stake, ev_sdrop, ev_rep, leB_q, eqB_q, eqsB_q, not_q, i_if, b_if, l_if, s_if, i_int, b_bool, s_str, l_list, envL, List.getElem?_cons_succ, List.getElem?_cons_zero, List.getElem?_nil, Option.getD_some, Option.getD_none, Int.toNat_natCast, Int.toNat_zero, Int.reduceToNat, List.length_map, get_Li, get_Lb, get_Ls, set_Li, inj_Li, inj_Lb, inj_Ls, rows_i, rows_b, rows_s, Int.zero_add, iff_true, iff_false, and_true, true_and, Bool.false_eq_true, eq_self, not_true_eq_false, not_false_eq_true, List.length_replicate, DV.int.injEq, DV.bool.injEq, DV.str.injEq, DV.list.injEq, List.cons.injEq, f_En_0, rows_En, inj_LEn, f_En_1, rows_En, inj_LEn, f_ii_0, rows_ii, inj_Lii, f_ii_1, rows_ii, inj_Lii, hone, hwi, List.cons_append, List.nil_append]
                  exact ⟨fun _ => ⟨by omega, by omega, by omega, by omega, fun h => h, fun _ => trivial⟩, fun h => absurd h (by omega)⟩
                · simp only [Bool.not_true, Bool.not_false, Bool.true_eq_false, SE.den, evU, evT, ev_le, ev_eq, ev_eqs, ev_eqb, ev_slt, ev_and, ev_or, ev_add, ev_sub, ev_mul, ev_tdiv, ev_tmod, ev_band, ev_bor, ev_bxor, ev_bandn, ev_shl, ev_shr, ev_cat, ev_byte, ev_idx, ev_cons, ev_snoc, ev_app, ev_take, ev_drop, ev_stake, ev_sdrop, ev_rep, leB_q, eqB_q, eqsB_q, not_q, i_if, b_if, l_if, s_if, i_int, b_bool, s_str, l_list, envL, List.getElem?_cons_succ, List.getElem?_cons_zero, List.getElem?_nil, Option.getD_some, Option.getD_none, Int.toNat_natCast, Int.toNat_zero, Int.reduceToNat, List.length_map, get_Li, get_Lb, get_Ls, set_Li, inj_Li, inj_Lb, inj_Ls, rows_i, rows_b, rows_s, Int.zero_add, iff_true, iff_false, and_true, true_and, Bool.false_eq_true, eq_self, not_true_eq_false, not_false_eq_true, List.length_replicate, DV.int.injEq, DV.bool.injEq, DV.str.injEq, DV.list.injEq, List.cons.injEq, f_En_0, rows_En, inj_LEn, f_En_1, rows_En, inj_LEn, f_ii_0, rows_ii, inj_Lii, f_ii_1, rows_ii, inj_Lii, hone, List.cons_append, List.nil_append]
                  exact ⟨fun h => absurd (Int.le_refl _) h, fun _ => trivial⟩
              · have hrecT' := hrecT (tornT R j c ++ List.replicate K z32) (by rw [← List.append_assoc]; exact htn P _ _ hTl (fun i hi => tornT_at h32 c hj i (by omega)) (tornT_ne hj hnz hT))
                rw [← List.append_assoc] at hrecT'
                simp only [Bool.not_true, Bool.not_false, Bool.true_eq_false, SE.den, evU, evT, ev_le, ev_eq, ev_eqs, ev_eqb, ev_slt, ev_and, ev_or, ev_add, ev_sub, ev_mul, ev_tdiv, ev_tmod, ev_band, ev_bor, ev_bxor, ev_bandn, ev_shl, ev_shr, ev_cat, ev_byte, ev_idx, ev_cons, ev_snoc, ev_app, ev_take, ev_drop, ev_stake, ev_sdrop, ev_rep, leB_q, eqB_q, eqsB_q, not_q, i_if, b_if, l_if, s_if, i_int, b_bool, s_str, l_list, envL, List.getElem?_cons_succ, List.getElem?_cons_zero, List.getElem?_nil, Option.getD_some, Option.getD_none, Int.toNat_natCast, Int.toNat_zero, Int.reduceToNat, List.length_map, get_Li, get_Lb, get_Ls, set_Li, inj_Li, inj_Lb, inj_Ls, rows_i, rows_b, rows_s, Int.zero_add, iff_true, iff_false, and_true, true_and, Bool.false_eq_true, eq_self, not_true_eq_false, not_false_eq_true, List.length_replicate, DV.int.injEq, DV.bool.injEq, DV.str.injEq, DV.list.injEq, List.cons.injEq, f_En_0, rows_En, inj_LEn, f_En_1, rows_En, inj_LEn, f_ii_0, rows_ii, inj_Lii, f_ii_1, rows_ii, inj_Lii, List.cons_append, List.nil_append, List.drop_zero, ← List.map_take, dece_s, hfull, hrecT', hLl, hLk, hwc, hone, List.length_take]
                have hmin : min (x0.length - 1) x0.length = x0.length - 1 := Nat.min_eq_left (by omega)
                have hwn : IntKind.i64.wrap ((x0.length : Int) - 1) = ((x0.length - 1 : Nat) : Int) := by rw [w64 (by omega) (by omega)]; omega
                simp only [hmin, hwn, Int.sub_zero]
                refine ⟨fun h => absurd (by omega) h, fun _ => ⟨by omega, by omega, by omega, fun hcut => ⟨fun hl => absurd ⟨hcut, by omega⟩ hT, fun _ => ⟨fun _ => ⟨fun h => absurd (by omega) h, fun _ => ⟨rfl, ?_⟩⟩, fun h => h⟩⟩, fun _ => ⟨fun _ => ⟨fun h => absurd (by omega) h, fun _ => ⟨rfl, ?_⟩⟩, fun h => h⟩⟩⟩
                all_goals
                  refine rounds_at (x0.length - 1) (fun i => [DV.int i]) rfl (fun _ => rfl) (fun i hi => ?_) ?_
                  · have h32 := hw32 i (by omega)
                    have hwi : IntKind.i64.wrap ((i : Int) + 1) = ((i + 1 : Nat) : Int) := by rw [w64 (by omega) (by omega)]; omega
                    have ht : (x0.take (x0.length - 1))[i]?.getD dEn = x0[i]?.getD dEn := by rw [List.getElem?_take, if_pos hi]
                    simp only [Bool.not_true, Bool.not_false, Bool.true_eq_false, SE.den, evU, evT, ev_le, ev_eq, ev_eqs, ev_eqb, ev_slt, ev_and, ev_or, ev_add, ev_sub, ev_mul, ev_tdiv, ev_tmod, ev_band, ev_bor, ev_bxor, ev_bandn, ev_shl, ev_shr, ev_cat, ev_byte, ev_idx, ev_cons, ev_snoc, ev_app, ev_take, ev_drop, ev_stake, ev_sdrop, ev_rep, leB_q, eqB_q, eqsB_q, not_q, i_if, b_if, l_if, s_if, i_int, b_bool, s_str, l_list, envL, List.getElem?_cons_succ, List.getElem?_cons_zero, List.getElem?_nil, Option.getD_some, Option.getD_none, Int.toNat_natCast, Int.toNat_zero, Int.reduceToNat, List.length_map, get_Li, get_Lb, get_Ls, set_Li, inj_Li, inj_Lb, inj_Ls, rows_i, rows_b, rows_s, Int.zero_add, iff_true, iff_false, and_true, true_and, Bool.false_eq_true, eq_self, not_true_eq_false, not_false_eq_true, List.length_replicate, DV.int.injEq, DV.bool.injEq, DV.str.injEq, DV.list.injEq, List.cons.injEq, f_En_0, rows_En, inj_LEn, f_En_1, rows_En, inj_LEn, f_ii_0, rows_ii, inj_Lii, f_ii_1, rows_ii, inj_Lii, hone, hwi, ht, List.cons_append, List.nil_append]
                    exact ⟨fun _ => ⟨by omega, by omega, by omega, by omega, fun h => h, fun _ => trivial⟩, fun h => absurd h (by omega)⟩
                  · simp only [Bool.not_true, Bool.not_false, Bool.true_eq_false, SE.den, evU, evT, ev_le, ev_eq, ev_eqs, ev_eqb, ev_slt, ev_and, ev_or, ev_add, ev_sub, ev_mul, ev_tdiv, ev_tmod, ev_band, ev_bor, ev_bxor, ev_bandn, ev_shl, ev_shr, ev_cat, ev_byte, ev_idx, ev_cons, ev_snoc, ev_app, ev_take, ev_drop, ev_stake, ev_sdrop, ev_rep, leB_q, eqB_q, eqsB_q, not_q, i_if, b_if, l_if, s_if, i_int, b_bool, s_str, l_list, envL, List.getElem?_cons_succ, List.getElem?_cons_zero, List.getElem?_nil, Option.getD_some, Option.getD_none, Int.toNat_natCast, Int.toNat_zero, Int.reduceToNat, List.length_map, get_Li, get_Lb, get_Ls, set_Li, inj_Li, inj_Lb, inj_Ls, rows_i, rows_b, rows_s, Int.zero_add, iff_true, iff_false, and_true, true_and, Bool.false_eq_true, eq_self, not_true_eq_false, not_false_eq_true, List.length_replicate, DV.int.injEq, DV.bool.injEq, DV.str.injEq, DV.list.injEq, List.cons.injEq, f_En_0, rows_En, inj_LEn, f_En_1, rows_En, inj_LEn, f_ii_0, rows_ii, inj_Lii, f_ii_1, rows_ii, inj_Lii, hone, List.cons_append, List.nil_append]
                    exact ⟨fun h => absurd (Int.le_refl _) h, fun _ => trivial⟩
namespace row
open Go.ChangeShapes Go.WideShapes Go.ChangeAt Go.RowKit Go.Joins Go.Deep Go.Proofs.YtkfjgggiopegbaaDoor
theorem lifted (os : Os) (started : os.Started) (H : Type) (enc : TypeId × Value → H) :
    ReturnsInHanded {} Tryd.checked os 4 .any (fun w args => (Rows.walRecoverSpec.pre enc Tryd.prog Tryd.f4 [] false w args ∧ laidMetH Tryd.prog Rows.walRecoverRow.laid w) ∧ sizedMet enc Tryd.prog Tryd.f4 (OpenSpec.ofChange Rows.walRecoverSpec) false w args) (Rows.walRecoverSpec.post enc Tryd.prog Tryd.f4 false true false false) := by
  refine returnsInHanded_of_change_and (C := Tryd.checked) (X := fun w _ => laidMetH Tryd.prog Rows.walRecoverRow.laid w) (fun _ _ _ hh h => h.of_heap hh) own started (by kernel_rfl) Tryd.func4
    (ChangeSpec.witness_shaped (enc := enc) (C := Tryd.checked) (os := os) (X := fun w _ => laidMetH Tryd.prog Rows.walRecoverRow.laid w) false (World.laidAll Tryd.prog os Rows.walRecoverRow.laid) #[.slice none 0 0, .int .u8 0, .int .u8 0, .int .u8 0] 8 (World.laidAll_os _ _ _)
      (World.shaped_of_ZipB (by kernel_rfl) (by kernel_rfl)) (by kernel_rfl) (by kernel_rfl) (by kernel_rfl)
      (by rw [MakeChecks.laidMetH_plain _ _ _ (by kernel_rfl)]; exact laidMet_laidAll _ (by kernel_rfl) (by kernel_rfl))) ?_
  intro W base args ds gs before hval0 hW hcnd _ _ _
  have hval : ∀ (j : Nat) t v, Tryd.f4.params[j]? = some t → args[j]? = some v → Value.okWide Tryd.prog W .any base t v := hval0
  have hW' := hW
  obtain ⟨p, q, hA0, hV, rfl, hfz, hnd⟩ := hW
  have hA : DataW.TrodAll enc Tryd.prog W 0 (fun _ => true) true Tryd.f4.params.toList args.toList ds p := hA0
  have hval2 : ∀ (j : Nat) t v, Tryd.f4.params.toList[j]? = some t → args.toList[j]? = some v → Value.okWide Tryd.prog W .any base t v := fun j t v a b => hval j t v (by simpa using a) (by simpa using b)
  have hcall := law_of walRecover_pure (fun _ h => h) (by rw [Tryd.params4]; kernel_rfl) hA hval2
  rw [Tryd.params4] at hA
  obtain ⟨v0, vs0, d0, ds0, p0, q0, hargs, rfl, rfl, h0, r0⟩ := trodAll_cons hA
  obtain ⟨v1, vs1, d1, ds1, p1, q1, rfl, rfl, rfl, h1, r1⟩ := trodAll_cons r0
  obtain ⟨v2, vs2, d2, ds2, p2, q2, rfl, rfl, rfl, h2, r2⟩ := trodAll_cons r1
  obtain ⟨v3, vs3, d3, ds3, p3, q3, rfl, rfl, rfl, h3, r3⟩ := trodAll_cons r2
  obtain ⟨rfl, rfl, rfl⟩ := trodAll_nil r3
  obtain rfl : args = #[v0, v1, v2, v3] := by cases args; simp_all
  obtain ⟨rfl, rfl⟩ := trodVars_none hV
  have lt0 : ∀ x ∈ p0, x.block < W.heap.size := by obtain ⟨m, hm⟩ := h0; exact DataW.trod_lt m _ _ _ hm
  have lt1 : ∀ x ∈ p1, x.block < W.heap.size := by obtain ⟨m, hm⟩ := h1; exact DataW.trod_lt m _ _ _ hm
  have lt2 : ∀ x ∈ p2, x.block < W.heap.size := by obtain ⟨m, hm⟩ := h2; exact DataW.trod_lt m _ _ _ hm
  have lt3 : ∀ x ∈ p3, x.block < W.heap.size := by obtain ⟨m, hm⟩ := h3; exact DataW.trod_lt m _ _ _ hm
  clear hA0 hval0 hval2
  refine Calls.mono hcall fun e W' ⟨he, bel⟩ => ?_
  subst he
  exact ⟨_, rfl, _, _, _, [], _, [], hW', trodAll_mk1 (shut_bool Tryd.underlying4 _), (trodAll_cons_mk (Below.trod laidOut (by kernel_rfl) (of_decide_eq_true (by kernel_rfl)) h0 bel lt0) (trodAll_cons_mk (Below.trod laidOut (by kernel_rfl) (of_decide_eq_true (by kernel_rfl)) h1 bel lt1) (trodAll_cons_mk (Below.trod laidOut (by kernel_rfl) (of_decide_eq_true (by kernel_rfl)) h2 bel lt2) (trodAll_cons_mk (Below.trod laidOut (by kernel_rfl) (of_decide_eq_true (by kernel_rfl)) h3 bel lt3) trodAll_mk0)))), rfl, bel.frame _, fun h => by cases h⟩
theorem over : Rows.walRecoverRow.holds Tryd.pinned (OpenSpec.ofChange Rows.walRecoverSpec) :=
  OpenClaim.holds_of_wide 4 Tryd.f4 rfl rfl rfl rfl rfl rfl rfl ⟨rfl, rfl, rfl, rfl, rfl⟩ rfl rfl rfl rfl rfl (by kernel_rfl) Tryd.func4 (by kernel_rfl)
    (of_decide_eq_true (by kernel_rfl)) (by unfold Func.isWrapper; first | (rw [if_pos (by decide +kernel)]; kernel_rfl) | (rw [if_neg (by decide +kernel)]; exact ⟨rfl, rfl⟩))
    (fun os started H enc _ => lifted os started H enc)
end row
theorem walRecover_proved : Rows.WalRecoverCardSaid :=
  Claim7.holds_tied_plain_at .later [] [.data, .pinned] true _ false row.over (fun _ h => by cases h) (by kernel_rfl) (fun _ h => by cases h) walRecover_row_tie rfl ⟨rfl, rfl⟩ (by kernel_rfl) rfl
    (fun f fn hf hfn => by
      obtain rfl : f = 4 := Option.some.inj ((show Tryd.prog.funcNamed Rows.walRecoverRow.func = some 4 by kernel_rfl).symm.trans hf) |>.symm
      obtain rfl : fn = Tryd.f4 := (Option.some.inj (Tryd.func4.symm.trans hfn)).symm
      exact ⟨by kernel_rfl, fun j t ht => by
        have hm : t ∈ Tryd.f4.params.toList := by simpa using Array.mem_of_getElem? ht
        have hall : (Tryd.f4.params.toList.all fun u => !Tryd.prog.wantsStandIn u) = true := by kernel_rfl
        exact (show Tryd.prog.wantsStandIn t = false by simpa using List.all_eq_true.1 hall t hm)⟩)
    (by kernel_rfl)
end Go.Proofs.YtkfjgggiopegbaaDoor
