/- DurableSeparates: the law returns true for every input, and each argument reads afterwards as it read before. No condition. -/
import Derived.Test.YtlaebfjfnbiooaaDoorLSane25
import Derived.Test.YtlaebfjfnbiooaaDoorRFew
import Derived.Test.YtlaebfjfnbiooaaDoorRDRight
import Derived.Test.YtlaebfjfnbiooaaDoorUDo
import Derived.Test.YtlaebfjfnbiooaaDoorRSame
import Derived.Test.YtlaebfjfnbiooaaDoorRDSame
import Derived.Test.YtlaebfjfnbiooaaDoorTie
import Derived.Test.YtlaebfjfnbiooaaDoorCards
import Derived.Lay
import Derived.SevenTiedAt
import Derived.Test.YtlaebfjfnbiooaaDoorBd
import Derived.Test.YtlaebfjfnbiooaaDoorOpen
namespace Go.Proofs.YtlaebfjfnbiooaaDoor
set_option linter.unusedVariables false
set_option linter.unusedSimpArgs false
set_option maxRecDepth 100000

theorem doM_len1 (l : List Int) (k c o n : Int) (s : List UInt8) : (doM l k c o n s).1.length = l.length := by unfold doM; split <;> (try split) <;> simp
theorem writeM_len (s : List (List UInt8)) (w : List Tis) (c : Int) (b : List UInt8) : (writeM s w c b).1.length = s.length ∧ (writeM s w c b).2.1.length ≤ w.length + 1 ∧ ((writeM s w c b).2.2 = 0 → (writeM s w c b).2.1.length = w.length + 1) := by
  unfold writeM
  split
  · split <;> simp
  · simp
theorem duM_len (l : List Int) (s : List (List UInt8)) (w : List Tis) (k c o n : Int) (b : List UInt8) : (duM l s w k c o n b).1.length = l.length ∧ (duM l s w k c o n b).2.1.length = s.length ∧ (duM l s w k c o n b).2.2.1.length ≤ w.length + 1 := by
  have h1 := doM_len1 l k c o n b
  have h2 := writeM_len s w c b
  unfold duM
  repeat' split
  all_goals simp
  all_goals omega
theorem few_len {s : List (List UInt8)} {w : List Tis} (h : fewDM s w = true) : (s.length : Int) ≤ 600 ∧ (w.length : Int) ≤ 60 := by
  unfold fewDM at h
  simp only [Bool.and_eq_true, decide_eq_true_eq] at h
  exact ⟨h.1, h.2.1⟩
theorem doM_err {l : List Int} {k c o n : Int} {s : List UInt8} (h : ¬ (doM l k c o n s).2.2 = 0) : (doM l k c o n s).1 = l ∧ (doM l k c o n s).2.1 = (0, false) := by
  unfold doM at h ⊢
  split
  · rename_i h1
    rw [if_pos h1] at h
    split
    · rename_i h2; rw [if_pos h2] at h; exact absurd rfl h
    · exact ⟨rfl, rfl⟩
  · exact ⟨rfl, rfl⟩
/-- An error changes nothing; a device's access leaves the memory; a memory's access leaves the device. -/
theorem duM_sep (l : List Int) (s : List (List UInt8)) (w : List Tis) (k c o n : Int) (b : List UInt8) :
    ((k = 5 ∨ k = 6 ∨ ¬ (duM l s w k c o n b).2.2.2.2 = 0) → (duM l s w k c o n b).1 = l) ∧
    ((¬ (k = 5 ∨ k = 6) ∨ ¬ (duM l s w k c o n b).2.2.2.2 = 0) → (duM l s w k c o n b).2.1 = s ∧ (duM l s w k c o n b).2.2.1 = w) ∧
    (¬ (duM l s w k c o n b).2.2.2.2 = 0 → (duM l s w k c o n b).2.2.2.1 = (0, false)) ∧
    (k = 5 → (duM l s w k c o n b).2.2.2.2 = 0 → (duM l s w k c o n b).2.2.1.length = w.length + 1) ∧
    (k = 6 → (duM l s w k c o n b).2.2.2.2 = 0 → (duM l s w k c o n b).2.2.1 = []) := by
  have h1 := @doM_err l k c o n b
  have h2 := writeM_len s w c b
  by_cases h5 : k = 5
  · have h6 : ¬ k = 6 := by omega
    unfold duM
    simp only [if_pos h5, h5, true_or, not_true_eq_false, false_or, forall_const, true_implies]
    by_cases ho : o = 0 ∧ n = 0
    · simp only [if_pos ho]
      by_cases hw : (writeM s w c b).2.2 = 0
      · simp only [if_pos hw]
        simp [h2.2.2 hw]
      · simp [if_neg hw, hw]
    · simp [if_neg ho]
  · by_cases h6 : k = 6
    · unfold duM
      simp only [if_neg h5, if_pos h6]
      by_cases ho : c = 0 ∧ o = 0 ∧ n = 0 ∧ b = []
      · simp [if_pos ho, h6]
      · simp [if_neg ho, h6]
    · have e : duM l s w k c o n b = ((doM l k c o n b).1, s, w, (doM l k c o n b).2.1, (doM l k c o n b).2.2) := by unfold duM; rw [if_neg h5, if_neg h6]
      rw [e]
      refine ⟨fun h => ?_, fun _ => ⟨rfl, rfl⟩, fun h => (h1 h).2, fun h => absurd h h5, fun h => absurd h h6⟩
      rcases h with h | h | h
      · exact absurd h h5
      · exact absurd h h6
      · exact (h1 h).1

def durableSeparatesF (ds : List DV) : List DV := [.bool true]
/-- What the executor makes of it. -/
def durableSeparatesTree : PT :=
(.br (.un .not (.bin .le (.un .len (.var 0)) (.int 60)))
 (.leaf [(.bin .idx (.fn 133 .nil) (.int 0))])
 (.br (.un .not (.bin .idx (.fn 80 (.bin .cons (.var 1) (.bin .cons (.var 2) .nil))) (.int 0)))
  (.leaf [(.bin .idx (.fn 133 .nil) (.int 0))])
  (.asrt (.bin .le (.un .len (.var 1)) (.int 1000000))
   (.asrt (.bin .le (.un .len (.var 2)) (.int 1000000))
    (.br (.un .not (.bin .idx (.fn 78 (.bin .cons (.var 1) (.bin .cons (.var 2) .nil))) (.int 0)))
     (.leaf [(.bin .idx (.fn 133 .nil) (.int 0))])
     (.br (.un .not (.bin .le (.un .slen (.var 7)) (.int 60)))
      (.leaf [(.bin .idx (.fn 133 .nil) (.int 0))])
      (.br (.bin .eq (.var 3) (.int 5))
       (.asrt (.bin .le (.un .len (.bin .idx (.fn 131 (.bin .cons (.var 0) (.bin .cons (.var 1) (.bin .cons (.var 2) (.bin .cons (.var 3) (.bin .cons (.var 4) (.bin .cons (.var 5) (.bin .cons (.var 6) (.bin .cons (.var 7) .nil))))))))) (.int 0))) (.int 1000000))
        (.br (.un .not (.bin .idx (.fn 4 (.bin .cons (.bin .idx (.fn 131 (.bin .cons (.var 0) (.bin .cons (.var 1) (.bin .cons (.var 2) (.bin .cons (.var 3) (.bin .cons (.var 4) (.bin .cons (.var 5) (.bin .cons (.var 6) (.bin .cons (.var 7) .nil))))))))) (.int 0)) (.bin .cons (.var 0) .nil))) (.int 0)))
         (.leaf [(.bool false)])
         (.br (.un .not (.bin .eq (.bin .idx (.fn 131 (.bin .cons (.var 0) (.bin .cons (.var 1) (.bin .cons (.var 2) (.bin .cons (.var 3) (.bin .cons (.var 4) (.bin .cons (.var 5) (.bin .cons (.var 6) (.bin .cons (.var 7) .nil))))))))) (.int 5)) (.int 0)))
          (.asrt (.bin .le (.un .len (.bin .idx (.fn 131 (.bin .cons (.var 0) (.bin .cons (.var 1) (.bin .cons (.var 2) (.bin .cons (.var 3) (.bin .cons (.var 4) (.bin .cons (.var 5) (.bin .cons (.var 6) (.bin .cons (.var 7) .nil))))))))) (.int 1))) (.int 1000000))
           (.asrt (.bin .le (.un .len (.bin .idx (.fn 131 (.bin .cons (.var 0) (.bin .cons (.var 1) (.bin .cons (.var 2) (.bin .cons (.var 3) (.bin .cons (.var 4) (.bin .cons (.var 5) (.bin .cons (.var 6) (.bin .cons (.var 7) .nil))))))))) (.int 2))) (.int 1000000))
            (.br (.un .not (.bin .idx (.fn 84 (.bin .cons (.bin .idx (.fn 131 (.bin .cons (.var 0) (.bin .cons (.var 1) (.bin .cons (.var 2) (.bin .cons (.var 3) (.bin .cons (.var 4) (.bin .cons (.var 5) (.bin .cons (.var 6) (.bin .cons (.var 7) .nil))))))))) (.int 1)) (.bin .cons (.bin .idx (.fn 131 (.bin .cons (.var 0) (.bin .cons (.var 1) (.bin .cons (.var 2) (.bin .cons (.var 3) (.bin .cons (.var 4) (.bin .cons (.var 5) (.bin .cons (.var 6) (.bin .cons (.var 7) .nil))))))))) (.int 2)) (.bin .cons (.var 1) (.bin .cons (.var 2) .nil))))) (.int 0)))
             (.leaf [(.bool false)])
             (.br (.bin .idx (.fn 133 .nil) (.int 0))
              (.leaf [(.bin .and (.bin .eq (.bin .idx (.fn 131 (.bin .cons (.var 0) (.bin .cons (.var 1) (.bin .cons (.var 2) (.bin .cons (.var 3) (.bin .cons (.var 4) (.bin .cons (.var 5) (.bin .cons (.var 6) (.bin .cons (.var 7) .nil))))))))) (.int 3)) (.int 0)) (.bin .eqb (.bin .idx (.fn 131 (.bin .cons (.var 0) (.bin .cons (.var 1) (.bin .cons (.var 2) (.bin .cons (.var 3) (.bin .cons (.var 4) (.bin .cons (.var 5) (.bin .cons (.var 6) (.bin .cons (.var 7) .nil))))))))) (.int 4)) (.bool false)))])
              (.leaf [(.bool false)])))))
          (.br (.bin .idx (.fn 133 .nil) (.int 0))
           (.leaf [(.bin .eq (.un .len (.bin .idx (.fn 131 (.bin .cons (.var 0) (.bin .cons (.var 1) (.bin .cons (.var 2) (.bin .cons (.var 3) (.bin .cons (.var 4) (.bin .cons (.var 5) (.bin .cons (.var 6) (.bin .cons (.var 7) .nil))))))))) (.int 2))) (.un (.wrap .i64) (.bin .add (.un .len (.var 2)) (.int 1))))])
           (.leaf [(.bool false)])))))
       (.br (.bin .eq (.var 3) (.int 6))
        (.asrt (.bin .le (.un .len (.bin .idx (.fn 131 (.bin .cons (.var 0) (.bin .cons (.var 1) (.bin .cons (.var 2) (.bin .cons (.var 3) (.bin .cons (.var 4) (.bin .cons (.var 5) (.bin .cons (.var 6) (.bin .cons (.var 7) .nil))))))))) (.int 0))) (.int 1000000))
         (.br (.un .not (.bin .idx (.fn 4 (.bin .cons (.bin .idx (.fn 131 (.bin .cons (.var 0) (.bin .cons (.var 1) (.bin .cons (.var 2) (.bin .cons (.var 3) (.bin .cons (.var 4) (.bin .cons (.var 5) (.bin .cons (.var 6) (.bin .cons (.var 7) .nil))))))))) (.int 0)) (.bin .cons (.var 0) .nil))) (.int 0)))
          (.leaf [(.bool false)])
          (.br (.un .not (.bin .eq (.bin .idx (.fn 131 (.bin .cons (.var 0) (.bin .cons (.var 1) (.bin .cons (.var 2) (.bin .cons (.var 3) (.bin .cons (.var 4) (.bin .cons (.var 5) (.bin .cons (.var 6) (.bin .cons (.var 7) .nil))))))))) (.int 5)) (.int 0)))
           (.asrt (.bin .le (.un .len (.bin .idx (.fn 131 (.bin .cons (.var 0) (.bin .cons (.var 1) (.bin .cons (.var 2) (.bin .cons (.var 3) (.bin .cons (.var 4) (.bin .cons (.var 5) (.bin .cons (.var 6) (.bin .cons (.var 7) .nil))))))))) (.int 1))) (.int 1000000))
            (.asrt (.bin .le (.un .len (.bin .idx (.fn 131 (.bin .cons (.var 0) (.bin .cons (.var 1) (.bin .cons (.var 2) (.bin .cons (.var 3) (.bin .cons (.var 4) (.bin .cons (.var 5) (.bin .cons (.var 6) (.bin .cons (.var 7) .nil))))))))) (.int 2))) (.int 1000000))
             (.br (.un .not (.bin .idx (.fn 84 (.bin .cons (.bin .idx (.fn 131 (.bin .cons (.var 0) (.bin .cons (.var 1) (.bin .cons (.var 2) (.bin .cons (.var 3) (.bin .cons (.var 4) (.bin .cons (.var 5) (.bin .cons (.var 6) (.bin .cons (.var 7) .nil))))))))) (.int 1)) (.bin .cons (.bin .idx (.fn 131 (.bin .cons (.var 0) (.bin .cons (.var 1) (.bin .cons (.var 2) (.bin .cons (.var 3) (.bin .cons (.var 4) (.bin .cons (.var 5) (.bin .cons (.var 6) (.bin .cons (.var 7) .nil))))))))) (.int 2)) (.bin .cons (.var 1) (.bin .cons (.var 2) .nil))))) (.int 0)))
              (.leaf [(.bool false)])
              (.br (.bin .idx (.fn 133 .nil) (.int 0))
               (.leaf [(.bin .and (.bin .eq (.bin .idx (.fn 131 (.bin .cons (.var 0) (.bin .cons (.var 1) (.bin .cons (.var 2) (.bin .cons (.var 3) (.bin .cons (.var 4) (.bin .cons (.var 5) (.bin .cons (.var 6) (.bin .cons (.var 7) .nil))))))))) (.int 3)) (.int 0)) (.bin .eqb (.bin .idx (.fn 131 (.bin .cons (.var 0) (.bin .cons (.var 1) (.bin .cons (.var 2) (.bin .cons (.var 3) (.bin .cons (.var 4) (.bin .cons (.var 5) (.bin .cons (.var 6) (.bin .cons (.var 7) .nil))))))))) (.int 4)) (.bool false)))])
               (.leaf [(.bool false)])))))
           (.br (.bin .idx (.fn 133 .nil) (.int 0))
            (.br (.bin .eq (.un .len (.bin .idx (.fn 131 (.bin .cons (.var 0) (.bin .cons (.var 1) (.bin .cons (.var 2) (.bin .cons (.var 3) (.bin .cons (.var 4) (.bin .cons (.var 5) (.bin .cons (.var 6) (.bin .cons (.var 7) .nil))))))))) (.int 2))) (.int 0))
             (.leaf [(.bin .eq (.un .len (.bin .idx (.fn 131 (.bin .cons (.var 0) (.bin .cons (.var 1) (.bin .cons (.var 2) (.bin .cons (.var 3) (.bin .cons (.var 4) (.bin .cons (.var 5) (.bin .cons (.var 6) (.bin .cons (.var 7) .nil))))))))) (.int 1))) (.un .len (.var 1)))])
             (.leaf [(.bool false)]))
            (.leaf [(.bool false)])))))
        (.br (.un .not (.bin .eq (.bin .idx (.fn 131 (.bin .cons (.var 0) (.bin .cons (.var 1) (.bin .cons (.var 2) (.bin .cons (.var 3) (.bin .cons (.var 4) (.bin .cons (.var 5) (.bin .cons (.var 6) (.bin .cons (.var 7) .nil))))))))) (.int 5)) (.int 0)))
         (.asrt (.bin .le (.un .len (.bin .idx (.fn 131 (.bin .cons (.var 0) (.bin .cons (.var 1) (.bin .cons (.var 2) (.bin .cons (.var 3) (.bin .cons (.var 4) (.bin .cons (.var 5) (.bin .cons (.var 6) (.bin .cons (.var 7) .nil))))))))) (.int 0))) (.int 1000000))
          (.br (.un .not (.bin .idx (.fn 4 (.bin .cons (.bin .idx (.fn 131 (.bin .cons (.var 0) (.bin .cons (.var 1) (.bin .cons (.var 2) (.bin .cons (.var 3) (.bin .cons (.var 4) (.bin .cons (.var 5) (.bin .cons (.var 6) (.bin .cons (.var 7) .nil))))))))) (.int 0)) (.bin .cons (.var 0) .nil))) (.int 0)))
           (.leaf [(.bool false)])
           (.asrt (.bin .le (.un .len (.bin .idx (.fn 131 (.bin .cons (.var 0) (.bin .cons (.var 1) (.bin .cons (.var 2) (.bin .cons (.var 3) (.bin .cons (.var 4) (.bin .cons (.var 5) (.bin .cons (.var 6) (.bin .cons (.var 7) .nil))))))))) (.int 1))) (.int 1000000))
            (.asrt (.bin .le (.un .len (.bin .idx (.fn 131 (.bin .cons (.var 0) (.bin .cons (.var 1) (.bin .cons (.var 2) (.bin .cons (.var 3) (.bin .cons (.var 4) (.bin .cons (.var 5) (.bin .cons (.var 6) (.bin .cons (.var 7) .nil))))))))) (.int 2))) (.int 1000000))
             (.br (.un .not (.bin .idx (.fn 84 (.bin .cons (.bin .idx (.fn 131 (.bin .cons (.var 0) (.bin .cons (.var 1) (.bin .cons (.var 2) (.bin .cons (.var 3) (.bin .cons (.var 4) (.bin .cons (.var 5) (.bin .cons (.var 6) (.bin .cons (.var 7) .nil))))))))) (.int 1)) (.bin .cons (.bin .idx (.fn 131 (.bin .cons (.var 0) (.bin .cons (.var 1) (.bin .cons (.var 2) (.bin .cons (.var 3) (.bin .cons (.var 4) (.bin .cons (.var 5) (.bin .cons (.var 6) (.bin .cons (.var 7) .nil))))))))) (.int 2)) (.bin .cons (.var 1) (.bin .cons (.var 2) .nil))))) (.int 0)))
              (.leaf [(.bool false)])
              (.br (.bin .idx (.fn 133 .nil) (.int 0))
               (.leaf [(.bin .and (.bin .eq (.bin .idx (.fn 131 (.bin .cons (.var 0) (.bin .cons (.var 1) (.bin .cons (.var 2) (.bin .cons (.var 3) (.bin .cons (.var 4) (.bin .cons (.var 5) (.bin .cons (.var 6) (.bin .cons (.var 7) .nil))))))))) (.int 3)) (.int 0)) (.bin .eqb (.bin .idx (.fn 131 (.bin .cons (.var 0) (.bin .cons (.var 1) (.bin .cons (.var 2) (.bin .cons (.var 3) (.bin .cons (.var 4) (.bin .cons (.var 5) (.bin .cons (.var 6) (.bin .cons (.var 7) .nil))))))))) (.int 4)) (.bool false)))])
               (.leaf [(.bool false)])))))))
         (.asrt (.bin .le (.un .len (.bin .idx (.fn 131 (.bin .cons (.var 0) (.bin .cons (.var 1) (.bin .cons (.var 2) (.bin .cons (.var 3) (.bin .cons (.var 4) (.bin .cons (.var 5) (.bin .cons (.var 6) (.bin .cons (.var 7) .nil))))))))) (.int 1))) (.int 1000000))
          (.asrt (.bin .le (.un .len (.bin .idx (.fn 131 (.bin .cons (.var 0) (.bin .cons (.var 1) (.bin .cons (.var 2) (.bin .cons (.var 3) (.bin .cons (.var 4) (.bin .cons (.var 5) (.bin .cons (.var 6) (.bin .cons (.var 7) .nil))))))))) (.int 2))) (.int 1000000))
           (.br (.un .not (.bin .idx (.fn 84 (.bin .cons (.bin .idx (.fn 131 (.bin .cons (.var 0) (.bin .cons (.var 1) (.bin .cons (.var 2) (.bin .cons (.var 3) (.bin .cons (.var 4) (.bin .cons (.var 5) (.bin .cons (.var 6) (.bin .cons (.var 7) .nil))))))))) (.int 1)) (.bin .cons (.bin .idx (.fn 131 (.bin .cons (.var 0) (.bin .cons (.var 1) (.bin .cons (.var 2) (.bin .cons (.var 3) (.bin .cons (.var 4) (.bin .cons (.var 5) (.bin .cons (.var 6) (.bin .cons (.var 7) .nil))))))))) (.int 2)) (.bin .cons (.var 1) (.bin .cons (.var 2) .nil))))) (.int 0)))
            (.leaf [(.bool false)])
            (.br (.bin .idx (.fn 133 .nil) (.int 0))
             (.leaf [(.bool true)])
             (.leaf [(.bool false)]))))))))))))))

def durableSeparatesSm : List (Nat × Smy) := [(8, ⟨133, [], [.one (.pl .bool)], fun _ => [], none⟩), (9, ⟨80, [.agg [.rows false [.str], .rows false [.int .i64, .str]]], [.one (.pl .bool)], lenC [(0, 9223372036854775807), (1, 9223372036854775807)], none⟩), (10, ⟨78, [.agg [.rows false [.str], .rows false [.int .i64, .str]]], [.one (.pl .bool)], lenC [(0, 1000000), (1, 1000000)], none⟩), (11, ⟨131, [.agg [.rows false [.int .i64]], .agg [.rows false [.str], .rows false [.int .i64, .str]], .agg [.pl (.int .i64), .pl (.int .i64), .pl (.int .i64), .pl (.int .i64), .pl .str]], [.agg [.rows false [.int .i64]], .agg [.rows false [.str], .rows false [.int .i64, .str]], .agg [.pl (.int .i64), .pl .bool], .one (.pl (.int .i64))], lenC [(0, 1000000), (1, 1000000), (2, 1000000)], none⟩), (13, ⟨4, [.agg [.rows false [.int .i64]], .agg [.rows false [.int .i64]]], [.one (.pl .bool)], lenC [(0, 1000000), (1, 1000000)], none⟩), (14, ⟨84, [.agg [.rows false [.str], .rows false [.int .i64, .str]], .agg [.rows false [.str], .rows false [.int .i64, .str]]], [.one (.pl .bool)], lenC [(0, 1000000), (1, 1000000), (2, 1000000), (3, 1000000)], none⟩)]
def durableSeparatesLa : List (LK × LA) := []
def durableSeparatesPhi : Fs := ⟨fun n d => match n with
  | 133 => .list (lSane25F d.l)
  | 80 => .list (rFewF d.l)
  | 78 => .list (rDRightF d.l)
  | 131 => .list (uDoF d.l)
  | 4 => .list (rSameF d.l)
  | 84 => .list (rDSameF d.l)
  | _ => d, 130⟩
theorem durableSeparatesS : SmyOk true Tryd.prog durableSeparatesPhi durableSeparatesSm := (smy_cons (fun _ => True) lSane25F lSane25_pure (fun _ _ _ _ => trivial) (fun _ => rfl) (fun _ h => by cases h) (smy_cons (lenP [(0, 9223372036854775807), (1, 9223372036854775807)]) rFewF rFew_pure (len_hp [(0, 9223372036854775807), (1, 9223372036854775807)]) (fun _ => rfl) (fun _ h => by cases h) (smy_cons (lenP [(0, 1000000), (1, 1000000)]) rDRightF rDRight_pure (len_hp [(0, 1000000), (1, 1000000)]) (fun _ => rfl) (fun _ h => by cases h) (smy_cons (lenP [(0, 1000000), (1, 1000000), (2, 1000000)]) uDoF uDo_pure (len_hp [(0, 1000000), (1, 1000000), (2, 1000000)]) (fun _ => rfl) (fun _ h => by cases h) (smy_cons (lenP [(0, 1000000), (1, 1000000)]) rSameF rSame_pure (len_hp [(0, 1000000), (1, 1000000)]) (fun _ => rfl) (fun _ h => by cases h) (smy_cons (lenP [(0, 1000000), (1, 1000000), (2, 1000000), (3, 1000000)]) rDSameF rDSame_pure (len_hp [(0, 1000000), (1, 1000000), (2, 1000000), (3, 1000000)]) (fun _ => rfl) (fun _ h => by cases h) smy_nil))))))
theorem durableSeparatesT : treeOk ⟨Tryd.prog, durableSeparatesSm, durableSeparatesLa, true⟩ 4000 5 [.agg [.rows false [.int .i64]], .agg [.rows false [.str], .rows false [.int .i64, .str]], .agg [.pl (.int .i64), .pl (.int .i64), .pl (.int .i64), .pl (.int .i64), .pl .str]] [.one (.pl .bool)] (rng 0 9223372036854775807 (.un .len (.var 0)) ++ (rng 0 9223372036854775807 (.un .len (.var 1)) ++ (rng 0 9223372036854775807 (.un .len (.var 2)) ++ (rng 0 9223372036854775807 (.un .slen (.var 7)) ++ ([]))))) durableSeparatesTree = true := by decide +kernel
set_option maxHeartbeats 1000000 in
theorem durableSeparates_pure : PureE true Tryd.prog 5 [.agg [.rows false [.int .i64]], .agg [.rows false [.str], .rows false [.int .i64, .str]], .agg [.pl (.int .i64), .pl (.int .i64), .pl (.int .i64), .pl (.int .i64), .pl .str]] [.one (.pl .bool)] (Wts (clsOf [.agg [.rows false [.int .i64]], .agg [.rows false [.str], .rows false [.int .i64, .str]], .agg [.pl (.int .i64), .pl (.int .i64), .pl (.int .i64), .pl (.int .i64), .pl .str]])) durableSeparatesF := by
  refine pure_tree (X := ⟨Tryd.prog, durableSeparatesSm, durableSeparatesLa, true⟩) (by decide +kernel) (Checked.mixed Tryd.checked) durableSeparatesS (by decide +kernel) (by decide +kernel) durableSeparatesT (by decide +kernel) ?_
  intro ds hl hp
  obtain ⟨d0, d1, d2, d3, d4, d5, d6, d7, rfl⟩ := len8 hl
  obtain ⟨_, _, he, w0, hp⟩ := hp
  cases he
  have b0 : ((d0.l.map DV.i).length : Int) ≤ 9223372036854775807 := by rw [List.length_map]; exact wt_len w0
  have v0 : ∀ v ∈ d0.l.map DV.i, -9223372036854775808 ≤ v ∧ v ≤ 9223372036854775807 := wt_ints w0 rfl rfl
  clear w0
  obtain ⟨_, _, he, w1, hp⟩ := hp
  cases he
  have b1 : ((d1.l.map DV.s).length : Int) ≤ 9223372036854775807 := by rw [List.length_map]; exact wt_len w1
  have v1 : ∀ v ∈ d1.l.map DV.s, (v.length : Int) ≤ 9223372036854775807 := wt_strs w1
  clear w1
  obtain ⟨_, _, he, w2, hp⟩ := hp
  cases he
  have b2 : ((d2.l.map decis).length : Int) ≤ 9223372036854775807 := by rw [List.length_map]; exact wt_len w2
  have v2 := wt_is w2
  clear w2
  obtain ⟨_, _, he, w3, hp⟩ := hp
  cases he
  have r3 : -9223372036854775808 ≤ d3.i ∧ d3.i ≤ 9223372036854775807 := wt_i w3 rfl rfl
  clear w3
  obtain ⟨_, _, he, w4, hp⟩ := hp
  cases he
  have r4 : -9223372036854775808 ≤ d4.i ∧ d4.i ≤ 9223372036854775807 := wt_i w4 rfl rfl
  clear w4
  obtain ⟨_, _, he, w5, hp⟩ := hp
  cases he
  have r5 : -9223372036854775808 ≤ d5.i ∧ d5.i ≤ 9223372036854775807 := wt_i w5 rfl rfl
  clear w5
  obtain ⟨_, _, he, w6, hp⟩ := hp
  cases he
  have r6 : -9223372036854775808 ≤ d6.i ∧ d6.i ≤ 9223372036854775807 := wt_i w6 rfl rfl
  clear w6
  obtain ⟨_, _, he, w7, hp⟩ := hp
  cases he
  have r7 : (d7.s.length : Int) ≤ 9223372036854775807 := wt_s w7
  clear w7
  have hN : nrmL (clsOf [.agg [.rows false [.int .i64]], .agg [.rows false [.str], .rows false [.int .i64, .str]], .agg [.pl (.int .i64), .pl (.int .i64), .pl (.int .i64), .pl (.int .i64), .pl .str]]) [d0, d1, d2, d3, d4, d5, d6, d7] = [.list ((d0.l.map DV.i).map DV.int), .list ((d1.l.map DV.s).map DV.str), .list ((d2.l.map decis).map encis), .int d3.i, .int d4.i, .int d5.i, .int d6.i, .str d7.s] := by
    simp only [clsOf, Sh.cls, List.append_nil, List.cons_append, List.nil_append, nrmL, Cl.nrm, CK.nrm, map_Li, map_Lis, map_Ls]
  have hF : durableSeparatesF [d0, d1, d2, d3, d4, d5, d6, d7] = [.bool true] := rfl
  rw [hN, hF]
  clear hN hp hl hF
  generalize d0.l.map DV.i = x0 at b0 v0 ⊢
  generalize d1.l.map DV.s = x1 at b1 v1 ⊢
  generalize d2.l.map decis = x2 at b2 v2 ⊢
  generalize d3.i = x3 at r3 ⊢
  generalize d4.i = x4 at r4 ⊢
  generalize d5.i = x5 at r5 ⊢
  generalize d6.i = x6 at r6 ⊢
  generalize d7.s = x7 at r7 ⊢
  refine ⟨(rng_ok (e := .un .len (.var 0)) (Int.natCast_nonneg _) (by show ((x0.map _).length : Int) ≤ _; rw [List.length_map]; exact b0) (rng_ok (e := .un .len (.var 1)) (Int.natCast_nonneg _) (by show ((x1.map _).length : Int) ≤ _; rw [List.length_map]; exact b1) (rng_ok (e := .un .len (.var 2)) (Int.natCast_nonneg _) (by show ((x2.map _).length : Int) ≤ _; rw [List.length_map]; exact b2) (rng_ok (e := .un .slen (.var 7)) (Int.natCast_nonneg _) r7 (facts_nil _))))), ?_⟩
  unfold durableSeparatesTree
  simp only [Sat, clsOf, Sh.cls, List.append_nil, List.cons_append, List.nil_append, nrmL, Cl.nrm, CK.nrm, List.map_cons, List.map_nil, List.length_cons, List.length_nil, List.cons.injEq, DV.bool.injEq, DV.int.injEq, DV.list.injEq, DV.str.injEq, and_true, true_and]
  simp only [q_le, q_eq, q_eqs, q_eqb, q_and, q_or, q_not, q_bool, iff_true, iff_false, Bool.not_true, Bool.not_false, Bool.false_eq_true, Bool.true_eq_false, eq_self, Bool.not_not]
  simp only [Bool.not_true, Bool.not_false, Bool.true_eq_false, SE.den, evU, evT, ev_le, ev_eq, ev_eqs, ev_eqb, ev_slt, ev_and, ev_or, ev_add, ev_sub, ev_mul, ev_tdiv, ev_tmod, ev_band, ev_bor, ev_bxor, ev_bandn, ev_shl, ev_shr, ev_cat, ev_byte, ev_idx, ev_cons, ev_snoc, ev_app, ev_take, ev_drop, ev_stake, ev_sdrop, ev_rep, leB_q, eqB_q, eqsB_q, not_q, i_if, b_if, l_if, s_if, i_int, b_bool, s_str, l_list, envL, List.getElem?_cons_succ, List.getElem?_cons_zero, List.getElem?_nil, Option.getD_some, Option.getD_none, Int.toNat_natCast, Int.toNat_zero, Int.reduceToNat, List.length_map, get_Li, get_Lb, get_Ls, set_Li, inj_Li, inj_Lb, inj_Ls, rows_i, rows_b, rows_s, Int.zero_add, iff_true, iff_false, and_true, true_and, Bool.false_eq_true, eq_self, not_true_eq_false, not_false_eq_true, List.length_replicate, DV.int.injEq, DV.bool.injEq, DV.str.injEq, DV.list.injEq, List.cons.injEq, f_is_0, rows_is, inj_Lis, f_is_1, rows_is, inj_Lis, durableSeparatesPhi, lSane25F, lSane25E, rFewF, rFewE, rDRightF, rDRightE, uDoF, uDoE, rSameF, rSameE, rDSameF, rDSameE, gi, gb, gs, gLi, gLu, gLb, gLs, dece_i, dece_b, dece_s, gLis, deces_is, duD]
  obtain ⟨l1, l2, l3⟩ := duM_len x0 x1 x2 x3 x4 x5 x6 x7
  obtain ⟨s1, s2, s3, s4, s5⟩ := duM_sep x0 x1 x2 x3 x4 x5 x6 x7
  refine ⟨fun _ => trivial, fun h0 => ⟨fun _ => trivial, fun hf => ?_⟩⟩
  obtain ⟨f1, f2⟩ := few_len hf
  refine ⟨by omega, by omega, fun _ => trivial, fun _ => ⟨fun _ => trivial, fun _ => ?_⟩⟩
  have hw : IntKind.i64.wrap ((x2.length : Int) + 1) = x2.length + 1 := w64 (by omega) (by omega)
  rw [hw]
  generalize duM x0 x1 x2 x3 x4 x5 x6 x7 = r at *
  clear hw hf v0 v1 v2
  refine ⟨fun h5 => ?_, fun h5 => ⟨fun h6 => ?_, fun h6 => ?_⟩⟩
  · have e1 := s1 (.inl h5)
    refine ⟨by omega, by simp [e1], fun _ => ⟨fun he => ?_, fun he => ?_⟩⟩
    · obtain ⟨e2, e3⟩ := s2 (.inr he)
      have e4 := s3 he
      refine ⟨by omega, by omega, by simp [e2, e3], fun _ => ⟨fun _ => by simp [e4], fun h => h.elim⟩⟩
    · have := s4 h5 he
      exact ⟨fun _ => by omega, fun h => h.elim⟩
  · have e1 := s1 (.inr (.inl h6))
    refine ⟨by omega, by simp [e1], fun _ => ⟨fun he => ?_, fun he => ?_⟩⟩
    · obtain ⟨e2, e3⟩ := s2 (.inr he)
      have e4 := s3 he
      refine ⟨by omega, by omega, by simp [e2, e3], fun _ => ⟨fun _ => by simp [e4], fun h => h.elim⟩⟩
    · have := s5 h6 he
      exact ⟨fun _ => by simp [this]; omega, fun h => h.elim⟩
  · refine ⟨fun he => ?_, fun he => ?_⟩
    · have e1 := s1 (.inr (.inr he))
      obtain ⟨e2, e3⟩ := s2 (.inr he)
      have e4 := s3 he
      refine ⟨by omega, by simp [e1], fun _ => ⟨by omega, by omega, by simp [e2, e3], fun _ => ⟨fun _ => by simp [e4], fun h => h.elim⟩⟩⟩
    · obtain ⟨e2, e3⟩ := s2 (.inl (by omega))
      refine ⟨by omega, by omega, by simp [e2, e3], fun _ => ⟨fun _ => trivial, fun h => h.elim⟩⟩
namespace row
open Go.ChangeShapes Go.WideShapes Go.ChangeAt Go.RowKit Go.Joins Go.Deep Go.Proofs.YtlaebfjfnbiooaaDoor
theorem lifted (os : Os) (started : os.Started) (H : Type) (enc : TypeId × Value → H) :
    ReturnsInHanded {} Tryd.checked os 5 .any (fun w args => (Rows.durableSeparatesSpec.pre enc Tryd.prog Tryd.f5 [] false w args ∧ laidMetH Tryd.prog Rows.durableSeparatesRow.laid w) ∧ sizedMet enc Tryd.prog Tryd.f5 (OpenSpec.ofChange Rows.durableSeparatesSpec) false w args) (Rows.durableSeparatesSpec.post enc Tryd.prog Tryd.f5 false true false false) := by
  refine returnsInHanded_of_change_and (C := Tryd.checked) (X := fun w _ => laidMetH Tryd.prog Rows.durableSeparatesRow.laid w) (fun _ _ _ hh h => h.of_heap hh) own started (by kernel_rfl) Tryd.func5
    (ChangeSpec.witness_shaped (enc := enc) (C := Tryd.checked) (os := os) (X := fun w _ => laidMetH Tryd.prog Rows.durableSeparatesRow.laid w) false (World.laidAll Tryd.prog os Rows.durableSeparatesRow.laid) #[.agg #[.slice none 0 0], .agg #[.slice none 0 0, .slice none 0 0], .agg #[.int .i64 0, .int .i64 0, .int .i64 0, .int .i64 0, .string ⟨#[]⟩]] 8 (World.laidAll_os _ _ _)
      (World.shaped_of_ZipB (by kernel_rfl) (by kernel_rfl)) (by kernel_rfl) (by kernel_rfl) (by kernel_rfl)
      (by rw [MakeChecks.laidMetH_plain _ _ _ (by kernel_rfl)]; exact laidMet_laidAll _ (by kernel_rfl) (by kernel_rfl))) ?_
  intro W base args ds gs before hval0 hW hcnd _ _ _
  have hval : ∀ (j : Nat) t v, Tryd.f5.params[j]? = some t → args[j]? = some v → Value.okWide Tryd.prog W .any base t v := hval0
  have hW' := hW
  obtain ⟨p, q, hA0, hV, rfl, hfz, hnd⟩ := hW
  have hA : DataW.TrodAll enc Tryd.prog W 0 (fun _ => true) true Tryd.f5.params.toList args.toList ds p := hA0
  have hval2 : ∀ (j : Nat) t v, Tryd.f5.params.toList[j]? = some t → args.toList[j]? = some v → Value.okWide Tryd.prog W .any base t v := fun j t v a b => hval j t v (by simpa using a) (by simpa using b)
  have hcall := law_of durableSeparates_pure (fun _ h => h) (by rw [Tryd.params5]; kernel_rfl) hA hval2
  rw [Tryd.params5] at hA
  obtain ⟨v0, vs0, d0, ds0, p0, q0, hargs, rfl, rfl, h0, r0⟩ := trodAll_cons hA
  obtain ⟨v1, vs1, d1, ds1, p1, q1, rfl, rfl, rfl, h1, r1⟩ := trodAll_cons r0
  obtain ⟨v2, vs2, d2, ds2, p2, q2, rfl, rfl, rfl, h2, r2⟩ := trodAll_cons r1
  obtain ⟨rfl, rfl, rfl⟩ := trodAll_nil r2
  obtain rfl : args = #[v0, v1, v2] := by cases args; simp_all
  obtain ⟨rfl, rfl⟩ := trodVars_none hV
  have lt0 : ∀ x ∈ p0, x.block < W.heap.size := by obtain ⟨m, hm⟩ := h0; exact DataW.trod_lt m _ _ _ hm
  have lt1 : ∀ x ∈ p1, x.block < W.heap.size := by obtain ⟨m, hm⟩ := h1; exact DataW.trod_lt m _ _ _ hm
  have lt2 : ∀ x ∈ p2, x.block < W.heap.size := by obtain ⟨m, hm⟩ := h2; exact DataW.trod_lt m _ _ _ hm
  clear hA0 hval0 hval2
  refine Calls.mono hcall fun e W' ⟨he, bel⟩ => ?_
  subst he
  exact ⟨_, rfl, _, _, _, [], _, [], hW', trodAll_mk1 (shut_bool Tryd.underlying4 _), (trodAll_cons_mk (Below.trod laidOut (by kernel_rfl) (of_decide_eq_true (by kernel_rfl)) h0 bel lt0) (trodAll_cons_mk (Below.trod laidOut (by kernel_rfl) (of_decide_eq_true (by kernel_rfl)) h1 bel lt1) (trodAll_cons_mk (Below.trod laidOut (by kernel_rfl) (of_decide_eq_true (by kernel_rfl)) h2 bel lt2) trodAll_mk0))), rfl, bel.frame _, fun h => by cases h⟩
theorem over : Rows.durableSeparatesRow.holds Tryd.pinned (OpenSpec.ofChange Rows.durableSeparatesSpec) :=
  OpenClaim.holds_of_wide 5 Tryd.f5 rfl rfl rfl rfl rfl rfl rfl ⟨rfl, rfl, rfl, rfl, rfl⟩ rfl rfl rfl rfl rfl (by kernel_rfl) Tryd.func5 (by kernel_rfl)
    (of_decide_eq_true (by kernel_rfl)) (by unfold Func.isWrapper; first | (rw [if_pos (by decide +kernel)]; kernel_rfl) | (rw [if_neg (by decide +kernel)]; exact ⟨rfl, rfl⟩))
    (fun os started H enc _ => lifted os started H enc)
end row
theorem durableSeparates_proved : Rows.DurableSeparatesCardSaid :=
  Claim7.holds_tied_plain_at .later [] [.data, .pinned] true _ false row.over (fun _ h => by cases h) (by kernel_rfl) (fun _ h => by cases h) durableSeparates_row_tie rfl ⟨rfl, rfl⟩ (by kernel_rfl) rfl
    (fun f fn hf hfn => by
      obtain rfl : f = 5 := Option.some.inj ((show Tryd.prog.funcNamed Rows.durableSeparatesRow.func = some 5 by kernel_rfl).symm.trans hf) |>.symm
      obtain rfl : fn = Tryd.f5 := (Option.some.inj (Tryd.func5.symm.trans hfn)).symm
      exact ⟨by kernel_rfl, fun j t ht => by
        have hm : t ∈ Tryd.f5.params.toList := by simpa using Array.mem_of_getElem? ht
        have hall : (Tryd.f5.params.toList.all fun u => !Tryd.prog.wantsStandIn u) = true := by kernel_rfl
        exact (show Tryd.prog.wantsStandIn t = false by simpa using List.all_eq_true.1 hall t hm)⟩)
    (by kernel_rfl)
end Go.Proofs.YtlaebfjfnbiooaaDoor
