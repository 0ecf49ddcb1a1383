/- MemAllSplits: the law returns true for every input, and each argument reads afterwards as it read before. No condition. -/
import Derived.Test.YtbnbljeegghgiaaLSane02
import Derived.Test.YtbnbljeegghgiaaMemAll
import Derived.Test.YtbnbljeegghgiaaRSame
import Derived.Test.YtbnbljeegghgiaaRTold
import Derived.Test.YtbnbljeegghgiaaBd
import Derived.Test.YtbnbljeegghgiaaOpen
namespace Go.Proofs.Ytbnbljeegghgiaa
set_option linter.unusedVariables false
set_option linter.unusedSimpArgs false
set_option maxRecDepth 100000

/-- The results told so far, and the memory that comes back with an error, do not matter to the rest. -/
theorem allM_rest (m0 m0' : List Int) : ∀ (l : List Tiiiis) (m : List Int) (t t' : List Tib), (allM m0 l m t).2.2 = (allM m0' l m t').2.2 ∧ ((allM m0 l m t).2.2 = 0 → (allM m0 l m t).1 = (allM m0' l m t').1 ∧ ∃ R, (allM m0 l m t).2.1 = t ++ R ∧ (allM m0' l m t').2.1 = t' ++ R)
  | [], m, t, t' => ⟨rfl, fun _ => ⟨rfl, [], by simp [allM]⟩⟩
  | a :: r, m, t, t' => by
    unfold allM
    by_cases h : (doM m a.1 a.2.1 a.2.2.1 a.2.2.2.1 a.2.2.2.2).2.2 = 0
    · rw [if_pos h, if_pos h]
      obtain ⟨h1, h2⟩ := allM_rest m0 m0' r (doM m a.1 a.2.1 a.2.2.1 a.2.2.2.1 a.2.2.2.2).1 (t ++ [(doM m a.1 a.2.1 a.2.2.1 a.2.2.2.1 a.2.2.2.2).2.1]) (t' ++ [(doM m a.1 a.2.1 a.2.2.1 a.2.2.2.1 a.2.2.2.2).2.1])
      refine ⟨h1, fun he => ?_⟩
      obtain ⟨k1, R, k2, k3⟩ := h2 he
      exact ⟨k1, _ :: R, by rw [k2]; simp; rfl, by rw [k3]; simp⟩
    · rw [if_neg h, if_neg h]
      exact ⟨rfl, fun he => absurd he h⟩
theorem allM_cons (m0 : List Int) (a : Tiiiis) (r : List Tiiiis) (m : List Int) (t : List Tib) : allM m0 (a :: r) m t = if (doM m a.1 a.2.1 a.2.2.1 a.2.2.2.1 a.2.2.2.2).2.2 = 0 then allM m0 r (doM m a.1 a.2.1 a.2.2.1 a.2.2.2.1 a.2.2.2.2).1 (t ++ [(doM m a.1 a.2.1 a.2.2.1 a.2.2.2.1 a.2.2.2.2).2.1]) else (m0, [], (doM m a.1 a.2.1 a.2.2.1 a.2.2.2.1 a.2.2.2.2).2.2) := rfl
theorem allM_app (m0 : List Int) : ∀ (l1 l2 : List Tiiiis) (m : List Int) (t : List Tib), allM m0 (l1 ++ l2) m t = if (allM m0 l1 m t).2.2 = 0 then allM m0 l2 (allM m0 l1 m t).1 (allM m0 l1 m t).2.1 else (m0, [], (allM m0 l1 m t).2.2)
  | [], l2, m, t => by simp [allM]
  | a :: r, l2, m, t => by
    rw [show (a :: r) ++ l2 = a :: (r ++ l2) from rfl, allM_cons, allM_cons]
    by_cases h : (doM m a.1 a.2.1 a.2.2.1 a.2.2.2.1 a.2.2.2.2).2.2 = 0
    · rw [if_pos h, if_pos h]
      exact allM_app m0 r l2 _ _
    · rw [if_neg h, if_neg h, if_neg h]
theorem splitM (m : List Int) (l1 l2 : List Tiiiis) : ((allM m l1 m []).2.2 ≠ 0 → (allM m (l1 ++ l2) m []).2.2 = (allM m l1 m []).2.2) ∧ ((allM m l1 m []).2.2 = 0 →
    (allM m (l1 ++ l2) m []).2.2 = (allM (allM m l1 m []).1 l2 (allM m l1 m []).1 []).2.2 ∧ ((allM (allM m l1 m []).1 l2 (allM m l1 m []).1 []).2.2 = 0 → (allM m (l1 ++ l2) m []).1 = (allM (allM m l1 m []).1 l2 (allM m l1 m []).1 []).1 ∧ (allM m (l1 ++ l2) m []).2.1 = (allM m l1 m []).2.1 ++ (allM (allM m l1 m []).1 l2 (allM m l1 m []).1 []).2.1)) := by
  rw [allM_app]
  refine ⟨fun h => by rw [if_neg h], fun h => ?_⟩
  rw [if_pos h]
  obtain ⟨h1, h2⟩ := allM_rest m (allM m l1 m []).1 l2 (allM m l1 m []).1 (allM m l1 m []).2.1 []
  refine ⟨h1, fun he => ?_⟩
  obtain ⟨k1, R, k2, k3⟩ := h2 (h1.trans he)
  exact ⟨k1, by rw [k2, k3]; simp⟩

def memAllSplitsF (ds : List DV) : List DV := [.bool true]
/-- What the executor makes of it. -/
def memAllSplitsTree : PT :=
(.br (.un .not (.bin .le (.un .len (.var 0)) (.int 60)))
 (.leaf [(.bin .idx (.fn 12 .nil) (.int 0))])
 (.br (.un .not (.bin .le (.un .len (.var 1)) (.int 30)))
  (.leaf [(.bin .idx (.fn 12 .nil) (.int 0))])
  (.asrt (.bin .le (.int 0) (.bin .tmod (.un (.wrap .i64) (.var 2)) (.un (.wrap .i64) (.bin .add (.un .len (.var 1)) (.int 1)))))
   (.asrt (.bin .le (.bin .tmod (.un (.wrap .i64) (.var 2)) (.un (.wrap .i64) (.bin .add (.un .len (.var 1)) (.int 1)))) (.un .len (.var 1)))
    (.asrt (.bin .le (.un .len (.bin .take (.bin .drop (.var 1) (.int 0)) (.bin .sub (.bin .tmod (.un (.wrap .i64) (.var 2)) (.un (.wrap .i64) (.bin .add (.un .len (.var 1)) (.int 1)))) (.int 0)))) (.int 1000000))
     (.br (.un .not (.bin .eq (.bin .idx (.fn 8 (.bin .cons (.var 0) (.bin .cons (.bin .take (.bin .drop (.var 1) (.int 0)) (.bin .sub (.bin .tmod (.un (.wrap .i64) (.var 2)) (.un (.wrap .i64) (.bin .add (.un .len (.var 1)) (.int 1)))) (.int 0))) .nil))) (.int 2)) (.int 0)))
      (.br (.bin .idx (.fn 12 .nil) (.int 0))
       (.leaf [(.bin .eq (.bin .idx (.fn 8 (.bin .cons (.var 0) (.bin .cons (.var 1) .nil))) (.int 2)) (.bin .idx (.fn 8 (.bin .cons (.var 0) (.bin .cons (.bin .take (.bin .drop (.var 1) (.int 0)) (.bin .sub (.bin .tmod (.un (.wrap .i64) (.var 2)) (.un (.wrap .i64) (.bin .add (.un .len (.var 1)) (.int 1)))) (.int 0))) .nil))) (.int 2)))])
       (.leaf [(.bool false)]))
      (.asrt (.bin .le (.un .len (.bin .idx (.fn 8 (.bin .cons (.var 0) (.bin .cons (.bin .take (.bin .drop (.var 1) (.int 0)) (.bin .sub (.bin .tmod (.un (.wrap .i64) (.var 2)) (.un (.wrap .i64) (.bin .add (.un .len (.var 1)) (.int 1)))) (.int 0))) .nil))) (.int 0))) (.int 1000000))
       (.asrt (.bin .le (.un .len (.bin .take (.bin .drop (.var 1) (.bin .add (.int 0) (.bin .tmod (.un (.wrap .i64) (.var 2)) (.un (.wrap .i64) (.bin .add (.un .len (.var 1)) (.int 1)))))) (.bin .sub (.un .len (.var 1)) (.bin .tmod (.un (.wrap .i64) (.var 2)) (.un (.wrap .i64) (.bin .add (.un .len (.var 1)) (.int 1))))))) (.int 1000000))
        (.br (.un .not (.bin .eq (.bin .idx (.fn 8 (.bin .cons (.bin .idx (.fn 8 (.bin .cons (.var 0) (.bin .cons (.bin .take (.bin .drop (.var 1) (.int 0)) (.bin .sub (.bin .tmod (.un (.wrap .i64) (.var 2)) (.un (.wrap .i64) (.bin .add (.un .len (.var 1)) (.int 1)))) (.int 0))) .nil))) (.int 0)) (.bin .cons (.bin .take (.bin .drop (.var 1) (.bin .add (.int 0) (.bin .tmod (.un (.wrap .i64) (.var 2)) (.un (.wrap .i64) (.bin .add (.un .len (.var 1)) (.int 1)))))) (.bin .sub (.un .len (.var 1)) (.bin .tmod (.un (.wrap .i64) (.var 2)) (.un (.wrap .i64) (.bin .add (.un .len (.var 1)) (.int 1)))))) .nil))) (.int 2)) (.int 0)))
         (.br (.bin .idx (.fn 12 .nil) (.int 0))
          (.leaf [(.bin .eq (.bin .idx (.fn 8 (.bin .cons (.var 0) (.bin .cons (.var 1) .nil))) (.int 2)) (.bin .idx (.fn 8 (.bin .cons (.bin .idx (.fn 8 (.bin .cons (.var 0) (.bin .cons (.bin .take (.bin .drop (.var 1) (.int 0)) (.bin .sub (.bin .tmod (.un (.wrap .i64) (.var 2)) (.un (.wrap .i64) (.bin .add (.un .len (.var 1)) (.int 1)))) (.int 0))) .nil))) (.int 0)) (.bin .cons (.bin .take (.bin .drop (.var 1) (.bin .add (.int 0) (.bin .tmod (.un (.wrap .i64) (.var 2)) (.un (.wrap .i64) (.bin .add (.un .len (.var 1)) (.int 1)))))) (.bin .sub (.un .len (.var 1)) (.bin .tmod (.un (.wrap .i64) (.var 2)) (.un (.wrap .i64) (.bin .add (.un .len (.var 1)) (.int 1)))))) .nil))) (.int 2)))])
          (.leaf [(.bool false)]))
         (.br (.bin .idx (.fn 12 .nil) (.int 0))
          (.br (.bin .eq (.bin .idx (.fn 8 (.bin .cons (.var 0) (.bin .cons (.var 1) .nil))) (.int 2)) (.int 0))
           (.asrt (.bin .le (.un .len (.bin .idx (.fn 8 (.bin .cons (.var 0) (.bin .cons (.var 1) .nil))) (.int 0))) (.int 1000000))
            (.asrt (.bin .le (.un .len (.bin .idx (.fn 8 (.bin .cons (.bin .idx (.fn 8 (.bin .cons (.var 0) (.bin .cons (.bin .take (.bin .drop (.var 1) (.int 0)) (.bin .sub (.bin .tmod (.un (.wrap .i64) (.var 2)) (.un (.wrap .i64) (.bin .add (.un .len (.var 1)) (.int 1)))) (.int 0))) .nil))) (.int 0)) (.bin .cons (.bin .take (.bin .drop (.var 1) (.bin .add (.int 0) (.bin .tmod (.un (.wrap .i64) (.var 2)) (.un (.wrap .i64) (.bin .add (.un .len (.var 1)) (.int 1)))))) (.bin .sub (.un .len (.var 1)) (.bin .tmod (.un (.wrap .i64) (.var 2)) (.un (.wrap .i64) (.bin .add (.un .len (.var 1)) (.int 1)))))) .nil))) (.int 0))) (.int 1000000))
             (.br (.bin .idx (.fn 4 (.bin .cons (.bin .idx (.fn 8 (.bin .cons (.var 0) (.bin .cons (.var 1) .nil))) (.int 0)) (.bin .cons (.bin .idx (.fn 8 (.bin .cons (.bin .idx (.fn 8 (.bin .cons (.var 0) (.bin .cons (.bin .take (.bin .drop (.var 1) (.int 0)) (.bin .sub (.bin .tmod (.un (.wrap .i64) (.var 2)) (.un (.wrap .i64) (.bin .add (.un .len (.var 1)) (.int 1)))) (.int 0))) .nil))) (.int 0)) (.bin .cons (.bin .take (.bin .drop (.var 1) (.bin .add (.int 0) (.bin .tmod (.un (.wrap .i64) (.var 2)) (.un (.wrap .i64) (.bin .add (.un .len (.var 1)) (.int 1)))))) (.bin .sub (.un .len (.var 1)) (.bin .tmod (.un (.wrap .i64) (.var 2)) (.un (.wrap .i64) (.bin .add (.un .len (.var 1)) (.int 1)))))) .nil))) (.int 0)) .nil))) (.int 0))
              (.asrt (.bin .le (.un .len (.bin .idx (.fn 8 (.bin .cons (.var 0) (.bin .cons (.bin .take (.bin .drop (.var 1) (.int 0)) (.bin .sub (.bin .tmod (.un (.wrap .i64) (.var 2)) (.un (.wrap .i64) (.bin .add (.un .len (.var 1)) (.int 1)))) (.int 0))) .nil))) (.int 1))) (.int 4294967296))
               (.asrt (.bin .le (.bin .add (.un .len (.bin .idx (.fn 8 (.bin .cons (.var 0) (.bin .cons (.bin .take (.bin .drop (.var 1) (.int 0)) (.bin .sub (.bin .tmod (.un (.wrap .i64) (.var 2)) (.un (.wrap .i64) (.bin .add (.un .len (.var 1)) (.int 1)))) (.int 0))) .nil))) (.int 1))) (.un .len (.bin .idx (.fn 8 (.bin .cons (.bin .idx (.fn 8 (.bin .cons (.var 0) (.bin .cons (.bin .take (.bin .drop (.var 1) (.int 0)) (.bin .sub (.bin .tmod (.un (.wrap .i64) (.var 2)) (.un (.wrap .i64) (.bin .add (.un .len (.var 1)) (.int 1)))) (.int 0))) .nil))) (.int 0)) (.bin .cons (.bin .take (.bin .drop (.var 1) (.bin .add (.int 0) (.bin .tmod (.un (.wrap .i64) (.var 2)) (.un (.wrap .i64) (.bin .add (.un .len (.var 1)) (.int 1)))))) (.bin .sub (.un .len (.var 1)) (.bin .tmod (.un (.wrap .i64) (.var 2)) (.un (.wrap .i64) (.bin .add (.un .len (.var 1)) (.int 1)))))) .nil))) (.int 1)))) (.int 4294967296))
                (.asrt (.bin .le (.un .len (.bin .idx (.fn 8 (.bin .cons (.var 0) (.bin .cons (.var 1) .nil))) (.int 1))) (.int 1000000))
                 (.asrt (.bin .le (.un .len (.bin .app (.bin .idx (.fn 8 (.bin .cons (.var 0) (.bin .cons (.bin .take (.bin .drop (.var 1) (.int 0)) (.bin .sub (.bin .tmod (.un (.wrap .i64) (.var 2)) (.un (.wrap .i64) (.bin .add (.un .len (.var 1)) (.int 1)))) (.int 0))) .nil))) (.int 1)) (.bin .idx (.fn 8 (.bin .cons (.bin .idx (.fn 8 (.bin .cons (.var 0) (.bin .cons (.bin .take (.bin .drop (.var 1) (.int 0)) (.bin .sub (.bin .tmod (.un (.wrap .i64) (.var 2)) (.un (.wrap .i64) (.bin .add (.un .len (.var 1)) (.int 1)))) (.int 0))) .nil))) (.int 0)) (.bin .cons (.bin .take (.bin .drop (.var 1) (.bin .add (.int 0) (.bin .tmod (.un (.wrap .i64) (.var 2)) (.un (.wrap .i64) (.bin .add (.un .len (.var 1)) (.int 1)))))) (.bin .sub (.un .len (.var 1)) (.bin .tmod (.un (.wrap .i64) (.var 2)) (.un (.wrap .i64) (.bin .add (.un .len (.var 1)) (.int 1)))))) .nil))) (.int 1)))) (.int 1000000))
                  (.leaf [(.bin .idx (.fn 7 (.bin .cons (.bin .idx (.fn 8 (.bin .cons (.var 0) (.bin .cons (.var 1) .nil))) (.int 1)) (.bin .cons (.bin .app (.bin .idx (.fn 8 (.bin .cons (.var 0) (.bin .cons (.bin .take (.bin .drop (.var 1) (.int 0)) (.bin .sub (.bin .tmod (.un (.wrap .i64) (.var 2)) (.un (.wrap .i64) (.bin .add (.un .len (.var 1)) (.int 1)))) (.int 0))) .nil))) (.int 1)) (.bin .idx (.fn 8 (.bin .cons (.bin .idx (.fn 8 (.bin .cons (.var 0) (.bin .cons (.bin .take (.bin .drop (.var 1) (.int 0)) (.bin .sub (.bin .tmod (.un (.wrap .i64) (.var 2)) (.un (.wrap .i64) (.bin .add (.un .len (.var 1)) (.int 1)))) (.int 0))) .nil))) (.int 0)) (.bin .cons (.bin .take (.bin .drop (.var 1) (.bin .add (.int 0) (.bin .tmod (.un (.wrap .i64) (.var 2)) (.un (.wrap .i64) (.bin .add (.un .len (.var 1)) (.int 1)))))) (.bin .sub (.un .len (.var 1)) (.bin .tmod (.un (.wrap .i64) (.var 2)) (.un (.wrap .i64) (.bin .add (.un .len (.var 1)) (.int 1)))))) .nil))) (.int 1))) .nil))) (.int 0))])))))
              (.leaf [(.bool false)]))))
           (.leaf [(.bool false)]))
          (.leaf [(.bool false)])))))))))))

def memAllSplitsSm : List (Nat × Smy) := [(31, ⟨12, [], [.one (.pl .bool)], fun _ => []⟩), (38, ⟨8, [.agg [.rows false [.int .i64]], .one (.rows false [.int .i64, .int .i64, .int .i64, .int .i64, .str])], [.agg [.rows false [.int .i64]], .one (.rows true [.int .i64, .bool]), .one (.pl (.int .i64))], lenC [(0, 1000000), (1, 1000000)]⟩), (37, ⟨4, [.agg [.rows false [.int .i64]], .agg [.rows false [.int .i64]]], [.one (.pl .bool)], lenC [(0, 1000000), (1, 1000000)]⟩), (40, ⟨7, [.one (.rows false [.int .i64, .bool]), .one (.rows false [.int .i64, .bool])], [.one (.pl .bool)], lenC [(0, 1000000), (1, 1000000)]⟩)]
def memAllSplitsLa : List (LK × LA) := []
def memAllSplitsPhi : Nat → DV → DV := fun n d => match n with
  | 12 => .list (lSane02F d.l)
  | 8 => .list (memAllF d.l)
  | 4 => .list (rSameF d.l)
  | 7 => .list (rToldF d.l)
  | _ => d
theorem memAllSplitsS : SmyOk Try.prog memAllSplitsPhi memAllSplitsSm := (smy_cons (fun _ => True) lSane02F lSane02_pure (fun _ _ _ _ => trivial) (fun _ => rfl) (smy_cons (lenP [(0, 1000000), (1, 1000000)]) memAllF memAll_pure (len_hp [(0, 1000000), (1, 1000000)]) (fun _ => rfl) (smy_cons (lenP [(0, 1000000), (1, 1000000)]) rSameF rSame_pure (len_hp [(0, 1000000), (1, 1000000)]) (fun _ => rfl) (smy_cons (lenP [(0, 1000000), (1, 1000000)]) rToldF rTold_pure (len_hp [(0, 1000000), (1, 1000000)]) (fun _ => rfl) smy_nil))))
theorem memAllSplitsT : treeOk ⟨Try.prog, memAllSplitsSm, memAllSplitsLa⟩ 4000 11 [.agg [.rows false [.int .i64]], .one (.rows false [.int .i64, .int .i64, .int .i64, .int .i64, .str]), .one (.pl (.int .u8))] [.one (.pl .bool)] (rng 0 9223372036854775807 (.un .len (.var 0)) ++ (rng 0 9223372036854775807 (.un .len (.var 1)) ++ (rng (0) 255 (.var 2) ++ ([])))) memAllSplitsTree = true := by decide +kernel
set_option maxHeartbeats 1000000 in
theorem memAllSplits_pure : Pure Try.prog 11 [.agg [.rows false [.int .i64]], .one (.rows false [.int .i64, .int .i64, .int .i64, .int .i64, .str]), .one (.pl (.int .u8))] [.one (.pl .bool)] (Wts (clsOf [.agg [.rows false [.int .i64]], .one (.rows false [.int .i64, .int .i64, .int .i64, .int .i64, .str]), .one (.pl (.int .u8))])) memAllSplitsF := by
  refine pure_tree (X := ⟨Try.prog, memAllSplitsSm, memAllSplitsLa⟩) (Checked.mixed Try.checked) memAllSplitsS (by decide +kernel) (by decide +kernel) memAllSplitsT (by decide +kernel) ?_
  intro ds hl hp
  obtain ⟨d0, d1, d2, rfl⟩ := len3 hl
  obtain ⟨_, _, he, w0, hp⟩ := hp
  cases he
  have b0 : ((d0.l.map DV.i).length : Int) ≤ 9223372036854775807 := by rw [List.length_map]; exact wt_len w0
  have v0 : ∀ v ∈ d0.l.map DV.i, -9223372036854775808 ≤ v ∧ v ≤ 9223372036854775807 := wt_ints w0 rfl rfl
  clear w0
  obtain ⟨_, _, he, w1, hp⟩ := hp
  cases he
  have b1 : ((d1.l.map deciiiis).length : Int) ≤ 9223372036854775807 := by rw [List.length_map]; exact wt_len w1
  obtain ⟨_, _, he, w2, hp⟩ := hp
  cases he
  have r2 : 0 ≤ d2.i ∧ d2.i ≤ 255 := wt_i w2 rfl rfl
  clear w2
  have hN : nrmL (clsOf [.agg [.rows false [.int .i64]], .one (.rows false [.int .i64, .int .i64, .int .i64, .int .i64, .str]), .one (.pl (.int .u8))]) [d0, d1, d2] = [.list ((d0.l.map DV.i).map DV.int), .list ((d1.l.map deciiiis).map enciiiis), .int d2.i] := by
    simp only [clsOf, Sh.cls, List.append_nil, List.cons_append, List.nil_append, nrmL, Cl.nrm, CK.nrm, map_Li, map_Liiiis]
  have hF : memAllSplitsF [d0, d1, d2] = [.bool true] := rfl
  rw [hN, hF]
  clear hN hp hl hF
  generalize d0.l.map DV.i = x0 at b0 v0 ⊢
  generalize d1.l.map deciiiis = x1 at b1 ⊢
  generalize d2.i = x2 at r2 ⊢
  refine ⟨(rng_ok (e := .un .len (.var 0)) (Int.natCast_nonneg _) (by show ((x0.map _).length : Int) ≤ _; rw [List.length_map]; exact b0) (rng_ok (e := .un .len (.var 1)) (Int.natCast_nonneg _) (by show ((x1.map _).length : Int) ≤ _; rw [List.length_map]; exact b1) (rng_ok (e := .var 2) r2.1 r2.2 (facts_nil _)))), ?_⟩
  unfold memAllSplitsTree
  simp only [Sat, clsOf, Sh.cls, List.append_nil, List.cons_append, List.nil_append, nrmL, Cl.nrm, CK.nrm, List.map_cons, List.map_nil, List.length_cons, List.length_nil, List.cons.injEq, DV.bool.injEq, DV.int.injEq, DV.list.injEq, DV.str.injEq, and_true, true_and]
  simp only [q_le, q_eq, q_eqs, q_eqb, q_and, q_or, q_not, q_bool, iff_true, iff_false, Bool.not_true, Bool.not_false, Bool.false_eq_true, Bool.true_eq_false, eq_self, Bool.not_not]
  simp only [SE.den, evU, evB, evT, i_int, b_bool, s_str, l_list, envL, List.getElem?_cons_succ, List.getElem?_cons_zero, List.getElem?_nil, Option.getD_some, Option.getD_none, Int.toNat_natCast, Int.toNat_zero, Int.reduceToNat, List.length_map, get_Li, get_Lb, get_Ls, set_Li, inj_Li, inj_Lb, inj_Ls, rows_i, rows_b, rows_s, Int.zero_add, iff_true, iff_false, and_true, true_and, Bool.false_eq_true, eq_self, not_true_eq_false, not_false_eq_true, List.length_replicate, DV.int.injEq, DV.bool.injEq, DV.str.injEq, DV.list.injEq, List.cons.injEq, f_ib_0, rows_ib, inj_Lib, f_ib_1, rows_ib, inj_Lib, f_iiiis_0, rows_iiiis, inj_Liiiis, f_iiiis_1, rows_iiiis, inj_Liiiis, f_iiiis_2, rows_iiiis, inj_Liiiis, f_iiiis_3, rows_iiiis, inj_Liiiis, f_iiiis_4, rows_iiiis, inj_Liiiis, memAllSplitsPhi, lSane02F, lSane02E, memAllF, memAllE, rSameF, rSameE, rToldF, rToldE, gi, gb, gs, gLi, gLu, gLb, gLs, dece_i, dece_b, dece_s, gLib, deces_ib, gLiiiis, deces_iiiis]
  refine ⟨by simp, fun hl0 => ⟨by simp, fun hl1 => ?_⟩⟩
  have e1 : IntKind.i64.wrap x2 = x2 := w64 (by omega) (by omega)
  have e2 : IntKind.i64.wrap ((x1.length : Int) + 1) = x1.length + 1 := w64 (by omega) (by omega)
  rw [e1, e2]
  have hT : 0 ≤ x2.tmod (x1.length + 1) ∧ x2.tmod (x1.length + 1) ≤ x1.length := by
    rw [Int.tmod_eq_emod_of_nonneg r2.1]
    have h1 := Int.emod_nonneg x2 (show (x1.length : Int) + 1 ≠ 0 by omega)
    have h2 := Int.emod_lt_of_pos x2 (show (0 : Int) < x1.length + 1 by omega)
    omega
  generalize x2.tmod (x1.length + 1) = T at *
  obtain ⟨k, rfl⟩ := Int.eq_ofNat_of_zero_le hT.1
  have hk : k ≤ x1.length := by omega
  have h1 : (x1.length - (k : Int)).toNat = x1.length - k := by omega
  have h3 : (x1.drop k).take (x1.length - k) = x1.drop k := List.take_of_length_le (by simp)
  simp only [Int.sub_zero, Int.toNat_natCast, List.drop_zero, ← List.map_take, ← List.map_drop, deces_iiiis, List.length_map, h1, h3]
  obtain ⟨s1, s2⟩ := splitM x0 (x1.take k) (x1.drop k)
  rw [List.take_append_drop] at s1 s2
  have a1 := allM_len1 x0 (x1.take k) x0 [] rfl
  have a2 := allM_len2 x0 (x1.take k) x0 []
  have a3 := allM_len1 (allM x0 (x1.take k) x0 []).1 (x1.drop k) (allM x0 (x1.take k) x0 []).1 [] rfl
  have a4 := allM_len2 (allM x0 (x1.take k) x0 []).1 (x1.drop k) (allM x0 (x1.take k) x0 []).1 []
  have a5 := allM_len1 x0 x1 x0 [] rfl
  have a6 := allM_len2 x0 x1 x0 []
  generalize allM (allM x0 (x1.take k) x0 []).1 (x1.drop k) (allM x0 (x1.take k) x0 []).1 [] = C at *
  generalize allM x0 (x1.take k) x0 [] = B at *
  generalize allM x0 x1 x0 [] = A at *
  simp only [List.length_take, List.length_drop, List.length_nil] at a2 a4 a6 ⊢
  by_cases hB : B.2.2 = 0
  · obtain ⟨s3, s4⟩ := s2 hB
    by_cases hC : C.2.2 = 0
    · obtain ⟨s5, s6⟩ := s4 hC
      have hAB : A.2.1.length = B.2.1.length + C.2.1.length := by rw [s6]; simp
      rw [s3, hC, hB, s5, s6]
      simp [deces_ib]
      simp only [Nat.zero_add] at a2 a4 a6
      have hid : ∀ l : List Tib, l.map (decib ∘ encib) = l := fun l => by rw [← List.map_map]; exact deces_ib l
      simp only [hid, and_true]
      omega
    · simp [hB, hC, s3]
      omega
  · simp [hB, s1 hB]
    omega
namespace row
open Go.ChangeShapes Go.WideShapes Go.ChangeAt Go.RowKit Go.Joins Go.Deep Go.Proofs.Ytbnbljeegghgiaa
theorem lifted (os : Os) (started : os.Started) (H : Type) (enc : TypeId × Value → H) :
    ReturnsInHanded {} Try.checked os 11 .any (Rows.memAllSplitsSpec.pre6 enc Try.prog Try.f11 Rows.memAllSplitsRow.domain false) (Rows.memAllSplitsSpec.post enc Try.prog Try.f11 false true false false) := by
  refine returnsInHanded_of_change (C := Try.checked) own started (by kernel_rfl) Try.func11
    (ChangeSpec.witness6 (enc := enc) (C := Try.checked) false ⟨#[], #[.agg #[.slice none 0 0], .slice none 0 0, .int .u8 0], []⟩ 8 (by kernel_rfl) (by kernel_rfl) (by kernel_rfl) (by kernel_rfl)) ?_
  intro W base args ds gs before hval0 hW hcnd _
  have hval : ∀ (j : Nat) t v, Try.f11.params[j]? = some t → args[j]? = some v → Value.okWide Try.prog W .any base t v := hval0
  have hW' := hW
  obtain ⟨p, q, hA0, hV, rfl, hfz, hnd⟩ := hW
  have hA : DataW.TrodAll enc Try.prog W 0 (fun _ => true) true Try.f11.params.toList args.toList ds p := hA0
  have hval2 : ∀ (j : Nat) t v, Try.f11.params.toList[j]? = some t → args.toList[j]? = some v → Value.okWide Try.prog W .any base t v := fun j t v a b => hval j t v (by simpa using a) (by simpa using b)
  have hcall := law_of memAllSplits_pure (fun _ h => h) (by rw [Try.params11]; kernel_rfl) hA hval2
  rw [Try.params11] at hA
  obtain ⟨v0, vs0, d0, ds0, p0, q0, hargs, rfl, rfl, h0, r0⟩ := trodAll_cons hA
  obtain ⟨v1, vs1, d1, ds1, p1, q1, rfl, rfl, rfl, h1, r1⟩ := trodAll_cons r0
  obtain ⟨v2, vs2, d2, ds2, p2, q2, rfl, rfl, rfl, h2, r2⟩ := trodAll_cons r1
  obtain ⟨rfl, rfl, rfl⟩ := trodAll_nil r2
  obtain rfl : args = #[v0, v1, v2] := by cases args; simp_all
  obtain ⟨rfl, rfl⟩ := trodVars_none hV
  have lt0 : ∀ x ∈ p0, x.block < W.heap.size := by obtain ⟨m, hm⟩ := h0; exact DataW.trod_lt m _ _ _ hm
  have lt1 : ∀ x ∈ p1, x.block < W.heap.size := by obtain ⟨m, hm⟩ := h1; exact DataW.trod_lt m _ _ _ hm
  have lt2 : ∀ x ∈ p2, x.block < W.heap.size := by obtain ⟨m, hm⟩ := h2; exact DataW.trod_lt m _ _ _ hm
  clear hA0 hval0 hval2
  refine Calls.mono hcall fun e W' ⟨he, bel⟩ => ?_
  subst he
  exact ⟨_, rfl, _, _, _, [], _, [], hW', trodAll_mk1 (shut_bool Try.underlying4 _), (trodAll_cons_mk (Below.trod laidOut (by kernel_rfl) (of_decide_eq_true (by kernel_rfl)) h0 bel lt0) (trodAll_cons_mk (Below.trod laidOut (by kernel_rfl) (of_decide_eq_true (by kernel_rfl)) h1 bel lt1) (trodAll_cons_mk (Below.trod laidOut (by kernel_rfl) (of_decide_eq_true (by kernel_rfl)) h2 bel lt2) trodAll_mk0))), rfl, bel.frame _, fun h => by cases h⟩
theorem over : Rows.memAllSplitsRow.holds Try.pinned (OpenSpec.ofChange Rows.memAllSplitsSpec) :=
  OpenClaim.holds_of_wide 11 Try.f11 rfl rfl rfl rfl rfl rfl rfl ⟨rfl, rfl, rfl, rfl, rfl⟩ rfl rfl rfl rfl rfl (by kernel_rfl) Try.func11 (by kernel_rfl)
    (of_decide_eq_true (by kernel_rfl)) (by unfold Func.isWrapper; first | (rw [if_pos (by decide +kernel)]; kernel_rfl) | (rw [if_neg (by decide +kernel)]; exact ⟨rfl, rfl⟩))
    (fun os started H enc _ => lifted os started H enc)
end row
theorem memAllSplits_proved : Rows.MemAllSplitsSaid := row.over
end Go.Proofs.Ytbnbljeegghgiaa
