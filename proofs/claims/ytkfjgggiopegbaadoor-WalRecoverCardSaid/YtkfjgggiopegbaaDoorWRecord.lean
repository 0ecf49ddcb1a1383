/- The function wal.Record is a function of data. No condition. -/
import Derived.Test.YtkfjgggiopegbaaDoorWValid
import Derived.Test.YtkfjgggiopegbaaDoorWNums
import Derived.Test.YtkfjgggiopegbaaDoorWRep
import Derived.Test.YtkfjgggiopegbaaDoorWSector
import Derived.Test.YtkfjgggiopegbaaDoorWalN
import Derived.Test.YtkfjgggiopegbaaDoorBd
import Derived.Test.YtkfjgggiopegbaaDoorOpen
namespace Go.Proofs.YtkfjgggiopegbaaDoor
set_option linter.unusedVariables false
set_option linter.unusedSimpArgs false
set_option maxRecDepth 100000

def wRecordE (v : Int) (w : List Tii) : List DV := [.list ((recordM v w).map .str)]
theorem rep_one (k : Int) : repM [0] k = List.replicate k.toNat 0 := by
  unfold repM
  generalize k.toNat = n
  induction n with
  | zero => rfl
  | succ n ih => rw [List.replicate_succ, List.flatten_cons, ih, List.replicate_succ]; rfl
theorem flatR_len (l : List Int) : (l.flatMap putR).length ≤ 10 * l.length := by
  induction l with
  | nil => simp
  | cons n l ih =>
    have := (putR_len n).2
    simp only [List.flatMap_cons, List.length_append, List.length_cons] at ih ⊢
    omega
theorem numsR_len (l : List Int) : 0 < (numsR l).length ∧ (numsR l).length ≤ 10 + 10 * l.length := by
  have h1 := putR_len (l.length : Int)
  have h2 := flatR_len l
  unfold numsR
  rw [List.length_append]
  omega
theorem flatW_snoc (w : List Tii) (i : Nat) (h : i < w.length) : flatW (w.take (i + 1)) = flatW (w.take i) ++ [(w[i]?.getD dii).1, (w[i]?.getD dii).2] := by
  rw [List.take_add_one, List.getElem?_eq_getElem h]
  unfold flatW
  rw [List.flatMap_append]
  simp

def wRecordF (ds : List DV) : List DV := wRecordE (gi ds 0) (gLii ds 1)
/-- What the executor makes of it. -/
def wRecordTree : PT :=
(.asrt (.bin .le (.un .len (.var 1)) (.int 1000000))
 (.br (.un .not (.bin .idx (.fn 98 (.bin .cons (.var 0) (.bin .cons (.var 1) .nil))) (.int 0)))
  (.leaf [.nil])
  (.loop 2 [(.bin .cons (.var 0) .nil), (.int 0)]
   (.br (.un .not (.bin .le (.un .len (.var 1)) (.var 3)))
    (.asrt (.bin .le (.int 0) (.var 3))
     (.asrt (.bin .le (.bin .add (.un .len (.var 2)) (.int 2)) (.int 4294967296))
      (.leaf [(.bin .app (.var 2) (.bin .cons (.bin .idx (.bin .idx (.var 1) (.bin .add (.int 0) (.var 3))) (.int 0)) (.bin .cons (.bin .idx (.bin .idx (.var 1) (.bin .add (.int 0) (.var 3))) (.int 1)) .nil))), (.un (.wrap .i64) (.bin .add (.var 3) (.int 1)))])))
    .fail)
   (.br (.un .not (.bin .le (.un .len (.var 1)) (.var 3)))
    (.asrt (.bin .le (.int 0) (.var 3))
     (.asrt (.bin .le (.bin .add (.un .len (.var 2)) (.int 2)) (.int 4294967296))
      .fail))
    (.asrt (.bin .le (.un .len (.var 2)) (.int 1000))
     (.asrt (.bin .le (.int 0) (.un (.wrap .i64) (.bin .sub (.un (.wrap .i64) (.bin .mul (.un (.wrap .i64) (.bin .tdiv (.un (.wrap .i64) (.bin .sub (.un (.wrap .i64) (.bin .add (.un .len (.bin .idx (.fn 96 (.bin .cons (.var 2) .nil)) (.int 0))) (.int 27))) (.int 1))) (.int 27))) (.int 27))) (.un .len (.bin .idx (.fn 96 (.bin .cons (.var 2) .nil)) (.int 0))))))
      (.asrt (.bin .le (.un (.wrap .i64) (.bin .sub (.un (.wrap .i64) (.bin .mul (.un (.wrap .i64) (.bin .tdiv (.un (.wrap .i64) (.bin .sub (.un (.wrap .i64) (.bin .add (.un .len (.bin .idx (.fn 96 (.bin .cons (.var 2) .nil)) (.int 0))) (.int 27))) (.int 1))) (.int 27))) (.int 27))) (.un .len (.bin .idx (.fn 96 (.bin .cons (.var 2) .nil)) (.int 0))))) (.int 1000000))
       (.asrt (.bin .le (.bin .add (.un .len (.bin .idx (.fn 96 (.bin .cons (.var 2) .nil)) (.int 0))) (.un .slen (.bin .idx (.fn 104 (.bin .cons (.str [0]) (.bin .cons (.un (.wrap .i64) (.bin .sub (.un (.wrap .i64) (.bin .mul (.un (.wrap .i64) (.bin .tdiv (.un (.wrap .i64) (.bin .sub (.un (.wrap .i64) (.bin .add (.un .len (.bin .idx (.fn 96 (.bin .cons (.var 2) .nil)) (.int 0))) (.int 27))) (.int 1))) (.int 27))) (.int 27))) (.un .len (.bin .idx (.fn 96 (.bin .cons (.var 2) .nil)) (.int 0))))) .nil))) (.int 0)))) (.int 9223372036854775807))
        (.loop 4 [.nil, (.int 0)]
         (.br (.un .not (.bin .le (.un (.wrap .i64) (.bin .tdiv (.un (.wrap .i64) (.bin .sub (.un (.wrap .i64) (.bin .add (.un .len (.bin .idx (.fn 96 (.bin .cons (.var 2) .nil)) (.int 0))) (.int 27))) (.int 1))) (.int 27))) (.var 5)))
          (.asrt (.bin .le (.int 0) (.un (.wrap .i64) (.bin .mul (.un (.wrap .i64) (.bin .add (.var 5) (.int 1))) (.int 27))))
           (.asrt (.bin .le (.un (.wrap .i64) (.bin .mul (.un (.wrap .i64) (.bin .add (.var 5) (.int 1))) (.int 27))) (.un .slen (.bin .cat (.un .str8 (.bin .idx (.fn 96 (.bin .cons (.var 2) .nil)) (.int 0))) (.bin .idx (.fn 104 (.bin .cons (.str [0]) (.bin .cons (.un (.wrap .i64) (.bin .sub (.un (.wrap .i64) (.bin .mul (.un (.wrap .i64) (.bin .tdiv (.un (.wrap .i64) (.bin .sub (.un (.wrap .i64) (.bin .add (.un .len (.bin .idx (.fn 96 (.bin .cons (.var 2) .nil)) (.int 0))) (.int 27))) (.int 1))) (.int 27))) (.int 27))) (.un .len (.bin .idx (.fn 96 (.bin .cons (.var 2) .nil)) (.int 0))))) .nil))) (.int 0)))))
            (.asrt (.bin .le (.int 0) (.un (.wrap .i64) (.bin .mul (.var 5) (.int 27))))
             (.asrt (.bin .le (.un (.wrap .i64) (.bin .mul (.var 5) (.int 27))) (.un (.wrap .i64) (.bin .mul (.un (.wrap .i64) (.bin .add (.var 5) (.int 1))) (.int 27))))
              (.asrt (.bin .le (.int 27) (.un .slen (.bin .sdrop (.bin .stake (.bin .cat (.un .str8 (.bin .idx (.fn 96 (.bin .cons (.var 2) .nil)) (.int 0))) (.bin .idx (.fn 104 (.bin .cons (.str [0]) (.bin .cons (.un (.wrap .i64) (.bin .sub (.un (.wrap .i64) (.bin .mul (.un (.wrap .i64) (.bin .tdiv (.un (.wrap .i64) (.bin .sub (.un (.wrap .i64) (.bin .add (.un .len (.bin .idx (.fn 96 (.bin .cons (.var 2) .nil)) (.int 0))) (.int 27))) (.int 1))) (.int 27))) (.int 27))) (.un .len (.bin .idx (.fn 96 (.bin .cons (.var 2) .nil)) (.int 0))))) .nil))) (.int 0))) (.un (.wrap .i64) (.bin .mul (.un (.wrap .i64) (.bin .add (.var 5) (.int 1))) (.int 27)))) (.un (.wrap .i64) (.bin .mul (.var 5) (.int 27))))))
               (.asrt (.bin .le (.un .slen (.bin .sdrop (.bin .stake (.bin .cat (.un .str8 (.bin .idx (.fn 96 (.bin .cons (.var 2) .nil)) (.int 0))) (.bin .idx (.fn 104 (.bin .cons (.str [0]) (.bin .cons (.un (.wrap .i64) (.bin .sub (.un (.wrap .i64) (.bin .mul (.un (.wrap .i64) (.bin .tdiv (.un (.wrap .i64) (.bin .sub (.un (.wrap .i64) (.bin .add (.un .len (.bin .idx (.fn 96 (.bin .cons (.var 2) .nil)) (.int 0))) (.int 27))) (.int 1))) (.int 27))) (.int 27))) (.un .len (.bin .idx (.fn 96 (.bin .cons (.var 2) .nil)) (.int 0))))) .nil))) (.int 0))) (.un (.wrap .i64) (.bin .mul (.un (.wrap .i64) (.bin .add (.var 5) (.int 1))) (.int 27)))) (.un (.wrap .i64) (.bin .mul (.var 5) (.int 27))))) (.int 27))
                (.asrt (.bin .le (.bin .add (.un .len (.var 4)) (.int 1)) (.int 4294967296))
                 (.leaf [(.bin .snoc (.var 4) (.bin .idx (.fn 97 (.bin .cons (.un (.wrap .i64) (.bin .sub (.un (.wrap .i64) (.bin .sub (.un (.wrap .i64) (.bin .tdiv (.un (.wrap .i64) (.bin .sub (.un (.wrap .i64) (.bin .add (.un .len (.bin .idx (.fn 96 (.bin .cons (.var 2) .nil)) (.int 0))) (.int 27))) (.int 1))) (.int 27))) (.int 1))) (.var 5))) (.bin .cons (.bin .sdrop (.bin .stake (.bin .cat (.un .str8 (.bin .idx (.fn 96 (.bin .cons (.var 2) .nil)) (.int 0))) (.bin .idx (.fn 104 (.bin .cons (.str [0]) (.bin .cons (.un (.wrap .i64) (.bin .sub (.un (.wrap .i64) (.bin .mul (.un (.wrap .i64) (.bin .tdiv (.un (.wrap .i64) (.bin .sub (.un (.wrap .i64) (.bin .add (.un .len (.bin .idx (.fn 96 (.bin .cons (.var 2) .nil)) (.int 0))) (.int 27))) (.int 1))) (.int 27))) (.int 27))) (.un .len (.bin .idx (.fn 96 (.bin .cons (.var 2) .nil)) (.int 0))))) .nil))) (.int 0))) (.un (.wrap .i64) (.bin .mul (.un (.wrap .i64) (.bin .add (.var 5) (.int 1))) (.int 27)))) (.un (.wrap .i64) (.bin .mul (.var 5) (.int 27)))) .nil))) (.int 0))), (.un (.wrap .i64) (.bin .add (.var 5) (.int 1)))]))))))))
          .fail)
         (.br (.un .not (.bin .le (.un (.wrap .i64) (.bin .tdiv (.un (.wrap .i64) (.bin .sub (.un (.wrap .i64) (.bin .add (.un .len (.bin .idx (.fn 96 (.bin .cons (.var 2) .nil)) (.int 0))) (.int 27))) (.int 1))) (.int 27))) (.var 5)))
          (.asrt (.bin .le (.int 0) (.un (.wrap .i64) (.bin .mul (.un (.wrap .i64) (.bin .add (.var 5) (.int 1))) (.int 27))))
           (.asrt (.bin .le (.un (.wrap .i64) (.bin .mul (.un (.wrap .i64) (.bin .add (.var 5) (.int 1))) (.int 27))) (.un .slen (.bin .cat (.un .str8 (.bin .idx (.fn 96 (.bin .cons (.var 2) .nil)) (.int 0))) (.bin .idx (.fn 104 (.bin .cons (.str [0]) (.bin .cons (.un (.wrap .i64) (.bin .sub (.un (.wrap .i64) (.bin .mul (.un (.wrap .i64) (.bin .tdiv (.un (.wrap .i64) (.bin .sub (.un (.wrap .i64) (.bin .add (.un .len (.bin .idx (.fn 96 (.bin .cons (.var 2) .nil)) (.int 0))) (.int 27))) (.int 1))) (.int 27))) (.int 27))) (.un .len (.bin .idx (.fn 96 (.bin .cons (.var 2) .nil)) (.int 0))))) .nil))) (.int 0)))))
            (.asrt (.bin .le (.int 0) (.un (.wrap .i64) (.bin .mul (.var 5) (.int 27))))
             (.asrt (.bin .le (.un (.wrap .i64) (.bin .mul (.var 5) (.int 27))) (.un (.wrap .i64) (.bin .mul (.un (.wrap .i64) (.bin .add (.var 5) (.int 1))) (.int 27))))
              (.asrt (.bin .le (.int 27) (.un .slen (.bin .sdrop (.bin .stake (.bin .cat (.un .str8 (.bin .idx (.fn 96 (.bin .cons (.var 2) .nil)) (.int 0))) (.bin .idx (.fn 104 (.bin .cons (.str [0]) (.bin .cons (.un (.wrap .i64) (.bin .sub (.un (.wrap .i64) (.bin .mul (.un (.wrap .i64) (.bin .tdiv (.un (.wrap .i64) (.bin .sub (.un (.wrap .i64) (.bin .add (.un .len (.bin .idx (.fn 96 (.bin .cons (.var 2) .nil)) (.int 0))) (.int 27))) (.int 1))) (.int 27))) (.int 27))) (.un .len (.bin .idx (.fn 96 (.bin .cons (.var 2) .nil)) (.int 0))))) .nil))) (.int 0))) (.un (.wrap .i64) (.bin .mul (.un (.wrap .i64) (.bin .add (.var 5) (.int 1))) (.int 27)))) (.un (.wrap .i64) (.bin .mul (.var 5) (.int 27))))))
               (.asrt (.bin .le (.un .slen (.bin .sdrop (.bin .stake (.bin .cat (.un .str8 (.bin .idx (.fn 96 (.bin .cons (.var 2) .nil)) (.int 0))) (.bin .idx (.fn 104 (.bin .cons (.str [0]) (.bin .cons (.un (.wrap .i64) (.bin .sub (.un (.wrap .i64) (.bin .mul (.un (.wrap .i64) (.bin .tdiv (.un (.wrap .i64) (.bin .sub (.un (.wrap .i64) (.bin .add (.un .len (.bin .idx (.fn 96 (.bin .cons (.var 2) .nil)) (.int 0))) (.int 27))) (.int 1))) (.int 27))) (.int 27))) (.un .len (.bin .idx (.fn 96 (.bin .cons (.var 2) .nil)) (.int 0))))) .nil))) (.int 0))) (.un (.wrap .i64) (.bin .mul (.un (.wrap .i64) (.bin .add (.var 5) (.int 1))) (.int 27)))) (.un (.wrap .i64) (.bin .mul (.var 5) (.int 27))))) (.int 27))
                (.asrt (.bin .le (.bin .add (.un .len (.var 4)) (.int 1)) (.int 4294967296))
                 .fail)))))))
          (.leaf [(.var 4)])))))))))))

def wRecordSm : List (Nat × Smy) := [(48, ⟨98, [.agg [.pl (.int .i64), .rows false [.int .i64, .int .i64]]], [.one (.pl .bool)], lenC [(1, 1000000)], none⟩), (49, ⟨96, [.one (.rows false [.int .i64])], [.one (.rows true [.int .u8])], lenC [(0, 1000)], none⟩), (50, ⟨104, [.one (.pl .str), .one (.pl (.int .i64))], [.one (.pl .str)], fun es => (fun es => lenC [] es ++ rgeC [(1, 0, 1000000)] es) es ++ slenC [(0, 1, 1)] es, none⟩), (41, ⟨97, [.one (.pl (.int .i64)), .one (.pl .str)], [.one (.pl .str)], fun es => (fun _ => []) es ++ slenC [(1, 27, 27)] es, none⟩)]
def wRecordLa : List (LK × LA) := [(⟨66, 15, 16, 4, 7⟩, ⟨[(9, (.sl 16 1 (.int 0) (.un .len (.var 4)) none)), (10, .any), (50, (.int .i64 (.var 5))), (51, .any), (52, .any), (53, .any), (54, .any), (55, .any), (56, .any), (57, .any), (58, .any), (59, .any), (60, .any), (61, .any), (62, .any), (63, .any), (64, .any)], [(16, (.rows [.str] (.var 4)))], [], 2, 1⟩),
  (⟨66, 5, 4, 2, 2⟩, ⟨[(3, (.sl 4 1 (.int 0) (.un .len (.var 2)) none)), (5, .any), (20, (.int .i64 (.var 3))), (21, .any), (22, .any), (23, .any), (24, .any), (25, .any), (26, .any), (27, .any), (28, .any), (29, .any), (30, .any), (31, .any)], [(4, (.rows [.int .i64] (.var 2)))], [3], 2, 1⟩)]
def wRecordPhi : Fs := ⟨fun n d => match n with
  | 98 => .list (wValidF d.l)
  | 96 => .list (wNumsF d.l)
  | 104 => .list (wRepF d.l)
  | 97 => .list (wSectorF d.l)
  | _ => d, 147⟩
theorem wRecordS : SmyOk false Tryd.prog wRecordPhi wRecordSm := (smy_cons (lenP [(1, 1000000)]) wValidF wValid_pure.wide (len_hp [(1, 1000000)]) (fun _ => rfl) (fun _ h => by cases h) (smy_cons (lenP [(0, 1000)]) wNumsF wNums_pure.wide (len_hp [(0, 1000)]) (fun _ => rfl) (fun _ h => by cases h) (smy_cons (fun ds => (fun ds => lenP [] ds ∧ rgeP [(1, 0, 1000000)] ds) ds ∧ slenP [(0, 1, 1)] ds) wRepF wRep_pure (slen_hp (C := fun es => lenC [] es ++ rgeC [(1, 0, 1000000)] es) (Q := fun ds => lenP [] ds ∧ rgeP [(1, 0, 1000000)] ds) [(0, 1, 1)] (both_hp [] [(1, 0, 1000000)])) (fun _ => rfl) (fun _ h => by cases h) (smy_cons (fun ds => (fun _ => True) ds ∧ slenP [(1, 27, 27)] ds) wSectorF wSector_pure.wide (slen_hp (C := fun _ => []) (Q := fun _ => True) [(1, 27, 27)] (fun _ _ _ _ => trivial)) (fun _ => rfl) (fun _ h => by cases h) smy_nil))))
theorem wRecordT : treeOk ⟨Tryd.prog, wRecordSm, wRecordLa, false⟩ 4000 18 [.agg [.pl (.int .i64), .rows false [.int .i64, .int .i64]]] [.one (.rows true [.str])] ([]) wRecordTree = true := by decide +kernel
set_option maxHeartbeats 1000000 in
theorem wRecord_pure : PureE false Tryd.prog 18 [.agg [.pl (.int .i64), .rows false [.int .i64, .int .i64]]] [.one (.rows true [.str])] (lenP [(1, 40)]) wRecordF := by
  refine pure_tree (X := ⟨Tryd.prog, wRecordSm, wRecordLa, false⟩) (by decide +kernel) (Checked.mixed Tryd.checked) wRecordS (by decide +kernel) (by decide +kernel) wRecordT (by decide +kernel) ?_
  intro ds hl hp
  obtain ⟨d0, d1, rfl⟩ := len2 hl
  have b1 : (d1.l.length : Int) ≤ 40 := hp (1, 40) (by simp)
  have hF : wRecordF [d0, d1] = wRecordE d0.i (d1.l.map decii) := rfl
  rw [hF]
  clear hF hp hl
  have hN : nrmL (clsOf [.agg [.pl (.int .i64), .rows false [.int .i64, .int .i64]]]) [d0, d1] = [.int d0.i, .list ((d1.l.map decii).map encii)] := by
    simp only [clsOf, Sh.cls, List.append_nil, List.cons_append, List.nil_append, nrmL, Cl.nrm, CK.nrm, map_Lii]
  rw [hN]
  clear hN
  generalize d0.i = x0
  rw [← List.length_map (f := decii)] at b1
  generalize d1.l.map decii = x1 at b1 ⊢
  refine ⟨facts_nil _, ?_⟩
  unfold wRecordTree wRecordE
  simp only [Sat, clsOf, Sh.cls, List.append_nil, List.cons_append, List.nil_append, nrmL, Cl.nrm, CK.nrm, List.map_cons, List.map_nil, List.length_cons, List.length_nil, List.cons.injEq, DV.bool.injEq, DV.int.injEq, DV.list.injEq, DV.str.injEq, and_true, true_and]
  simp only [q_le, q_eq, q_eqs, q_eqb, q_and, q_or, q_not, q_bool, iff_true, iff_false, Bool.not_true, Bool.not_false, Bool.false_eq_true, Bool.true_eq_false, eq_self, Bool.not_not]
  simp only [Bool.not_true, Bool.not_false, Bool.true_eq_false, SE.den, evU, evT, ev_le, ev_eq, ev_eqs, ev_eqb, ev_slt, ev_and, ev_or, ev_add, ev_sub, ev_mul, ev_tdiv, ev_tmod, ev_band, ev_bor, ev_bxor, ev_bandn, ev_shl, ev_shr, ev_cat, ev_byte, ev_idx, ev_cons, ev_snoc, ev_app, ev_take, ev_drop, ev_stake, ev_sdrop, ev_rep, leB_q, eqB_q, eqsB_q, not_q, i_if, b_if, l_if, s_if, i_int, b_bool, s_str, l_list, envL, List.getElem?_cons_succ, List.getElem?_cons_zero, List.getElem?_nil, Option.getD_some, Option.getD_none, Int.toNat_natCast, Int.toNat_zero, Int.reduceToNat, List.length_map, get_Li, get_Lb, get_Ls, set_Li, inj_Li, inj_Lb, inj_Ls, rows_i, rows_b, rows_s, Int.zero_add, iff_true, iff_false, and_true, true_and, Bool.false_eq_true, eq_self, not_true_eq_false, not_false_eq_true, List.length_replicate, DV.int.injEq, DV.bool.injEq, DV.str.injEq, DV.list.injEq, List.cons.injEq, f_ii_0, rows_ii, inj_Lii, f_ii_1, rows_ii, inj_Lii, wRecordPhi, wValidF, wValidE, wNumsF, wNumsE, wRepF, wRepE, wSectorF, wSectorE, gi, gb, gs, gLi, gLu, gLb, gLs, dece_i, dece_b, dece_s, gLii, deces_ii]
  refine ⟨by omega, fun h => ?_, fun hv => ?_⟩
  · unfold recordM
    rw [if_neg (by simp [h])]
    rfl
  · obtain ⟨_, v1, v2, v3⟩ := validM_iff.1 hv
    refine rounds_at x1.length (fun i => [.list ((x0 :: flatW (x1.take i)).map .int), .int i]) rfl (fun _ => rfl) (fun i hi => ?_) ?_
    · have e1 : ¬ (x1.length : Int) ≤ i := by omega
      have hwi : IntKind.i64.wrap ((i : Int) + 1) = ((i + 1 : Nat) : Int) := by rw [w64 (by omega) (by omega)]; omega
      have hl : (flatW (x1.take i)).length = 2 * i := by rw [flatW_len, List.length_take]; omega
      rw [flatW_snoc _ _ hi]
      simp only [Bool.not_true, Bool.not_false, Bool.true_eq_false, SE.den, evU, evT, ev_le, ev_eq, ev_eqs, ev_eqb, ev_slt, ev_and, ev_or, ev_add, ev_sub, ev_mul, ev_tdiv, ev_tmod, ev_band, ev_bor, ev_bxor, ev_bandn, ev_shl, ev_shr, ev_cat, ev_byte, ev_idx, ev_cons, ev_snoc, ev_app, ev_take, ev_drop, ev_stake, ev_sdrop, ev_rep, leB_q, eqB_q, eqsB_q, not_q, i_if, b_if, l_if, s_if, i_int, b_bool, s_str, l_list, envL, List.getElem?_cons_succ, List.getElem?_cons_zero, List.getElem?_nil, Option.getD_some, Option.getD_none, Int.toNat_natCast, Int.toNat_zero, Int.reduceToNat, List.length_map, get_Li, get_Lb, get_Ls, set_Li, inj_Li, inj_Lb, inj_Ls, rows_i, rows_b, rows_s, Int.zero_add, iff_true, iff_false, and_true, true_and, Bool.false_eq_true, eq_self, not_true_eq_false, not_false_eq_true, List.length_replicate, DV.int.injEq, DV.bool.injEq, DV.str.injEq, DV.list.injEq, List.cons.injEq, f_ii_0, rows_ii, inj_Lii, f_ii_1, rows_ii, inj_Lii, wRecordPhi, wValidF, wValidE, wNumsF, wNumsE, wRepF, wRepE, wSectorF, wSectorE, gi, gb, gs, gLi, gLu, gLb, gLs, dece_i, dece_b, dece_s, gLii, deces_ii, e1, hwi, raw_ii_0, raw_ii_1, List.length_cons, hl]
      refine ⟨fun _ => ⟨by omega, by omega, ?_⟩, fun h => h.elim⟩
      simp
    · rw [List.take_length]
      generalize hL : x0 :: flatW x1 = L
      have hLl : L.length ≤ 65 := by rw [← hL, List.length_cons, flatW_len]; omega
      have hn := numsR_len L
      have hb : bodyM x0 x1 = padM (strN (numsR L)) := by unfold bodyM; rw [hL]
      have hs : ∀ (a : List DV), ([DV.list (L.map .int), DV.int (x1.length : Int)] ++ a)[0]?.getD (DV.int 0) = .list (L.map .int) := fun a => rfl
      simp only [Bool.not_true, Bool.not_false, Bool.true_eq_false, SE.den, evU, evT, ev_le, ev_eq, ev_eqs, ev_eqb, ev_slt, ev_and, ev_or, ev_add, ev_sub, ev_mul, ev_tdiv, ev_tmod, ev_band, ev_bor, ev_bxor, ev_bandn, ev_shl, ev_shr, ev_cat, ev_byte, ev_idx, ev_cons, ev_snoc, ev_app, ev_take, ev_drop, ev_stake, ev_sdrop, ev_rep, leB_q, eqB_q, eqsB_q, not_q, i_if, b_if, l_if, s_if, i_int, b_bool, s_str, l_list, envL, List.getElem?_cons_succ, List.getElem?_cons_zero, List.getElem?_nil, Option.getD_some, Option.getD_none, Int.toNat_natCast, Int.toNat_zero, Int.reduceToNat, List.length_map, get_Li, get_Lb, get_Ls, set_Li, inj_Li, inj_Lb, inj_Ls, rows_i, rows_b, rows_s, Int.zero_add, iff_true, iff_false, and_true, true_and, Bool.false_eq_true, eq_self, not_true_eq_false, not_false_eq_true, List.length_replicate, DV.int.injEq, DV.bool.injEq, DV.str.injEq, DV.list.injEq, List.cons.injEq, f_ii_0, rows_ii, inj_Lii, f_ii_1, rows_ii, inj_Lii, wRecordPhi, wValidF, wValidE, wNumsF, wNumsE, wRepF, wRepE, wSectorF, wSectorE, gi, gb, gs, gLi, gLu, gLb, gLs, dece_i, dece_b, dece_s, gLii, deces_ii, hs, dece_i, str8_Li, rep_one]
      obtain ⟨M, hMe⟩ : ∃ M, M = ((numsR L).length + 26) / 27 := ⟨_, rfl⟩
      have hm : IntKind.i64.wrap ((IntKind.i64.wrap (IntKind.i64.wrap (((numsR L).length : Int) + 27) - 1)).tdiv 27) = (M : Int) := by
        rw [w64 (n := ((numsR L).length : Int) + 27) (by omega) (by omega), w64 (n := ((numsR L).length : Int) + 27 - 1) (by omega) (by omega)]
        have : (((numsR L).length : Int) + 27 - 1).tdiv 27 = (M : Int) := by rw [Int.tdiv_eq_ediv_of_nonneg (by omega)]; omega
        rw [this, w64 (by omega) (by omega)]
      have hk : IntKind.i64.wrap (IntKind.i64.wrap ((M : Int) * 27) - ((numsR L).length : Int)) = ((M * 27 - (numsR L).length : Nat) : Int) := by
        rw [w64 (n := (M : Int) * 27) (by omega) (by omega), w64 (by omega) (by omega)]
        omega
      have hB : strN (numsR L) ++ List.replicate (M * 27 - (numsR L).length) 0 = bodyM x0 x1 := by
        rw [hb]
        unfold padM
        rw [strN_len, hMe]
      have hBl : (bodyM x0 x1).length = 27 * M := by rw [hb, pad_len, strN_len]; omega
      have hR : recordM x0 x1 = sectsM M (bodyM x0 x1) := by
        unfold recordM
        rw [if_pos hv, hBl]
        congr 1
        omega
      simp only [hm, hk, Int.toNat_natCast, hB, hR]
      refine ⟨fun h => absurd (Int.le_refl _) h, fun _ => ⟨by omega, by omega, by omega, by omega, rfl, ?_⟩⟩
      generalize bodyM x0 x1 = B at *
      refine rounds_at M (fun i => [.list (((sectsM M B).take i).map .str), .int i]) rfl (fun _ => rfl) (fun i hi => ?_) ?_
      · have e1 : ¬ (M : Int) ≤ i := by omega
        have hwi : IntKind.i64.wrap ((i : Int) + 1) = ((i + 1 : Nat) : Int) := by rw [w64 (by omega) (by omega)]; omega
        have hw2 : IntKind.i64.wrap (((i + 1 : Nat) : Int) * 27) = ((27 * (i + 1) : Nat) : Int) := by rw [w64 (by omega) (by omega)]; omega
        have hw3 : IntKind.i64.wrap ((i : Int) * 27) = ((27 * i : Nat) : Int) := by rw [w64 (by omega) (by omega)]; omega
        have hw4 : IntKind.i64.wrap (IntKind.i64.wrap ((M : Int) - 1) - i) = ((M - 1 - i : Nat) : Int) := by rw [w64 (n := (M : Int) - 1) (by omega) (by omega), w64 (by omega) (by omega)]; omega
        have hc : List.drop (27 * i) (List.take (27 * (i + 1)) B) = List.take 27 (List.drop (27 * i) B) := by rw [List.drop_take]; congr 1; omega
        have hcl : (List.take 27 (List.drop (27 * i) B)).length = 27 := by rw [List.length_take, List.length_drop]; omega
        have ht : (sectsM M B).take (i + 1) = (sectsM M B).take i ++ [sectorM ((M - 1 - i : Nat) : Int) (List.take 27 (List.drop (27 * i) B))] := by
          rw [List.take_add_one, ← sects_at M B i hi, List.getElem?_eq_getElem (by rw [sects_len]; exact hi)]; rfl
        have htl : ((sectsM M B).take i).length = i := by rw [List.length_take, sects_len]; omega
        rw [ht]
        simp only [Bool.not_true, Bool.not_false, Bool.true_eq_false, SE.den, evU, evT, ev_le, ev_eq, ev_eqs, ev_eqb, ev_slt, ev_and, ev_or, ev_add, ev_sub, ev_mul, ev_tdiv, ev_tmod, ev_band, ev_bor, ev_bxor, ev_bandn, ev_shl, ev_shr, ev_cat, ev_byte, ev_idx, ev_cons, ev_snoc, ev_app, ev_take, ev_drop, ev_stake, ev_sdrop, ev_rep, leB_q, eqB_q, eqsB_q, not_q, i_if, b_if, l_if, s_if, i_int, b_bool, s_str, l_list, envL, List.getElem?_cons_succ, List.getElem?_cons_zero, List.getElem?_nil, Option.getD_some, Option.getD_none, Int.toNat_natCast, Int.toNat_zero, Int.reduceToNat, List.length_map, get_Li, get_Lb, get_Ls, set_Li, inj_Li, inj_Lb, inj_Ls, rows_i, rows_b, rows_s, Int.zero_add, iff_true, iff_false, and_true, true_and, Bool.false_eq_true, eq_self, not_true_eq_false, not_false_eq_true, List.length_replicate, DV.int.injEq, DV.bool.injEq, DV.str.injEq, DV.list.injEq, List.cons.injEq, f_ii_0, rows_ii, inj_Lii, f_ii_1, rows_ii, inj_Lii, wRecordPhi, wValidF, wValidE, wNumsF, wNumsE, wRepF, wRepE, wSectorF, wSectorE, gi, gb, gs, gLi, gLu, gLb, gLs, dece_i, dece_b, dece_s, gLii, deces_ii, List.cons_append, List.nil_append, e1, hwi, hw2, hw3, hw4, Int.toNat_natCast, hc, hcl, htl, snoc_Ls]
        exact ⟨fun _ => ⟨by omega, by omega, by omega, by omega, by omega, by omega, by omega⟩, fun h => h⟩
      · have : List.take M (sectsM M B) = sectsM M B := List.take_of_length_le (by rw [sects_len]; omega)
        rw [this]
        simp only [Bool.not_true, Bool.not_false, Bool.true_eq_false, SE.den, evU, evT, ev_le, ev_eq, ev_eqs, ev_eqb, ev_slt, ev_and, ev_or, ev_add, ev_sub, ev_mul, ev_tdiv, ev_tmod, ev_band, ev_bor, ev_bxor, ev_bandn, ev_shl, ev_shr, ev_cat, ev_byte, ev_idx, ev_cons, ev_snoc, ev_app, ev_take, ev_drop, ev_stake, ev_sdrop, ev_rep, leB_q, eqB_q, eqsB_q, not_q, i_if, b_if, l_if, s_if, i_int, b_bool, s_str, l_list, envL, List.getElem?_cons_succ, List.getElem?_cons_zero, List.getElem?_nil, Option.getD_some, Option.getD_none, Int.toNat_natCast, Int.toNat_zero, Int.reduceToNat, List.length_map, get_Li, get_Lb, get_Ls, set_Li, inj_Li, inj_Lb, inj_Ls, rows_i, rows_b, rows_s, Int.zero_add, iff_true, iff_false, and_true, true_and, Bool.false_eq_true, eq_self, not_true_eq_false, not_false_eq_true, List.length_replicate, DV.int.injEq, DV.bool.injEq, DV.str.injEq, DV.list.injEq, List.cons.injEq, f_ii_0, rows_ii, inj_Lii, f_ii_1, rows_ii, inj_Lii, wRecordPhi, wValidF, wValidE, wNumsF, wNumsE, wRepF, wRepE, wSectorF, wSectorE, gi, gb, gs, gLi, gLu, gLb, gLs, dece_i, dece_b, dece_s, gLii, deces_ii, List.cons_append, List.nil_append]
        exact ⟨fun h => absurd (Int.le_refl _) h, fun _ => True.intro⟩
end Go.Proofs.YtkfjgggiopegbaaDoor
