/- The function disk.Crash is a function of data. No condition. -/
import Derived.Test.YtljocjljkilkjaaRDRight
import Derived.Test.YtljocjljkilkjaaUndone
import Derived.Test.YtljocjljkilkjaaRCrash
import Derived.Test.YtljocjljkilkjaaBd
import Derived.Test.YtljocjljkilkjaaOpen
namespace Go.Proofs.Ytljocjljkilkjaa
set_option linter.unusedVariables false
set_option linter.unusedSimpArgs false
set_option maxRecDepth 100000

def dCrashE (sec : List (List UInt8)) (was : List Tis) (cuts : List Int) : List DV := [.list ((crashM sec was cuts was.length).map DV.str), .list []]

def dCrashF (ds : List DV) : List DV := dCrashE (gLs ds 0) (gLis ds 1) (gLi ds 2)
/-- What the executor makes of it. -/
def dCrashTree : PT :=
(.asrt (.bin .le (.un .len (.var 0)) (.int 1000000))
 (.asrt (.bin .le (.un .len (.var 1)) (.int 1000000))
  (.asrt (.bin .idx (.fn 78 (.bin .cons (.var 0) (.bin .cons (.var 1) .nil))) (.int 0))
   (.loop 3 [(.int 0), (.bin .idx (.fn 83 (.bin .cons (.var 0) (.bin .cons (.var 1) .nil))) (.int 0))]
    (.br (.un .not (.bin .le (.un .len (.var 1)) (.var 3)))
     (.asrt (.bin .le (.int 0) (.var 3))
      (.br (.bin .le (.un .len (.var 2)) (.var 3))
       (.asrt (.un .not (.bin .le (.un .len (.bin .idx (.fn 83 (.bin .cons (.var 0) (.bin .cons (.var 1) .nil))) (.int 1))) (.var 3)))
        (.asrt (.bin .le (.int 32) (.un .slen (.bin .idx (.bin .idx (.fn 83 (.bin .cons (.var 0) (.bin .cons (.var 1) .nil))) (.int 1)) (.bin .add (.int 0) (.var 3)))))
         (.asrt (.bin .le (.int 0) (.bin .idx (.bin .idx (.var 1) (.bin .add (.int 0) (.var 3))) (.int 0)))
          (.asrt (.un .not (.bin .le (.un .len (.bin .idx (.fn 83 (.bin .cons (.var 0) (.bin .cons (.var 1) .nil))) (.int 0))) (.bin .idx (.bin .idx (.var 1) (.bin .add (.int 0) (.var 3))) (.int 0))))
           (.asrt (.un .not (.bin .le (.un .len (.var 4)) (.bin .add (.int 0) (.bin .idx (.bin .idx (.var 1) (.bin .add (.int 0) (.var 3))) (.int 0)))))
            (.asrt (.bin .le (.int 32) (.un .slen (.bin .idx (.var 4) (.bin .add (.int 0) (.bin .idx (.bin .idx (.var 1) (.bin .add (.int 0) (.var 3))) (.int 0))))))
             (.asrt (.bin .le (.bin .add (.un .slen (.bin .sdrop (.bin .stake (.bin .idx (.bin .idx (.fn 83 (.bin .cons (.var 0) (.bin .cons (.var 1) .nil))) (.int 1)) (.bin .add (.int 0) (.var 3))) (.int 32)) (.int 0))) (.un .slen (.bin .sdrop (.bin .stake (.bin .idx (.var 4) (.bin .add (.int 0) (.bin .idx (.bin .idx (.var 1) (.bin .add (.int 0) (.var 3))) (.int 0)))) (.un .slen (.bin .idx (.var 4) (.bin .add (.int 0) (.bin .idx (.bin .idx (.var 1) (.bin .add (.int 0) (.var 3))) (.int 0)))))) (.int 32)))) (.int 9223372036854775807))
              (.leaf [(.un (.wrap .i64) (.bin .add (.var 3) (.int 1))), (.tri .set (.var 4) (.bin .add (.int 0) (.bin .idx (.bin .idx (.var 1) (.bin .add (.int 0) (.var 3))) (.int 0))) (.bin .cat (.bin .sdrop (.bin .stake (.bin .idx (.bin .idx (.fn 83 (.bin .cons (.var 0) (.bin .cons (.var 1) .nil))) (.int 1)) (.bin .add (.int 0) (.var 3))) (.int 32)) (.int 0)) (.bin .sdrop (.bin .stake (.bin .idx (.var 4) (.bin .add (.int 0) (.bin .idx (.bin .idx (.var 1) (.bin .add (.int 0) (.var 3))) (.int 0)))) (.un .slen (.bin .idx (.var 4) (.bin .add (.int 0) (.bin .idx (.bin .idx (.var 1) (.bin .add (.int 0) (.var 3))) (.int 0)))))) (.int 32))))]))))))))
       (.asrt (.un .not (.bin .le (.un .len (.bin .idx (.fn 83 (.bin .cons (.var 0) (.bin .cons (.var 1) .nil))) (.int 1))) (.var 3)))
        (.asrt (.bin .le (.int 0) (.bin .tmod (.un (.wrap .i64) (.bin .add (.un (.wrap .i64) (.bin .add (.bin .tmod (.bin .idx (.var 2) (.bin .add (.int 0) (.var 3))) (.int 33)) (.int 32))) (.int 1))) (.int 33)))
         (.asrt (.bin .le (.bin .tmod (.un (.wrap .i64) (.bin .add (.un (.wrap .i64) (.bin .add (.bin .tmod (.bin .idx (.var 2) (.bin .add (.int 0) (.var 3))) (.int 33)) (.int 32))) (.int 1))) (.int 33)) (.un .slen (.bin .idx (.bin .idx (.fn 83 (.bin .cons (.var 0) (.bin .cons (.var 1) .nil))) (.int 1)) (.bin .add (.int 0) (.var 3)))))
          (.asrt (.bin .le (.int 0) (.bin .idx (.bin .idx (.var 1) (.bin .add (.int 0) (.var 3))) (.int 0)))
           (.asrt (.un .not (.bin .le (.un .len (.bin .idx (.fn 83 (.bin .cons (.var 0) (.bin .cons (.var 1) .nil))) (.int 0))) (.bin .idx (.bin .idx (.var 1) (.bin .add (.int 0) (.var 3))) (.int 0))))
            (.asrt (.un .not (.bin .le (.un .len (.var 4)) (.bin .add (.int 0) (.bin .idx (.bin .idx (.var 1) (.bin .add (.int 0) (.var 3))) (.int 0)))))
             (.asrt (.bin .le (.bin .tmod (.un (.wrap .i64) (.bin .add (.un (.wrap .i64) (.bin .add (.bin .tmod (.bin .idx (.var 2) (.bin .add (.int 0) (.var 3))) (.int 33)) (.int 32))) (.int 1))) (.int 33)) (.un .slen (.bin .idx (.var 4) (.bin .add (.int 0) (.bin .idx (.bin .idx (.var 1) (.bin .add (.int 0) (.var 3))) (.int 0))))))
              (.asrt (.bin .le (.bin .add (.un .slen (.bin .sdrop (.bin .stake (.bin .idx (.bin .idx (.fn 83 (.bin .cons (.var 0) (.bin .cons (.var 1) .nil))) (.int 1)) (.bin .add (.int 0) (.var 3))) (.bin .tmod (.un (.wrap .i64) (.bin .add (.un (.wrap .i64) (.bin .add (.bin .tmod (.bin .idx (.var 2) (.bin .add (.int 0) (.var 3))) (.int 33)) (.int 32))) (.int 1))) (.int 33))) (.int 0))) (.un .slen (.bin .sdrop (.bin .stake (.bin .idx (.var 4) (.bin .add (.int 0) (.bin .idx (.bin .idx (.var 1) (.bin .add (.int 0) (.var 3))) (.int 0)))) (.un .slen (.bin .idx (.var 4) (.bin .add (.int 0) (.bin .idx (.bin .idx (.var 1) (.bin .add (.int 0) (.var 3))) (.int 0)))))) (.bin .tmod (.un (.wrap .i64) (.bin .add (.un (.wrap .i64) (.bin .add (.bin .tmod (.bin .idx (.var 2) (.bin .add (.int 0) (.var 3))) (.int 33)) (.int 32))) (.int 1))) (.int 33))))) (.int 9223372036854775807))
               (.leaf [(.un (.wrap .i64) (.bin .add (.var 3) (.int 1))), (.tri .set (.var 4) (.bin .add (.int 0) (.bin .idx (.bin .idx (.var 1) (.bin .add (.int 0) (.var 3))) (.int 0))) (.bin .cat (.bin .sdrop (.bin .stake (.bin .idx (.bin .idx (.fn 83 (.bin .cons (.var 0) (.bin .cons (.var 1) .nil))) (.int 1)) (.bin .add (.int 0) (.var 3))) (.bin .tmod (.un (.wrap .i64) (.bin .add (.un (.wrap .i64) (.bin .add (.bin .tmod (.bin .idx (.var 2) (.bin .add (.int 0) (.var 3))) (.int 33)) (.int 32))) (.int 1))) (.int 33))) (.int 0)) (.bin .sdrop (.bin .stake (.bin .idx (.var 4) (.bin .add (.int 0) (.bin .idx (.bin .idx (.var 1) (.bin .add (.int 0) (.var 3))) (.int 0)))) (.un .slen (.bin .idx (.var 4) (.bin .add (.int 0) (.bin .idx (.bin .idx (.var 1) (.bin .add (.int 0) (.var 3))) (.int 0)))))) (.bin .tmod (.un (.wrap .i64) (.bin .add (.un (.wrap .i64) (.bin .add (.bin .tmod (.bin .idx (.var 2) (.bin .add (.int 0) (.var 3))) (.int 33)) (.int 32))) (.int 1))) (.int 33)))))])))))))))))
     .fail)
    (.br (.un .not (.bin .le (.un .len (.var 1)) (.var 3)))
     (.asrt (.bin .le (.int 0) (.var 3))
      (.br (.bin .le (.un .len (.var 2)) (.var 3))
       (.asrt (.un .not (.bin .le (.un .len (.bin .idx (.fn 83 (.bin .cons (.var 0) (.bin .cons (.var 1) .nil))) (.int 1))) (.var 3)))
        (.asrt (.bin .le (.int 32) (.un .slen (.bin .idx (.bin .idx (.fn 83 (.bin .cons (.var 0) (.bin .cons (.var 1) .nil))) (.int 1)) (.bin .add (.int 0) (.var 3)))))
         (.asrt (.bin .le (.int 0) (.bin .idx (.bin .idx (.var 1) (.bin .add (.int 0) (.var 3))) (.int 0)))
          (.asrt (.un .not (.bin .le (.un .len (.bin .idx (.fn 83 (.bin .cons (.var 0) (.bin .cons (.var 1) .nil))) (.int 0))) (.bin .idx (.bin .idx (.var 1) (.bin .add (.int 0) (.var 3))) (.int 0))))
           (.asrt (.un .not (.bin .le (.un .len (.var 4)) (.bin .add (.int 0) (.bin .idx (.bin .idx (.var 1) (.bin .add (.int 0) (.var 3))) (.int 0)))))
            (.asrt (.bin .le (.int 32) (.un .slen (.bin .idx (.var 4) (.bin .add (.int 0) (.bin .idx (.bin .idx (.var 1) (.bin .add (.int 0) (.var 3))) (.int 0))))))
             (.asrt (.bin .le (.bin .add (.un .slen (.bin .sdrop (.bin .stake (.bin .idx (.bin .idx (.fn 83 (.bin .cons (.var 0) (.bin .cons (.var 1) .nil))) (.int 1)) (.bin .add (.int 0) (.var 3))) (.int 32)) (.int 0))) (.un .slen (.bin .sdrop (.bin .stake (.bin .idx (.var 4) (.bin .add (.int 0) (.bin .idx (.bin .idx (.var 1) (.bin .add (.int 0) (.var 3))) (.int 0)))) (.un .slen (.bin .idx (.var 4) (.bin .add (.int 0) (.bin .idx (.bin .idx (.var 1) (.bin .add (.int 0) (.var 3))) (.int 0)))))) (.int 32)))) (.int 9223372036854775807))
              .fail)))))))
       (.asrt (.un .not (.bin .le (.un .len (.bin .idx (.fn 83 (.bin .cons (.var 0) (.bin .cons (.var 1) .nil))) (.int 1))) (.var 3)))
        (.asrt (.bin .le (.int 0) (.bin .tmod (.un (.wrap .i64) (.bin .add (.un (.wrap .i64) (.bin .add (.bin .tmod (.bin .idx (.var 2) (.bin .add (.int 0) (.var 3))) (.int 33)) (.int 32))) (.int 1))) (.int 33)))
         (.asrt (.bin .le (.bin .tmod (.un (.wrap .i64) (.bin .add (.un (.wrap .i64) (.bin .add (.bin .tmod (.bin .idx (.var 2) (.bin .add (.int 0) (.var 3))) (.int 33)) (.int 32))) (.int 1))) (.int 33)) (.un .slen (.bin .idx (.bin .idx (.fn 83 (.bin .cons (.var 0) (.bin .cons (.var 1) .nil))) (.int 1)) (.bin .add (.int 0) (.var 3)))))
          (.asrt (.bin .le (.int 0) (.bin .idx (.bin .idx (.var 1) (.bin .add (.int 0) (.var 3))) (.int 0)))
           (.asrt (.un .not (.bin .le (.un .len (.bin .idx (.fn 83 (.bin .cons (.var 0) (.bin .cons (.var 1) .nil))) (.int 0))) (.bin .idx (.bin .idx (.var 1) (.bin .add (.int 0) (.var 3))) (.int 0))))
            (.asrt (.un .not (.bin .le (.un .len (.var 4)) (.bin .add (.int 0) (.bin .idx (.bin .idx (.var 1) (.bin .add (.int 0) (.var 3))) (.int 0)))))
             (.asrt (.bin .le (.bin .tmod (.un (.wrap .i64) (.bin .add (.un (.wrap .i64) (.bin .add (.bin .tmod (.bin .idx (.var 2) (.bin .add (.int 0) (.var 3))) (.int 33)) (.int 32))) (.int 1))) (.int 33)) (.un .slen (.bin .idx (.var 4) (.bin .add (.int 0) (.bin .idx (.bin .idx (.var 1) (.bin .add (.int 0) (.var 3))) (.int 0))))))
              (.asrt (.bin .le (.bin .add (.un .slen (.bin .sdrop (.bin .stake (.bin .idx (.bin .idx (.fn 83 (.bin .cons (.var 0) (.bin .cons (.var 1) .nil))) (.int 1)) (.bin .add (.int 0) (.var 3))) (.bin .tmod (.un (.wrap .i64) (.bin .add (.un (.wrap .i64) (.bin .add (.bin .tmod (.bin .idx (.var 2) (.bin .add (.int 0) (.var 3))) (.int 33)) (.int 32))) (.int 1))) (.int 33))) (.int 0))) (.un .slen (.bin .sdrop (.bin .stake (.bin .idx (.var 4) (.bin .add (.int 0) (.bin .idx (.bin .idx (.var 1) (.bin .add (.int 0) (.var 3))) (.int 0)))) (.un .slen (.bin .idx (.var 4) (.bin .add (.int 0) (.bin .idx (.bin .idx (.var 1) (.bin .add (.int 0) (.var 3))) (.int 0)))))) (.bin .tmod (.un (.wrap .i64) (.bin .add (.un (.wrap .i64) (.bin .add (.bin .tmod (.bin .idx (.var 2) (.bin .add (.int 0) (.var 3))) (.int 33)) (.int 32))) (.int 1))) (.int 33))))) (.int 9223372036854775807))
               .fail))))))))))
     (.asrt (.bin .le (.bin .add (.int 0) (.un .len (.bin .idx (.fn 83 (.bin .cons (.var 0) (.bin .cons (.var 1) .nil))) (.int 0)))) (.un .len (.var 4)))
      (.leaf [(.bin .take (.bin .drop (.var 4) (.int 0)) (.un .len (.bin .idx (.fn 83 (.bin .cons (.var 0) (.bin .cons (.var 1) .nil))) (.int 0)))), .nil])))))))

def dCrashSm : List (Nat × Smy) := [(11, ⟨78, [.agg [.rows false [.str], .rows false [.int .i64, .str]]], [.one (.pl .bool)], lenC [(0, 1000000), (1, 1000000)], none⟩), (36, ⟨83, [.agg [.rows false [.str], .rows false [.int .i64, .str]]], [.one (.rows true [.str]), .one (.rows true [.str])], fun es => (lenC [(0, 1000000), (1, 1000000)]) es ++ [rightC 78 0 1 es], none⟩)]
def dCrashLa : List (LK × LA) := [(⟨49, 4, 8, 3⟩, ⟨[(8, .any), (9, .any), (10, .any), (20, (.int .i64 (.var 3))), (21, .any), (22, .any), (23, .any), (24, .any), (25, .any), (26, .any), (27, .any), (28, .any), (29, .any), (30, .any), (31, .any), (32, .any), (33, .any), (34, .any), (35, .any), (36, .any), (37, .any), (38, .any), (39, .any), (40, .any), (41, .any), (42, .any), (43, .any), (44, .any), (45, .any), (46, .any)], [(6, (.rows [.str] (.var 4)))], [], 2, 0⟩)]
def dCrashPhi : Nat → DV → DV := fun n d => match n with
  | 78 => .list (rDRightF d.l)
  | 83 => .list (undoneF d.l)
  | _ => d
theorem dCrashS : SmyOk Try.prog dCrashPhi dCrashSm := (smy_cons (lenP [(0, 1000000), (1, 1000000)]) rDRightF rDRight_pure (len_hp [(0, 1000000), (1, 1000000)]) (fun _ => rfl) (fun _ h => by cases h) (smy_cons (fun ds => (lenP [(0, 1000000), (1, 1000000)]) ds ∧ rightDM (gLs ds 0) (gLis ds 1) = true) undoneF undone_pure (right_hp 78 0 1 (len_hp [(0, 1000000), (1, 1000000)]) (fun _ => rfl)) (fun _ => rfl) (fun _ h => by cases h) smy_nil))
theorem dCrashT : treeOk ⟨Try.prog, dCrashSm, dCrashLa⟩ 4000 21 [.agg [.rows false [.str], .rows false [.int .i64, .str]], .one (.rows false [.int .i64])] [.agg [.rows false [.str], .rows false [.int .i64, .str]]] ([]) dCrashTree = true := by decide +kernel
set_option maxHeartbeats 1000000 in
theorem dCrash_pure : Pure Try.prog 21 [.agg [.rows false [.str], .rows false [.int .i64, .str]], .one (.rows false [.int .i64])] [.agg [.rows false [.str], .rows false [.int .i64, .str]]] (fun ds => (lenP [(0, 1000000), (1, 1000000), (2, 1000000)]) ds ∧ rightDM (gLs ds 0) (gLis ds 1) = true) dCrashF := by
  refine pure_tree (X := ⟨Try.prog, dCrashSm, dCrashLa⟩) (Checked.mixed Try.checked) dCrashS (by decide +kernel) (by decide +kernel) dCrashT (by decide +kernel) ?_
  intro ds hl hp
  obtain ⟨d0, d1, d2, rfl⟩ := len3 hl
  have b0 : (d0.l.length : Int) ≤ 1000000 := hp.1 (0, 1000000) (by simp)
  have b1 : (d1.l.length : Int) ≤ 1000000 := hp.1 (1, 1000000) (by simp)
  have b2 : (d2.l.length : Int) ≤ 1000000 := hp.1 (2, 1000000) (by simp)
  have hx : rightDM (d0.l.map DV.s) (d1.l.map decis) = true := hp.2
  have hF : dCrashF [d0, d1, d2] = dCrashE (d0.l.map DV.s) (d1.l.map decis) (d2.l.map DV.i) := rfl
  rw [hF]
  clear hF hp hl
  have hN : nrmL (clsOf [.agg [.rows false [.str], .rows false [.int .i64, .str]], .one (.rows false [.int .i64])]) [d0, d1, d2] = [.list ((d0.l.map DV.s).map DV.str), .list ((d1.l.map decis).map encis), .list ((d2.l.map DV.i).map DV.int)] := by
    simp only [clsOf, Sh.cls, List.append_nil, List.cons_append, List.nil_append, nrmL, Cl.nrm, CK.nrm, map_Li, map_Lis, map_Ls]
  rw [hN]
  clear hN
  rw [← List.length_map (f := DV.s)] at b0
  generalize d0.l.map DV.s = x0 at b0 hx ⊢
  rw [← List.length_map (f := decis)] at b1
  generalize d1.l.map decis = x1 at b1 hx ⊢
  rw [← List.length_map (f := DV.i)] at b2
  generalize d2.l.map DV.i = x2 at b2 ⊢
  refine ⟨facts_nil _, ?_⟩
  unfold dCrashTree dCrashE
  simp only [Sat, clsOf, Sh.cls, List.append_nil, List.cons_append, List.nil_append, nrmL, Cl.nrm, CK.nrm, List.map_cons, List.map_nil, List.length_cons, List.length_nil, List.cons.injEq, DV.bool.injEq, DV.int.injEq, DV.list.injEq, DV.str.injEq, and_true, true_and]
  try simp only [q_le, q_eq, q_eqs, q_eqb, q_and, q_or, q_not, q_bool, iff_true, iff_false, Bool.not_true, Bool.not_false, Bool.false_eq_true, Bool.true_eq_false, eq_self, Bool.not_not]
  simp only [Bool.not_true, Bool.not_false, Bool.true_eq_false, SE.den, evU, evT, ev_le, ev_eq, ev_eqs, ev_eqb, ev_slt, ev_and, ev_or, ev_add, ev_sub, ev_mul, ev_tdiv, ev_tmod, ev_band, ev_bor, ev_bxor, ev_bandn, ev_shl, ev_shr, ev_cat, ev_byte, ev_idx, ev_cons, ev_snoc, ev_app, ev_take, ev_drop, ev_stake, ev_sdrop, ev_rep, leB_q, eqB_q, eqsB_q, not_q, i_if, b_if, l_if, s_if, i_int, b_bool, s_str, l_list, envL, List.getElem?_cons_succ, List.getElem?_cons_zero, List.getElem?_nil, Option.getD_some, Option.getD_none, Int.toNat_natCast, Int.toNat_zero, Int.reduceToNat, List.length_map, get_Li, get_Lb, get_Ls, set_Li, inj_Li, inj_Lb, inj_Ls, rows_i, rows_b, rows_s, Int.zero_add, iff_true, iff_false, and_true, true_and, Bool.false_eq_true, eq_self, not_true_eq_false, not_false_eq_true, List.length_replicate, DV.int.injEq, DV.bool.injEq, DV.str.injEq, DV.list.injEq, List.cons.injEq, f_is_0, rows_is, inj_Lis, f_is_1, rows_is, inj_Lis, dCrashPhi, rDRightF, rDRightE, undoneF, undoneE, gi, gb, gs, gLi, gLu, gLb, gLs, dece_i, dece_b, dece_s, gLis, deces_is]
  refine ⟨by omega, by omega, hx, ?_⟩
  refine rounds_at x1.length (fun i => [.int i, .list ((crashM x0 x1 x2 i).map DV.str)]) rfl (fun _ => rfl) (fun i hi => ?_) ?_
  · obtain ⟨w0, w1, w2⟩ := right_was hx hi
    have hwn : (x1[i]?.getD dis).1.toNat < x0.length := by omega
    have hput : (putsM x0 x1 0)[i]?.getD [] = syncedM x0 x1 (i + 1) (x1[i]?.getD dis).1 := by simp [putsM, hi]
    have hp32 : (syncedM x0 x1 (i + 1) (x1[i]?.getD dis).1).length = 32 := by
      have := synced_len hx (i + 1) hwn
      rw [show (((x1[i]?.getD dis).1.toNat : Nat) : Int) = (x1[i]?.getD dis).1 by omega] at this
      exact this
    have hraw : ((List.map DV.str (crashM x0 x1 x2 i))[(x1[i]?.getD dis).1.toNat]?).getD (DV.int 0) = .str ((crashM x0 x1 x2 i)[(x1[i]?.getD dis).1.toNat]?.getD []) := raw_s (by rw [crash_len]; exact hwn)
    have hs32 := crash_32 x2 hx i (by omega) _ hwn
    have e1 : ¬ (x1.length : Int) ≤ i := by omega
    have e2 : ¬ (x0.length : Int) ≤ (x1[i]?.getD dis).1 := by omega
    have ec : crashM x0 x1 x2 (i + 1) = (crashM x0 x1 x2 i).set (x1[i]?.getD dis).1.toNat ((syncedM x0 x1 (i + 1) (x1[i]?.getD dis).1).take (cutM x2 i) ++ ((crashM x0 x1 x2 i)[(x1[i]?.getD dis).1.toNat]?.getD []).drop (cutM x2 i)) := rfl
    have hw : IntKind.i64.wrap ((i : Int) + 1) = i + 1 := w64 (by omega) (by omega)
    simp only [Bool.not_true, Bool.not_false, Bool.true_eq_false, SE.den, evU, evT, ev_le, ev_eq, ev_eqs, ev_eqb, ev_slt, ev_and, ev_or, ev_add, ev_sub, ev_mul, ev_tdiv, ev_tmod, ev_band, ev_bor, ev_bxor, ev_bandn, ev_shl, ev_shr, ev_cat, ev_byte, ev_idx, ev_cons, ev_snoc, ev_app, ev_take, ev_drop, ev_stake, ev_sdrop, ev_rep, leB_q, eqB_q, eqsB_q, not_q, i_if, b_if, l_if, s_if, i_int, b_bool, s_str, l_list, envL, List.getElem?_cons_succ, List.getElem?_cons_zero, List.getElem?_nil, Option.getD_some, Option.getD_none, Int.toNat_natCast, Int.toNat_zero, Int.reduceToNat, List.length_map, get_Li, get_Lb, get_Ls, set_Li, inj_Li, inj_Lb, inj_Ls, rows_i, rows_b, rows_s, Int.zero_add, iff_true, iff_false, and_true, true_and, Bool.false_eq_true, eq_self, not_true_eq_false, not_false_eq_true, List.length_replicate, DV.int.injEq, DV.bool.injEq, DV.str.injEq, DV.list.injEq, List.cons.injEq, f_is_0, rows_is, inj_Lis, f_is_1, rows_is, inj_Lis, e1, e2, hput, hraw, puts_len, allSynced_len, crash_len, hp32, hs32, w0, hw, cut_eq, List.drop_zero, ec]
    generalize hS : (crashM x0 x1 x2 i)[(x1[i]?.getD dis).1.toNat]?.getD [] = s0 at *
    generalize hP : syncedM x0 x1 (i + 1) (x1[i]?.getD dis).1 = p0 at *
    have t32 : List.take 32 s0 = s0 := List.take_of_length_le (by omega)
    by_cases hcu : (x2.length : Int) ≤ i
    · have hc : cutM x2 i = 32 := by unfold cutM; rw [if_pos (by omega)]
      simp only [hcu, hc, t32, List.map_set, List.length_take, List.length_drop, hp32, hs32]
      simp
      try omega
    · have hc : cutM x2 i = ((x2[i]?.getD 0) % 33).toNat := by unfold cutM; rw [if_neg (by omega)]
      have h0 := Int.emod_nonneg (x2[i]?.getD 0) (show (33 : Int) ≠ 0 by omega)
      have h1 := Int.emod_lt_of_pos (x2[i]?.getD 0) (show (0 : Int) < 33 by omega)
      have h2 : (x2[i]?.getD 0) % 33 ≤ 32 := by omega
      simp only [hcu, hc, t32, List.map_set, List.length_take, List.length_drop, hp32, hs32, h0]
      simp
      try omega
  · simp only [Bool.not_true, Bool.not_false, Bool.true_eq_false, SE.den, evU, evT, ev_le, ev_eq, ev_eqs, ev_eqb, ev_slt, ev_and, ev_or, ev_add, ev_sub, ev_mul, ev_tdiv, ev_tmod, ev_band, ev_bor, ev_bxor, ev_bandn, ev_shl, ev_shr, ev_cat, ev_byte, ev_idx, ev_cons, ev_snoc, ev_app, ev_take, ev_drop, ev_stake, ev_sdrop, ev_rep, leB_q, eqB_q, eqsB_q, not_q, i_if, b_if, l_if, s_if, i_int, b_bool, s_str, l_list, envL, List.getElem?_cons_succ, List.getElem?_cons_zero, List.getElem?_nil, Option.getD_some, Option.getD_none, Int.toNat_natCast, Int.toNat_zero, Int.reduceToNat, List.length_map, get_Li, get_Lb, get_Ls, set_Li, inj_Li, inj_Lb, inj_Ls, rows_i, rows_b, rows_s, Int.zero_add, iff_true, iff_false, and_true, true_and, Bool.false_eq_true, eq_self, not_true_eq_false, not_false_eq_true, List.length_replicate, DV.int.injEq, DV.bool.injEq, DV.str.injEq, DV.list.injEq, List.cons.injEq, f_is_0, rows_is, inj_Lis, f_is_1, rows_is, inj_Lis, allSynced_len, crash_len, List.drop_zero]
    have t1 : List.take x0.length (List.map DV.str (crashM x0 x1 x2 x1.length)) = List.map DV.str (crashM x0 x1 x2 x1.length) := List.take_of_length_le (by rw [List.length_map, crash_len]; exact Nat.le_refl _)
    rw [t1]
    simp
    try exact fun _ _ => rfl
end Go.Proofs.Ytljocjljkilkjaa
