/- The function hallmootref02.Told is a function of data. No condition. -/
import Derived.Test.YtbnbljeegghgiaaBd
import Derived.Test.YtbnbljeegghgiaaOpen
namespace Go.Proofs.Ytbnbljeegghgiaa
set_option linter.unusedVariables false
set_option linter.unusedSimpArgs false
set_option maxRecDepth 100000

def rToldE (a b : List Tib) : List DV := [.bool (decide (a = b))]

def rToldF (ds : List DV) : List DV := rToldE (gLib ds 0) (gLib ds 1)
/-- What the executor makes of it. -/
def rToldTree : PT :=
(.br (.un .not (.bin .eq (.un .len (.var 0)) (.un .len (.var 1))))
 (.leaf [(.bool false)])
 (.loop 2 [(.int 0)]
  (.br (.un .not (.bin .le (.un .len (.var 0)) (.var 2)))
   (.asrt (.bin .le (.int 0) (.var 2))
    (.asrt (.un .not (.bin .le (.un .len (.var 1)) (.var 2)))
     (.br (.un .not (.bin .and (.bin .eq (.bin .idx (.bin .idx (.var 0) (.bin .add (.int 0) (.var 2))) (.int 0)) (.bin .idx (.bin .idx (.var 1) (.bin .add (.int 0) (.var 2))) (.int 0))) (.bin .eqb (.bin .idx (.bin .idx (.var 0) (.bin .add (.int 0) (.var 2))) (.int 1)) (.bin .idx (.bin .idx (.var 1) (.bin .add (.int 0) (.var 2))) (.int 1)))))
      .fail
      (.leaf [(.un (.wrap .i64) (.bin .add (.var 2) (.int 1)))]))))
   .fail)
  (.br (.un .not (.bin .le (.un .len (.var 0)) (.var 2)))
   (.asrt (.bin .le (.int 0) (.var 2))
    (.asrt (.un .not (.bin .le (.un .len (.var 1)) (.var 2)))
     (.br (.un .not (.bin .and (.bin .eq (.bin .idx (.bin .idx (.var 0) (.bin .add (.int 0) (.var 2))) (.int 0)) (.bin .idx (.bin .idx (.var 1) (.bin .add (.int 0) (.var 2))) (.int 0))) (.bin .eqb (.bin .idx (.bin .idx (.var 0) (.bin .add (.int 0) (.var 2))) (.int 1)) (.bin .idx (.bin .idx (.var 1) (.bin .add (.int 0) (.var 2))) (.int 1)))))
      (.leaf [(.bool false)])
      .fail)))
   (.leaf [(.bool true)]))))

def rToldSm : List (Nat × Smy) := []
def rToldLa : List (LK × LA) := [(⟨26, 4, 2⟩, ⟨[(5, (.int .i64 (.var 2))), (11, .any), (12, .any), (13, .any), (14, .any), (15, .any), (16, .any), (17, .any), (18, .any), (19, .any), (20, .any), (21, .any), (22, .any), (23, .any), (24, .any), (25, .any)], [], [], 1, 0⟩)]
def rToldPhi : Nat → DV → DV := fun n d => match n with
  | _ => d
theorem rToldS : SmyOk Try.prog rToldPhi rToldSm := smy_nil
theorem rToldT : treeOk ⟨Try.prog, rToldSm, rToldLa⟩ 4000 40 [.one (.rows false [.int .i64, .bool]), .one (.rows false [.int .i64, .bool])] [.one (.pl .bool)] ([]) rToldTree = true := by decide +kernel
set_option maxHeartbeats 1000000 in
theorem rTold_pure : Pure Try.prog 40 [.one (.rows false [.int .i64, .bool]), .one (.rows false [.int .i64, .bool])] [.one (.pl .bool)] (lenP [(0, 1000000), (1, 1000000)]) rToldF := by
  refine pure_tree (X := ⟨Try.prog, rToldSm, rToldLa⟩) (Checked.mixed Try.checked) rToldS (by decide +kernel) (by decide +kernel) rToldT (by decide +kernel) ?_
  intro ds hl hp
  obtain ⟨d0, d1, rfl⟩ := len2 hl
  have b0 : (d0.l.length : Int) ≤ 1000000 := hp (0, 1000000) (by simp)
  have b1 : (d1.l.length : Int) ≤ 1000000 := hp (1, 1000000) (by simp)
  have hF : rToldF [d0, d1] = rToldE (d0.l.map decib) (d1.l.map decib) := rfl
  rw [hF]
  clear hF hp hl
  have hN : nrmL (clsOf [.one (.rows false [.int .i64, .bool]), .one (.rows false [.int .i64, .bool])]) [d0, d1] = [.list ((d0.l.map decib).map encib), .list ((d1.l.map decib).map encib)] := by
    simp only [clsOf, Sh.cls, List.append_nil, List.cons_append, List.nil_append, nrmL, Cl.nrm, CK.nrm, map_Lib]
  rw [hN]
  clear hN
  rw [← List.length_map (f := decib)] at b0
  generalize d0.l.map decib = x0 at b0 ⊢
  rw [← List.length_map (f := decib)] at b1
  generalize d1.l.map decib = x1 at b1 ⊢
  refine ⟨facts_nil _, ?_⟩
  unfold rToldTree rToldE
  simp only [Sat, clsOf, Sh.cls, List.append_nil, List.cons_append, List.nil_append, nrmL, Cl.nrm, CK.nrm, List.map_cons, List.map_nil, List.length_cons, List.length_nil, List.cons.injEq, DV.bool.injEq, DV.int.injEq, DV.list.injEq, DV.str.injEq, and_true, true_and]
  simp only [q_le, q_eq, q_eqs, q_eqb, q_and, q_or, q_not, q_bool, iff_true, iff_false, Bool.not_true, Bool.not_false, Bool.false_eq_true, Bool.true_eq_false, eq_self, Bool.not_not]
  simp only [SE.den, evU, evB, evT, i_int, b_bool, s_str, l_list, envL, List.getElem?_cons_succ, List.getElem?_cons_zero, List.getElem?_nil, Option.getD_some, Option.getD_none, Int.toNat_natCast, Int.toNat_zero, Int.reduceToNat, List.length_map, get_Li, get_Lb, get_Ls, set_Li, inj_Li, inj_Lb, inj_Ls, rows_i, rows_b, rows_s, Int.zero_add, iff_true, iff_false, and_true, true_and, Bool.false_eq_true, eq_self, not_true_eq_false, not_false_eq_true, List.length_replicate, DV.int.injEq, DV.bool.injEq, DV.str.injEq, DV.list.injEq, List.cons.injEq, f_ib_0, rows_ib, inj_Lib, f_ib_1, rows_ib, inj_Lib]
  refine ⟨fun h => ?_, fun h => ?_⟩
  · exact (decide_eq_false (fun e => h (by rw [e]))).symm
  · have hl : x0.length = x1.length := by omega
    refine rounds_find x0.length (fun i => [DV.int i]) (fun i => x0[i]?.getD dib ≠ x1[i]?.getD dib) rfl (fun _ => rfl) (fun i hi hs hj => ?_) (fun i hi hs hj => ?_) (fun hj => ?_)
    · simp only [SE.den, evU, evB, evT, i_int, b_bool, s_str, l_list, envL, List.getElem?_cons_succ, List.getElem?_cons_zero, List.getElem?_nil, Option.getD_some, Option.getD_none, Int.toNat_natCast, Int.toNat_zero, Int.reduceToNat, List.length_map, get_Li, get_Lb, get_Ls, set_Li, inj_Li, inj_Lb, inj_Ls, rows_i, rows_b, rows_s, Int.zero_add, iff_true, iff_false, and_true, true_and, Bool.false_eq_true, eq_self, not_true_eq_false, not_false_eq_true, List.length_replicate, DV.int.injEq, DV.bool.injEq, DV.str.injEq, DV.list.injEq, List.cons.injEq, f_ib_0, rows_ib, inj_Lib, f_ib_1, rows_ib, inj_Lib]
      simp only [w64 (n := (i : Int) + 1) (by omega) (by omega)]
      grind
    · simp only [SE.den, evU, evB, evT, i_int, b_bool, s_str, l_list, envL, List.getElem?_cons_succ, List.getElem?_cons_zero, List.getElem?_nil, Option.getD_some, Option.getD_none, Int.toNat_natCast, Int.toNat_zero, Int.reduceToNat, List.length_map, get_Li, get_Lb, get_Ls, set_Li, inj_Li, inj_Lb, inj_Ls, rows_i, rows_b, rows_s, Int.zero_add, iff_true, iff_false, and_true, true_and, Bool.false_eq_true, eq_self, not_true_eq_false, not_false_eq_true, List.length_replicate, DV.int.injEq, DV.bool.injEq, DV.str.injEq, DV.list.injEq, List.cons.injEq, f_ib_0, rows_ib, inj_Lib, f_ib_1, rows_ib, inj_Lib]
      grind
    · simp only [SE.den, evU, evB, evT, i_int, b_bool, s_str, l_list, envL, List.getElem?_cons_succ, List.getElem?_cons_zero, List.getElem?_nil, Option.getD_some, Option.getD_none, Int.toNat_natCast, Int.toNat_zero, Int.reduceToNat, List.length_map, get_Li, get_Lb, get_Ls, set_Li, inj_Li, inj_Lb, inj_Ls, rows_i, rows_b, rows_s, Int.zero_add, iff_true, iff_false, and_true, true_and, Bool.false_eq_true, eq_self, not_true_eq_false, not_false_eq_true, List.length_replicate, DV.int.injEq, DV.bool.injEq, DV.str.injEq, DV.list.injEq, List.cons.injEq, f_ib_0, rows_ib, inj_Lib, f_ib_1, rows_ib, inj_Lib]
      have : x0 = x1 := List.ext_getElem? fun i => by
        by_cases hi : i < x0.length
        · have := hj i hi
          rw [List.getElem?_eq_getElem hi, List.getElem?_eq_getElem (by omega)] at this ⊢
          simpa using this
        · rw [List.getElem?_eq_none (by omega), List.getElem?_eq_none (by omega)]
      grind
end Go.Proofs.Ytbnbljeegghgiaa
