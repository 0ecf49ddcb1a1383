/- The function disk.New is a function of data. No condition. -/
import Derived.Test.YtljocjljkilkjaaBMul
import Derived.Test.YtljocjljkilkjaaBMul
import Derived.Test.YtljocjljkilkjaaBd
import Derived.Test.YtljocjljkilkjaaOpen
namespace Go.Proofs.Ytljocjljkilkjaa
set_option linter.unusedVariables false
set_option linter.unusedSimpArgs false
set_option maxRecDepth 100000

def noughtM : List UInt8 := List.replicate 32 0
def newM (n : Int) : List (List UInt8) := if 0 ≤ n ∧ n ≤ 512 then List.replicate n.toNat noughtM else []
def dNewE (n : Int) : List DV := [.list ((newM n).map DV.str), .list [], .int (if 0 ≤ n ∧ n ≤ 512 then 0 else 1)]

def dNewF (ds : List DV) : List DV := dNewE (gi ds 0)
/-- What the executor makes of it. -/
def dNewTree : PT :=
(.br (.un .not (.bin .le (.int 0) (.var 0)))
 (.leaf [.nil, .nil, (.int 1)])
 (.br (.un .not (.bin .le (.var 0) (.int 512)))
  (.leaf [.nil, .nil, (.int 1)])
  (.br (.un .not (.bin .le (.bin .idx (.fn 69 (.bin .cons (.int 1) (.bin .cons (.un (.wrap .u64) (.var 0)) .nil))) (.int 0)) (.int 0)))
   .fail
   (.br (.un .not (.bin .le (.bin .idx (.fn 69 (.bin .cons (.int 1) (.bin .cons (.un (.wrap .u64) (.var 0)) .nil))) (.int 1)) (.int 9223372036854775807)))
    .fail
    (.asrt (.bin .le (.int 0) (.un (.wrap .i64) (.bin .idx (.fn 69 (.bin .cons (.int 1) (.bin .cons (.un (.wrap .u64) (.var 0)) .nil))) (.int 1))))
     (.asrt (.bin .le (.un (.wrap .i64) (.bin .idx (.fn 69 (.bin .cons (.int 1) (.bin .cons (.un (.wrap .u64) (.var 0)) .nil))) (.int 1))) (.int 1000000))
      (.asrt (.bin .le (.bin .add (.int 0) (.un (.wrap .i64) (.bin .idx (.fn 69 (.bin .cons (.int 1) (.bin .cons (.un (.wrap .u64) (.var 0)) .nil))) (.int 1)))) (.un .len (.bin .rep (.un (.wrap .i64) (.bin .idx (.fn 69 (.bin .cons (.int 1) (.bin .cons (.un (.wrap .u64) (.var 0)) .nil))) (.int 1))) (.str []))))
       (.loop 1 [(.tri .ite (.bin .le (.un (.wrap .i64) (.bin .idx (.fn 69 (.bin .cons (.int 1) (.bin .cons (.un (.wrap .u64) (.var 0)) .nil))) (.int 1))) (.int 1)) (.un (.wrap .i64) (.bin .idx (.fn 69 (.bin .cons (.int 1) (.bin .cons (.un (.wrap .u64) (.var 0)) .nil))) (.int 1))) (.int 1)), (.bin .app (.bin .take (.bin .rep (.un (.wrap .i64) (.bin .idx (.fn 69 (.bin .cons (.int 1) (.bin .cons (.un (.wrap .u64) (.var 0)) .nil))) (.int 1))) (.str [])) (.int 0)) (.bin .app (.bin .take (.bin .cons (.str [0, 0, 0, 0, 0, 0, 0, 0, 0, 0, 0, 0, 0, 0, 0, 0, 0, 0, 0, 0, 0, 0, 0, 0, 0, 0, 0, 0, 0, 0, 0, 0]) .nil) (.tri .ite (.bin .le (.un (.wrap .i64) (.bin .idx (.fn 69 (.bin .cons (.int 1) (.bin .cons (.un (.wrap .u64) (.var 0)) .nil))) (.int 1))) (.int 1)) (.un (.wrap .i64) (.bin .idx (.fn 69 (.bin .cons (.int 1) (.bin .cons (.un (.wrap .u64) (.var 0)) .nil))) (.int 1))) (.int 1))) (.bin .drop (.bin .rep (.un (.wrap .i64) (.bin .idx (.fn 69 (.bin .cons (.int 1) (.bin .cons (.un (.wrap .u64) (.var 0)) .nil))) (.int 1))) (.str [])) (.bin .add (.int 0) (.tri .ite (.bin .le (.un (.wrap .i64) (.bin .idx (.fn 69 (.bin .cons (.int 1) (.bin .cons (.un (.wrap .u64) (.var 0)) .nil))) (.int 1))) (.int 1)) (.un (.wrap .i64) (.bin .idx (.fn 69 (.bin .cons (.int 1) (.bin .cons (.un (.wrap .u64) (.var 0)) .nil))) (.int 1))) (.int 1))))))]
        (.br (.un .not (.bin .le (.un (.wrap .i64) (.bin .idx (.fn 69 (.bin .cons (.int 1) (.bin .cons (.un (.wrap .u64) (.var 0)) .nil))) (.int 1))) (.var 1)))
         (.asrt (.bin .le (.int 0) (.var 1))
          (.asrt (.bin .le (.bin .add (.bin .add (.int 0) (.var 1)) (.bin .sub (.un (.wrap .i64) (.bin .idx (.fn 69 (.bin .cons (.int 1) (.bin .cons (.un (.wrap .u64) (.var 0)) .nil))) (.int 1))) (.var 1))) (.un .len (.var 2)))
           (.asrt (.bin .le (.bin .add (.int 0) (.bin .sub (.var 1) (.int 0))) (.un .len (.var 2)))
            (.leaf [(.un (.wrap .i64) (.bin .add (.var 1) (.tri .ite (.bin .le (.bin .sub (.un (.wrap .i64) (.bin .idx (.fn 69 (.bin .cons (.int 1) (.bin .cons (.un (.wrap .u64) (.var 0)) .nil))) (.int 1))) (.var 1)) (.un .len (.bin .take (.bin .drop (.var 2) (.int 0)) (.bin .sub (.var 1) (.int 0))))) (.bin .sub (.un (.wrap .i64) (.bin .idx (.fn 69 (.bin .cons (.int 1) (.bin .cons (.un (.wrap .u64) (.var 0)) .nil))) (.int 1))) (.var 1)) (.un .len (.bin .take (.bin .drop (.var 2) (.int 0)) (.bin .sub (.var 1) (.int 0))))))), (.bin .app (.bin .take (.var 2) (.bin .add (.int 0) (.var 1))) (.bin .app (.bin .take (.bin .take (.bin .drop (.var 2) (.int 0)) (.bin .sub (.var 1) (.int 0))) (.tri .ite (.bin .le (.bin .sub (.un (.wrap .i64) (.bin .idx (.fn 69 (.bin .cons (.int 1) (.bin .cons (.un (.wrap .u64) (.var 0)) .nil))) (.int 1))) (.var 1)) (.un .len (.bin .take (.bin .drop (.var 2) (.int 0)) (.bin .sub (.var 1) (.int 0))))) (.bin .sub (.un (.wrap .i64) (.bin .idx (.fn 69 (.bin .cons (.int 1) (.bin .cons (.un (.wrap .u64) (.var 0)) .nil))) (.int 1))) (.var 1)) (.un .len (.bin .take (.bin .drop (.var 2) (.int 0)) (.bin .sub (.var 1) (.int 0)))))) (.bin .drop (.var 2) (.bin .add (.bin .add (.int 0) (.var 1)) (.tri .ite (.bin .le (.bin .sub (.un (.wrap .i64) (.bin .idx (.fn 69 (.bin .cons (.int 1) (.bin .cons (.un (.wrap .u64) (.var 0)) .nil))) (.int 1))) (.var 1)) (.un .len (.bin .take (.bin .drop (.var 2) (.int 0)) (.bin .sub (.var 1) (.int 0))))) (.bin .sub (.un (.wrap .i64) (.bin .idx (.fn 69 (.bin .cons (.int 1) (.bin .cons (.un (.wrap .u64) (.var 0)) .nil))) (.int 1))) (.var 1)) (.un .len (.bin .take (.bin .drop (.var 2) (.int 0)) (.bin .sub (.var 1) (.int 0)))))))))]))))
         .fail)
        (.br (.un .not (.bin .le (.un (.wrap .i64) (.bin .idx (.fn 69 (.bin .cons (.int 1) (.bin .cons (.un (.wrap .u64) (.var 0)) .nil))) (.int 1))) (.var 1)))
         (.asrt (.bin .le (.int 0) (.var 1))
          (.asrt (.bin .le (.bin .add (.bin .add (.int 0) (.var 1)) (.bin .sub (.un (.wrap .i64) (.bin .idx (.fn 69 (.bin .cons (.int 1) (.bin .cons (.un (.wrap .u64) (.var 0)) .nil))) (.int 1))) (.var 1))) (.un .len (.var 2)))
           (.asrt (.bin .le (.bin .add (.int 0) (.bin .sub (.var 1) (.int 0))) (.un .len (.var 2)))
            .fail)))
         (.asrt (.bin .le (.bin .add (.int 0) (.un (.wrap .i64) (.bin .idx (.fn 69 (.bin .cons (.int 1) (.bin .cons (.un (.wrap .u64) (.var 0)) .nil))) (.int 1)))) (.un .len (.var 2)))
          (.leaf [(.bin .take (.bin .drop (.var 2) (.int 0)) (.un (.wrap .i64) (.bin .idx (.fn 69 (.bin .cons (.int 1) (.bin .cons (.un (.wrap .u64) (.var 0)) .nil))) (.int 1)))), .nil, (.int 0)])))))))))))

def dNewSm : List (Nat × Smy) := [(41, ⟨69, [.one (.pl (.int .u64)), .one (.pl (.int .u64))], [.one (.pl (.int .u64)), .one (.pl (.int .u64))], fun es => lenC [] es ++ rgeC [(0, 0, 2147483647), (1, 0, 2147483647)] es, none⟩)]
def dNewLa : List (LK × LA) := [(⟨48, 8, 5, 1⟩, ⟨[(8, (.int .i64 (.var 1))), (34, .any), (35, .any), (36, .any), (37, .any), (38, .any), (39, .any), (40, .any), (41, .any), (42, .any), (43, .any), (44, .any), (45, .any), (46, .any)], [(4, (.rows [.str] (.var 2)))], [], 2, 0⟩)]
def dNewPhi : Nat → DV → DV := fun n d => match n with
  | 69 => .list (bMulF d.l)
  | _ => d
theorem dNewS : SmyOk Try.prog dNewPhi dNewSm := (smy_cons (fun ds => lenP [] ds ∧ rgeP [(0, 0, 2147483647), (1, 0, 2147483647)] ds) bMulF bMul_pure (both_hp [] [(0, 0, 2147483647), (1, 0, 2147483647)]) (fun _ => rfl) (fun _ h => by cases h) smy_nil)
theorem dNewT : treeOk ⟨Try.prog, dNewSm, dNewLa⟩ 4000 9 [.one (.pl (.int .i64))] [.agg [.rows false [.str], .rows false [.int .i64, .str]], .one (.pl (.int .i64))] ([]) dNewTree = true := by decide +kernel
set_option maxHeartbeats 1000000 in
theorem dNew_pure : Pure Try.prog 9 [.one (.pl (.int .i64))] [.agg [.rows false [.str], .rows false [.int .i64, .str]], .one (.pl (.int .i64))] (fun _ => True) dNewF := by
  refine pure_tree (X := ⟨Try.prog, dNewSm, dNewLa⟩) (Checked.mixed Try.checked) dNewS (by decide +kernel) (by decide +kernel) dNewT (by decide +kernel) ?_
  intro ds hl hp
  obtain ⟨d0, rfl⟩ := len1 hl
  have hF : dNewF [d0] = dNewE d0.i := rfl
  rw [hF]
  clear hF hp hl
  have hN : nrmL (clsOf [.one (.pl (.int .i64))]) [d0] = [.int d0.i] := by
    simp only [clsOf, Sh.cls, List.append_nil, List.cons_append, List.nil_append, nrmL, Cl.nrm, CK.nrm]
  rw [hN]
  clear hN
  generalize d0.i = x0
  refine ⟨facts_nil _, ?_⟩
  unfold dNewTree dNewE
  simp only [Sat, clsOf, Sh.cls, List.append_nil, List.cons_append, List.nil_append, nrmL, Cl.nrm, CK.nrm, List.map_cons, List.map_nil, List.length_cons, List.length_nil, List.cons.injEq, DV.bool.injEq, DV.int.injEq, DV.list.injEq, DV.str.injEq, and_true, true_and]
  try simp only [q_le, q_eq, q_eqs, q_eqb, q_and, q_or, q_not, q_bool, iff_true, iff_false, Bool.not_true, Bool.not_false, Bool.false_eq_true, Bool.true_eq_false, eq_self, Bool.not_not]
  simp only [Bool.not_true, Bool.not_false, Bool.true_eq_false, SE.den, evU, evT, ev_le, ev_eq, ev_eqs, ev_eqb, ev_slt, ev_and, ev_or, ev_add, ev_sub, ev_mul, ev_tdiv, ev_tmod, ev_band, ev_bor, ev_bxor, ev_bandn, ev_shl, ev_shr, ev_cat, ev_byte, ev_idx, ev_cons, ev_snoc, ev_app, ev_take, ev_drop, ev_stake, ev_sdrop, ev_rep, leB_q, eqB_q, eqsB_q, not_q, i_if, b_if, l_if, s_if, i_int, b_bool, s_str, l_list, envL, List.getElem?_cons_succ, List.getElem?_cons_zero, List.getElem?_nil, Option.getD_some, Option.getD_none, Int.toNat_natCast, Int.toNat_zero, Int.reduceToNat, List.length_map, get_Li, get_Lb, get_Ls, set_Li, inj_Li, inj_Lb, inj_Ls, rows_i, rows_b, rows_s, Int.zero_add, iff_true, iff_false, and_true, true_and, Bool.false_eq_true, eq_self, not_true_eq_false, not_false_eq_true, List.length_replicate, DV.int.injEq, DV.bool.injEq, DV.str.injEq, DV.list.injEq, List.cons.injEq, f_is_0, rows_is, inj_Lis, f_is_1, rows_is, inj_Lis, dNewPhi, bMulF, bMulE, gi, gb, gs, gLi, gLu, gLb, gLs, dece_i, dece_b, dece_s]
  have hnil : newM x0 = if 0 ≤ x0 ∧ x0 ≤ 512 then List.replicate x0.toNat noughtM else [] := rfl
  by_cases h : 0 ≤ x0 ∧ x0 ≤ 512
  · obtain ⟨n, rfl⟩ : ∃ n : Nat, x0 = n := ⟨x0.toNat, by omega⟩
    have hw : IntKind.i64.wrap (1 * IntKind.u64.wrap (n : Int)) = n := by rw [u64_eq, w64_eq]; omega
    have hu : (1 * IntKind.u64.wrap (n : Int) : Int) ≤ 9223372036854775807 := by rw [u64_eq]; omega
    rw [hnil, if_pos h]
    simp only [hw, h.1, h.2, hu, Int.toNat_natCast, Int.zero_add, Int.sub_zero, List.drop_zero]
    refine ⟨by simp, fun _ => ⟨by simp, fun _ => ⟨by simp, fun _ => ⟨by simp, fun _ => ⟨by omega, by omega, by omega, ?_⟩⟩⟩⟩⟩
    refine rounds_inv (fun y => ∃ k : Nat, y = [.int k, .list ((List.replicate k noughtM ++ List.replicate (n - k) []).map DV.str)] ∧ k ≤ n ∧ (1 ≤ n → 1 ≤ k)) (fun y => n - ((y[0]?).getD (DV.int 0)).i.toNat) ?_ ?_
    · by_cases h1 : (n : Int) ≤ 1
      · refine ⟨n, ?_, Nat.le_refl _, fun h => h⟩
        have : n = 0 ∨ n = 1 := by omega
        rcases this with rfl | rfl <;> simp [noughtM] <;> rfl
      · refine ⟨1, ?_, by omega, fun _ => Nat.le_refl _⟩
        simp only [h1, if_false]
        simp [List.drop_replicate, noughtM]
    · rintro y ⟨k, rfl, hk, hk1⟩
      simp only [Bool.not_true, Bool.not_false, Bool.true_eq_false, SE.den, evU, evT, ev_le, ev_eq, ev_eqs, ev_eqb, ev_slt, ev_and, ev_or, ev_add, ev_sub, ev_mul, ev_tdiv, ev_tmod, ev_band, ev_bor, ev_bxor, ev_bandn, ev_shl, ev_shr, ev_cat, ev_byte, ev_idx, ev_cons, ev_snoc, ev_app, ev_take, ev_drop, ev_stake, ev_sdrop, ev_rep, leB_q, eqB_q, eqsB_q, not_q, i_if, b_if, l_if, s_if, i_int, b_bool, s_str, l_list, envL, List.getElem?_cons_succ, List.getElem?_cons_zero, List.getElem?_nil, Option.getD_some, Option.getD_none, Int.toNat_natCast, Int.toNat_zero, Int.reduceToNat, List.length_map, get_Li, get_Lb, get_Ls, set_Li, inj_Li, inj_Lb, inj_Ls, rows_i, rows_b, rows_s, Int.zero_add, iff_true, iff_false, and_true, true_and, Bool.false_eq_true, eq_self, not_true_eq_false, not_false_eq_true, List.length_replicate, DV.int.injEq, DV.bool.injEq, DV.str.injEq, DV.list.injEq, List.cons.injEq, f_is_0, rows_is, inj_Lis, f_is_1, rows_is, inj_Lis]
      by_cases hkn : k = n
      · subst hkn
        left
        simp [rows_s]
        exact .inr rfl
      · right
        have e1 : ¬ (n : Int) ≤ k := by omega
        have hk2 : 1 ≤ k := hk1 (by omega)
        have el : (List.map DV.str (List.replicate k noughtM ++ List.replicate (n - k) [])).length = n := by simp; omega
        have et : List.take k (List.map DV.str (List.replicate k noughtM ++ List.replicate (n - k) [])) = List.replicate k (DV.str noughtM) := by
          rw [← List.map_take, List.take_left' (by simp), List.map_replicate]
        have hm : ∃ m : Nat, (if (n : Int) - k ≤ (k : Int) then (n : Int) - k else k) = m ∧ m ≤ k ∧ k + m ≤ n ∧ 1 ≤ m := by
          by_cases hh : (n : Int) - k ≤ (k : Int)
          · exact ⟨n - k, by rw [if_pos hh]; omega, by omega, by omega, by omega⟩
          · exact ⟨k, by rw [if_neg hh], by omega, by omega, by omega⟩
        obtain ⟨m, hm, m1, m2, m3⟩ := hm
        refine ⟨[.int ((k + m : Nat) : Int), .list ((List.replicate (k + m) noughtM ++ List.replicate (n - (k + m)) []).map DV.str)], ?_, rfl, ⟨k + m, rfl, m2, fun _ => by omega⟩, ?_⟩
        · have hwk : IntKind.i64.wrap ((k : Int) + m) = ((k + m : Nat) : Int) := by rw [w64 (by omega) (by omega)]; omega
          have htn : ((k : Int) + (m : Int)).toNat = k + m := by omega
          simp only [Int.sub_zero, List.drop_zero, Int.toNat_natCast, et, List.length_replicate, hm, hwk, htn, el, e1, List.take_replicate, Nat.min_eq_left m1]
          have ed : List.drop (k + m) (List.map DV.str (List.replicate k noughtM ++ List.replicate (n - k) [])) = List.replicate (n - (k + m)) (DV.str []) := by
            rw [← List.map_drop, List.drop_append, List.drop_of_length_le (by simp), List.nil_append, List.length_replicate, List.drop_replicate, List.map_replicate]
            congr 1
            omega
          rw [ed]
          have ef : (List.replicate (k + m) noughtM ++ List.replicate (n - (k + m)) []).map DV.str = List.replicate k (DV.str noughtM) ++ (List.replicate m (DV.str noughtM) ++ List.replicate (n - (k + m)) (DV.str [])) := by
            rw [List.map_append, List.map_replicate, List.map_replicate, ← List.append_assoc, List.replicate_append_replicate]
          rw [ef]
          simp
          omega
        · simp only [Bool.not_true, Bool.not_false, Bool.true_eq_false, SE.den, evU, evT, ev_le, ev_eq, ev_eqs, ev_eqb, ev_slt, ev_and, ev_or, ev_add, ev_sub, ev_mul, ev_tdiv, ev_tmod, ev_band, ev_bor, ev_bxor, ev_bandn, ev_shl, ev_shr, ev_cat, ev_byte, ev_idx, ev_cons, ev_snoc, ev_app, ev_take, ev_drop, ev_stake, ev_sdrop, ev_rep, leB_q, eqB_q, eqsB_q, not_q, i_if, b_if, l_if, s_if, i_int, b_bool, s_str, l_list, envL, List.getElem?_cons_succ, List.getElem?_cons_zero, List.getElem?_nil, Option.getD_some, Option.getD_none, Int.toNat_natCast, Int.toNat_zero, Int.reduceToNat, List.length_map, get_Li, get_Lb, get_Ls, set_Li, inj_Li, inj_Lb, inj_Ls, rows_i, rows_b, rows_s, Int.zero_add, iff_true, iff_false, and_true, true_and, Bool.false_eq_true, eq_self, not_true_eq_false, not_false_eq_true, List.length_replicate, DV.int.injEq, DV.bool.injEq, DV.str.injEq, DV.list.injEq, List.cons.injEq, f_is_0, rows_is, inj_Lis, f_is_1, rows_is, inj_Lis]
          omega
  · simp only [hnil, if_neg h]
    by_cases h0 : 0 ≤ x0
    · have h1 : ¬ x0 ≤ 512 := fun e => h ⟨h0, e⟩
      simp only [h0, h1]
      simp
    · simp only [h0]
      simp
end Go.Proofs.Ytljocjljkilkjaa
