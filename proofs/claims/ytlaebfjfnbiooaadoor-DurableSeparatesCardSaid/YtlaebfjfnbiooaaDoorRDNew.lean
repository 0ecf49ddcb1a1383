/- The function hallmootref22.New is a function of data. No condition. -/
import Derived.Test.YtlaebfjfnbiooaaDoorDNew
import Derived.Test.YtlaebfjfnbiooaaDoorBd
import Derived.Test.YtlaebfjfnbiooaaDoorOpen
namespace Go.Proofs.YtlaebfjfnbiooaaDoor
set_option linter.unusedVariables false
set_option linter.unusedSimpArgs false
set_option maxRecDepth 100000

def rDNewE (n : Int) : List DV := [.list ((newM n).map DV.str), .list [], .int (if 0 ≤ n ∧ n ≤ 512 then 0 else 1)]

def rDNewF (ds : List DV) : List DV := rDNewE (gi ds 0)
/-- What the executor makes of it. -/
def rDNewTree : PT :=
(.br (.un .not (.bin .le (.int 0) (.var 0)))
 (.leaf [.nil, .nil, (.int 1)])
 (.br (.un .not (.bin .le (.var 0) (.int 512)))
  (.leaf [.nil, .nil, (.int 1)])
  (.loop 1 [(.int 0), .nil]
   (.br (.un .not (.bin .le (.var 0) (.var 1)))
    (.asrt (.bin .le (.bin .add (.un .len (.var 2)) (.int 1)) (.int 4294967296))
     (.leaf [(.un (.wrap .i64) (.bin .add (.var 1) (.int 1))), (.bin .snoc (.var 2) (.str [0, 0, 0, 0, 0, 0, 0, 0, 0, 0, 0, 0, 0, 0, 0, 0, 0, 0, 0, 0, 0, 0, 0, 0, 0, 0, 0, 0, 0, 0, 0, 0]))]))
    .fail)
   (.br (.un .not (.bin .le (.var 0) (.var 1)))
    (.asrt (.bin .le (.bin .add (.un .len (.var 2)) (.int 1)) (.int 4294967296))
     .fail)
    (.leaf [(.var 2), .nil, (.int 0)])))))

def rDNewSm : List (Nat × Smy) := []
def rDNewLa : List (LK × LA) := [(⟨26, 5, 3, 1⟩, ⟨[(5, (.int .i64 (.var 1))), (14, .any), (15, .any), (16, .any), (17, .any), (18, .any), (19, .any), (20, .any), (21, .any), (22, .any), (23, .any), (24, .any)], [(2, (.cells [(.sl 3 1 (.int 0) (.un .len (.var 2)) none), .nils])), (3, (.rows [.str] (.var 2)))], [], 2, 1⟩)]
def rDNewPhi : Fs := ⟨fun n d => match n with
  | _ => d, 130⟩
theorem rDNewS : SmyOk true Tryd.prog rDNewPhi rDNewSm := smy_nil
theorem rDNewT : treeOk ⟨Tryd.prog, rDNewSm, rDNewLa, true⟩ 4000 23 [.one (.pl (.int .i64))] [.agg [.rows false [.str], .rows false [.int .i64, .str]], .one (.pl (.int .i64))] ([]) rDNewTree = true := by decide +kernel
set_option maxHeartbeats 1000000 in
theorem rDNew_pure : PureE true Tryd.prog 23 [.one (.pl (.int .i64))] [.agg [.rows false [.str], .rows false [.int .i64, .str]], .one (.pl (.int .i64))] (fun _ => True) rDNewF := by
  refine pure_tree (X := ⟨Tryd.prog, rDNewSm, rDNewLa, true⟩) (by decide +kernel) (Checked.mixed Tryd.checked) rDNewS (by decide +kernel) (by decide +kernel) rDNewT (by decide +kernel) ?_
  intro ds hl hp
  obtain ⟨d0, rfl⟩ := len1 hl
  have hF : rDNewF [d0] = rDNewE d0.i := rfl
  rw [hF]
  clear hF hp hl
  have hN : nrmL (clsOf [.one (.pl (.int .i64))]) [d0] = [.int d0.i] := by
    simp only [clsOf, Sh.cls, List.append_nil, List.cons_append, List.nil_append, nrmL, Cl.nrm, CK.nrm]
  rw [hN]
  clear hN
  generalize d0.i = x0
  refine ⟨facts_nil _, ?_⟩
  unfold rDNewTree rDNewE
  simp only [Sat, clsOf, Sh.cls, List.append_nil, List.cons_append, List.nil_append, nrmL, Cl.nrm, CK.nrm, List.map_cons, List.map_nil, List.length_cons, List.length_nil, List.cons.injEq, DV.bool.injEq, DV.int.injEq, DV.list.injEq, DV.str.injEq, and_true, true_and]
  try simp only [q_le, q_eq, q_eqs, q_eqb, q_and, q_or, q_not, q_bool, iff_true, iff_false, Bool.not_true, Bool.not_false, Bool.false_eq_true, Bool.true_eq_false, eq_self, Bool.not_not]
  simp only [Bool.not_true, Bool.not_false, Bool.true_eq_false, SE.den, evU, evT, ev_le, ev_eq, ev_eqs, ev_eqb, ev_slt, ev_and, ev_or, ev_add, ev_sub, ev_mul, ev_tdiv, ev_tmod, ev_band, ev_bor, ev_bxor, ev_bandn, ev_shl, ev_shr, ev_cat, ev_byte, ev_idx, ev_cons, ev_snoc, ev_app, ev_take, ev_drop, ev_stake, ev_sdrop, ev_rep, leB_q, eqB_q, eqsB_q, not_q, i_if, b_if, l_if, s_if, i_int, b_bool, s_str, l_list, envL, List.getElem?_cons_succ, List.getElem?_cons_zero, List.getElem?_nil, Option.getD_some, Option.getD_none, Int.toNat_natCast, Int.toNat_zero, Int.reduceToNat, List.length_map, get_Li, get_Lb, get_Ls, set_Li, inj_Li, inj_Lb, inj_Ls, rows_i, rows_b, rows_s, Int.zero_add, iff_true, iff_false, and_true, true_and, Bool.false_eq_true, eq_self, not_true_eq_false, not_false_eq_true, List.length_replicate, DV.int.injEq, DV.bool.injEq, DV.str.injEq, DV.list.injEq, List.cons.injEq, f_is_0, rows_is, inj_Lis, f_is_1, rows_is, inj_Lis]
  have hnil : newM x0 = if 0 ≤ x0 ∧ x0 ≤ 512 then List.replicate x0.toNat noughtM else [] := rfl
  by_cases h : 0 ≤ x0 ∧ x0 ≤ 512
  · obtain ⟨n, rfl⟩ : ∃ n : Nat, x0 = n := ⟨x0.toNat, by omega⟩
    rw [hnil, if_pos h]
    simp only [h.1, h.2]
    refine ⟨by simp, fun _ => ⟨by simp, fun _ => ?_⟩⟩
    refine rounds_at n (fun i => [.int i, .list ((List.replicate i noughtM).map DV.str)]) rfl (fun _ => rfl) (fun i hi => ?_) ?_
    · have e1 : ¬ (n : Int) ≤ i := by omega
      have hz : [DV.str [0, 0, 0, 0, 0, 0, 0, 0, 0, 0, 0, 0, 0, 0, 0, 0, 0, 0, 0, 0, 0, 0, 0, 0, 0, 0, 0, 0, 0, 0, 0, 0]] = [noughtM].map DV.str := rfl
      simp only [Bool.not_true, Bool.not_false, Bool.true_eq_false, SE.den, evU, evT, ev_le, ev_eq, ev_eqs, ev_eqb, ev_slt, ev_and, ev_or, ev_add, ev_sub, ev_mul, ev_tdiv, ev_tmod, ev_band, ev_bor, ev_bxor, ev_bandn, ev_shl, ev_shr, ev_cat, ev_byte, ev_idx, ev_cons, ev_snoc, ev_app, ev_take, ev_drop, ev_stake, ev_sdrop, ev_rep, leB_q, eqB_q, eqsB_q, not_q, i_if, b_if, l_if, s_if, i_int, b_bool, s_str, l_list, envL, List.getElem?_cons_succ, List.getElem?_cons_zero, List.getElem?_nil, Option.getD_some, Option.getD_none, Int.toNat_natCast, Int.toNat_zero, Int.reduceToNat, List.length_map, get_Li, get_Lb, get_Ls, set_Li, inj_Li, inj_Lb, inj_Ls, rows_i, rows_b, rows_s, Int.zero_add, iff_true, iff_false, and_true, true_and, Bool.false_eq_true, eq_self, not_true_eq_false, not_false_eq_true, List.length_replicate, DV.int.injEq, DV.bool.injEq, DV.str.injEq, DV.list.injEq, List.cons.injEq, f_is_0, rows_is, inj_Lis, f_is_1, rows_is, inj_Lis, e1, w64 (n := (i : Int) + 1) (by omega) (by omega), hz]
      rw [← List.map_append, ← List.replicate_succ']
      simp
      try omega
    · simp only [Bool.not_true, Bool.not_false, Bool.true_eq_false, SE.den, evU, evT, ev_le, ev_eq, ev_eqs, ev_eqb, ev_slt, ev_and, ev_or, ev_add, ev_sub, ev_mul, ev_tdiv, ev_tmod, ev_band, ev_bor, ev_bxor, ev_bandn, ev_shl, ev_shr, ev_cat, ev_byte, ev_idx, ev_cons, ev_snoc, ev_app, ev_take, ev_drop, ev_stake, ev_sdrop, ev_rep, leB_q, eqB_q, eqsB_q, not_q, i_if, b_if, l_if, s_if, i_int, b_bool, s_str, l_list, envL, List.getElem?_cons_succ, List.getElem?_cons_zero, List.getElem?_nil, Option.getD_some, Option.getD_none, Int.toNat_natCast, Int.toNat_zero, Int.reduceToNat, List.length_map, get_Li, get_Lb, get_Ls, set_Li, inj_Li, inj_Lb, inj_Ls, rows_i, rows_b, rows_s, Int.zero_add, iff_true, iff_false, and_true, true_and, Bool.false_eq_true, eq_self, not_true_eq_false, not_false_eq_true, List.length_replicate, DV.int.injEq, DV.bool.injEq, DV.str.injEq, DV.list.injEq, List.cons.injEq, f_is_0, rows_is, inj_Lis, f_is_1, rows_is, inj_Lis]
      simp [rows_s]
      try exact .inr rfl
  · simp only [hnil, if_neg h]
    by_cases h0 : 0 ≤ x0
    · have h1 : ¬ x0 ≤ 512 := fun e => h ⟨h0, e⟩
      simp only [h0, h1]
      simp
    · simp only [h0]
      simp
end Go.Proofs.YtlaebfjfnbiooaaDoor
