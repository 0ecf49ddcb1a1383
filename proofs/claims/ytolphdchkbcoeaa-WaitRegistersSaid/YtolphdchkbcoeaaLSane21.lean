/- The function hallmootlaw21.sanity is a function of data. No condition. -/
import Derived.Test.YtolphdchkbcoeaaLSane21M2
import Derived.Test.YtolphdchkbcoeaaRDo
import Derived.Test.YtolphdchkbcoeaaTNext
import Derived.Test.YtolphdchkbcoeaaRCell
import Derived.Test.YtolphdchkbcoeaaROfM
import Derived.Test.YtolphdchkbcoeaaRIn
import Derived.Test.YtolphdchkbcoeaaRWt
import Derived.Test.YtolphdchkbcoeaaRWord
import Derived.Test.YtolphdchkbcoeaaRWk
import Derived.Test.YtolphdchkbcoeaaBd
import Derived.Test.YtolphdchkbcoeaaOpen
namespace Go.Proofs.Ytolphdchkbcoeaa
set_option linter.unusedVariables false
set_option linter.unusedSimpArgs false
set_option maxRecDepth 100000

def lSane21E : List DV := [.bool true]

def lSane21F (ds : List DV) : List DV := lSane21E
/-- What the executor makes of it. -/
def lSane21Tree : PT :=
(.leaf [(.bool true)])

def lSane21Phi : Fs := ⟨fun n d => match n with
  | 3 => .list (rDoF d.l)
  | 106 => .list (tNextF d.l)
  | 24 => .list (rCellF d.l)
  | 128 => .list (rOfMF d.l)
  | 57 => .list (rInF d.l)
  | 52 => .list (rWtF d.l)
  | 31 => .list (rWordF d.l)
  | 110 => .list (rWkF d.l)
  | _ => d, 115⟩
theorem lSane21S : SmyOk true Try.prog lSane21Phi lSane21Sm := (smy_cons (lenP [(0, 1000000)]) rDoF rDo_pure (len_hp [(0, 1000000)]) (fun _ => rfl) (fun _ h => by cases h; rfl) (smy_cons (lenP [(21, 1000000), (24, 1000000)]) tNextF tNext_pure (len_hp [(21, 1000000), (24, 1000000)]) (fun _ => rfl) (fun _ h => by cases h; rfl) (smy_cons (fun _ => True) rCellF rCell_pure (fun _ _ _ _ => trivial) (fun _ => rfl) (fun _ h => by cases h; rfl) (smy_cons (fun _ => True) rOfMF rOfM_pure (fun _ _ _ _ => trivial) (fun _ => rfl) (fun _ h => by cases h; rfl) (smy_cons (fun _ => True) rInF rIn_pure (fun _ _ _ _ => trivial) (fun _ => rfl) (fun _ h => by cases h; rfl) (smy_cons (fun _ => True) rWtF rWt_pure (fun _ _ _ _ => trivial) (fun _ => rfl) (fun _ h => by cases h; rfl) (smy_cons (fun _ => True) rWordF rWord_pure (fun _ _ _ _ => trivial) (fun _ => rfl) (fun _ h => by cases h; rfl) (smy_cons (fun _ => True) rWkF rWk_pure (fun _ _ _ _ => trivial) (fun _ => rfl) (fun _ h => by cases h; rfl) smy_nil))))))))
theorem lSane21T : treeOk ⟨Try.prog, lSane21Sm, lSane21La, true⟩ 4000 8 [] [.one (.pl .bool)] ([]) lSane21Tree = true := treeOkM_ok lSane21L2_ok (by decide +kernel)
set_option maxHeartbeats 1000000 in
theorem lSane21_pure : PureE true Try.prog 8 [] [.one (.pl .bool)] (fun _ => True) lSane21F := by
  refine pure_tree (X := ⟨Try.prog, lSane21Sm, lSane21La, true⟩) (by decide +kernel) (Checked.mixed Try.checked) lSane21S (by decide +kernel) (by decide +kernel) lSane21T (by decide +kernel) ?_
  intro ds hl hp
  obtain rfl := len0 hl
  have hF : lSane21F [] = lSane21E  := rfl
  rw [hF]
  clear hF hp hl
  have hN : nrmL (clsOf []) [] = [] := by
    simp only [clsOf, Sh.cls, List.append_nil, List.cons_append, List.nil_append, nrmL, Cl.nrm, CK.nrm]
  rw [hN]
  clear hN
  refine ⟨facts_nil _, ?_⟩
  unfold lSane21Tree
  simp only [Sat, clsOf, Sh.cls, List.append_nil, List.cons_append, List.nil_append, nrmL, Cl.nrm, CK.nrm, List.map_cons, List.map_nil, List.length_cons, List.length_nil, List.cons.injEq, DV.bool.injEq, DV.int.injEq, DV.list.injEq, DV.str.injEq, and_true, true_and, lSane21E, lSane21F]
  all_goals try simp only [q_le, q_eq, q_eqs, q_eqb, q_and, q_or, q_not, q_bool, iff_true, iff_false, Bool.not_true, Bool.not_false, Bool.false_eq_true, Bool.true_eq_false, eq_self, Bool.not_not]
  all_goals try simp only [Bool.not_true, Bool.not_false, Bool.true_eq_false, SE.den, evU, evT, ev_le, ev_eq, ev_eqs, ev_eqb, ev_slt, ev_and, ev_or, ev_add, ev_sub, ev_mul, ev_tdiv, ev_tmod, ev_band, ev_bor, ev_bxor, ev_bandn, ev_shl, ev_shr, ev_cat, ev_byte, ev_idx, ev_cons, ev_snoc, ev_app, ev_take, ev_drop, ev_stake, ev_sdrop, ev_rep, leB_q, eqB_q, eqsB_q, not_q, i_if, b_if, l_if, s_if, i_int, b_bool, s_str, l_list, envL, List.getElem?_cons_succ, List.getElem?_cons_zero, List.getElem?_nil, Option.getD_some, Option.getD_none, Int.toNat_natCast, Int.toNat_zero, Int.reduceToNat, List.length_map, get_Li, get_Lb, get_Ls, set_Li, inj_Li, inj_Lb, inj_Ls, rows_i, rows_b, rows_s, Int.zero_add, iff_true, iff_false, and_true, true_and, Bool.false_eq_true, eq_self, not_true_eq_false, not_false_eq_true, List.length_replicate, DV.int.injEq, DV.bool.injEq, DV.str.injEq, DV.list.injEq, List.cons.injEq, f_ib_0, rows_ib, inj_Lib, f_ib_1, rows_ib, inj_Lib, f_ii_0, rows_ii, inj_Lii, f_ii_1, rows_ii, inj_Lii, f_iii_0, rows_iii, inj_Liii, f_iii_1, rows_iii, inj_Liii, f_iii_2, rows_iii, inj_Liii]
  all_goals try rfl
end Go.Proofs.Ytolphdchkbcoeaa
