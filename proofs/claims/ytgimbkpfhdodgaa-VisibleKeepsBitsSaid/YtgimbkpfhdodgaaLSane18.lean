/- The function hallmootlaw18.sanity is a function of data. No condition. -/
import Derived.Test.YtgimbkpfhdodgaaBd
import Derived.Test.YtgimbkpfhdodgaaOpen
namespace Go.Proofs.Ytgimbkpfhdodgaa
set_option linter.unusedVariables false
set_option linter.unusedSimpArgs false
set_option maxRecDepth 100000

def lSane18E : List DV := [.bool true]

def lSane18F (ds : List DV) : List DV := lSane18E
/-- What the executor makes of it. -/
def lSane18Tree : PT :=
(.leaf [(.bool true)])

def lSane18Sm : List (Nat × Smy) := []
def lSane18La : List (LK × LA) := []
def lSane18Phi : Fs := ⟨fun n d => match n with
  | _ => d, 60⟩
theorem lSane18S : SmyOk true Try.prog lSane18Phi lSane18Sm := smy_nil
theorem lSane18T : treeOk ⟨Try.prog, lSane18Sm, lSane18La, true⟩ 4000 4 [] [.one (.pl .bool)] ([]) lSane18Tree = true := by decide +kernel
set_option maxHeartbeats 1000000 in
theorem lSane18_pure : PureE true Try.prog 4 [] [.one (.pl .bool)] (fun _ => True) lSane18F := by
  refine pure_tree (X := ⟨Try.prog, lSane18Sm, lSane18La, true⟩) (by decide +kernel) (Checked.mixed Try.checked) lSane18S (by decide +kernel) (by decide +kernel) lSane18T (by decide +kernel) ?_
  intro ds hl hp
  obtain rfl := len0 hl
  have hF : lSane18F [] = lSane18E  := rfl
  rw [hF]
  clear hF hp hl
  have hN : nrmL (clsOf []) [] = [] := by
    simp only [clsOf, Sh.cls, List.append_nil, List.cons_append, List.nil_append, nrmL, Cl.nrm, CK.nrm]
  rw [hN]
  clear hN
  refine ⟨facts_nil _, ?_⟩
  unfold lSane18Tree
  simp only [Sat, clsOf, Sh.cls, List.append_nil, List.cons_append, List.nil_append, nrmL, Cl.nrm, CK.nrm, List.map_cons, List.map_nil, List.length_cons, List.length_nil, List.cons.injEq, DV.bool.injEq, DV.int.injEq, DV.list.injEq, DV.str.injEq, and_true, true_and, lSane18E, lSane18F]
  all_goals try simp only [q_le, q_eq, q_eqs, q_eqb, q_and, q_or, q_not, q_bool, iff_true, iff_false, Bool.not_true, Bool.not_false, Bool.false_eq_true, Bool.true_eq_false, eq_self, Bool.not_not]
  all_goals try simp only [Bool.not_true, Bool.not_false, Bool.true_eq_false, SE.den, evU, evT, ev_le, ev_eq, ev_eqs, ev_eqb, ev_slt, ev_and, ev_or, ev_add, ev_sub, ev_mul, ev_tdiv, ev_tmod, ev_band, ev_bor, ev_bxor, ev_bandn, ev_shl, ev_shr, ev_cat, ev_byte, ev_idx, ev_cons, ev_snoc, ev_app, ev_take, ev_drop, ev_stake, ev_sdrop, ev_rep, leB_q, eqB_q, eqsB_q, not_q, i_if, b_if, l_if, s_if, i_int, b_bool, s_str, l_list, envL, List.getElem?_cons_succ, List.getElem?_cons_zero, List.getElem?_nil, Option.getD_some, Option.getD_none, Int.toNat_natCast, Int.toNat_zero, Int.reduceToNat, List.length_map, get_Li, get_Lb, get_Ls, set_Li, inj_Li, inj_Lb, inj_Ls, rows_i, rows_b, rows_s, Int.zero_add, iff_true, iff_false, and_true, true_and, Bool.false_eq_true, eq_self, not_true_eq_false, not_false_eq_true, List.length_replicate, DV.int.injEq, DV.bool.injEq, DV.str.injEq, DV.list.injEq, List.cons.injEq]
  all_goals try rfl
end Go.Proofs.Ytgimbkpfhdodgaa
