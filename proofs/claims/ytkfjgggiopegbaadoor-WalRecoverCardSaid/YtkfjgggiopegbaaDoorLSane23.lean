/- The function hallmootlaw23.sanity is a function of data. No condition. -/
import Derived.Test.YtkfjgggiopegbaaDoorWRecord
import Derived.Test.YtkfjgggiopegbaaDoorWParse
import Derived.Test.YtkfjgggiopegbaaDoorWSum
import Derived.Test.YtkfjgggiopegbaaDoorBd
import Derived.Test.YtkfjgggiopegbaaDoorOpen
namespace Go.Proofs.YtkfjgggiopegbaaDoor
set_option linter.unusedVariables false
set_option linter.unusedSimpArgs false
set_option maxRecDepth 100000

def lSane23E : List DV := [.bool true]

def lSane23F (ds : List DV) : List DV := lSane23E
/-- What the executor makes of it. -/
def lSane23Tree : PT :=
(.leaf [(.bool true)])

def lSane23Sm : List (Nat × Smy) := [(18, ⟨103, [.agg [.pl (.int .i64), .rows false [.int .i64, .int .i64]]], [.one (.rows true [.str])], lenC [(1, 40)], some wRecordF⟩), (10, ⟨105, [.one (.rows false [.str]), .one (.pl (.int .i64))], [.agg [.pl (.int .i64), .rows true [.int .i64, .int .i64]], .one (.pl (.int .i64)), .one (.pl (.int .i64))], lenC [(0, 1000)], some wParseF⟩), (39, ⟨94, [.one (.pl .str)], [.one (.pl (.int .i64))], fun es => (fun _ => []) es ++ slenC [(0, 0, 1000000)] es, some wSumF⟩)]
def lSane23La : List (LK × LA) := []
def lSane23Phi : Fs := ⟨fun n d => match n with
  | 103 => .list (wRecordF d.l)
  | 105 => .list (wParseF d.l)
  | 94 => .list (wSumF d.l)
  | _ => d, 147⟩
theorem lSane23S : SmyOk false Tryd.prog lSane23Phi lSane23Sm := (smy_cons (lenP [(1, 40)]) wRecordF wRecord_pure (len_hp [(1, 40)]) (fun _ => rfl) (fun _ h => by cases h; rfl) (smy_cons (lenP [(0, 1000)]) wParseF wParse_pure.wide (len_hp [(0, 1000)]) (fun _ => rfl) (fun _ h => by cases h; rfl) (smy_cons (fun ds => (fun _ => True) ds ∧ slenP [(0, 0, 1000000)] ds) wSumF wSum_pure.wide (slen_hp (C := fun _ => []) (Q := fun _ => True) [(0, 0, 1000000)] (fun _ _ _ _ => trivial)) (fun _ => rfl) (fun _ h => by cases h; rfl) smy_nil)))
theorem lSane23T : treeOk ⟨Tryd.prog, lSane23Sm, lSane23La, false⟩ 4000 8 [] [.one (.pl .bool)] ([]) lSane23Tree = true := by decide +kernel
set_option maxHeartbeats 1000000 in
theorem lSane23_pure : PureE false Tryd.prog 8 [] [.one (.pl .bool)] (fun _ => True) lSane23F := by
  refine pure_tree (X := ⟨Tryd.prog, lSane23Sm, lSane23La, false⟩) (by decide +kernel) (Checked.mixed Tryd.checked) lSane23S (by decide +kernel) (by decide +kernel) lSane23T (by decide +kernel) ?_
  intro ds hl hp
  obtain rfl := len0 hl
  have hF : lSane23F [] = lSane23E  := rfl
  rw [hF]
  clear hF hp hl
  have hN : nrmL (clsOf []) [] = [] := by
    simp only [clsOf, Sh.cls, List.append_nil, List.cons_append, List.nil_append, nrmL, Cl.nrm, CK.nrm]
  rw [hN]
  clear hN
  refine ⟨facts_nil _, ?_⟩
  unfold lSane23Tree
  simp only [Sat, clsOf, Sh.cls, List.append_nil, List.cons_append, List.nil_append, nrmL, Cl.nrm, CK.nrm, List.map_cons, List.map_nil, List.length_cons, List.length_nil, List.cons.injEq, DV.bool.injEq, DV.int.injEq, DV.list.injEq, DV.str.injEq, and_true, true_and, lSane23E, lSane23F]
  all_goals try simp only [q_le, q_eq, q_eqs, q_eqb, q_and, q_or, q_not, q_bool, iff_true, iff_false, Bool.not_true, Bool.not_false, Bool.false_eq_true, Bool.true_eq_false, eq_self, Bool.not_not]
  all_goals try simp only [Bool.not_true, Bool.not_false, Bool.true_eq_false, SE.den, evU, evT, ev_le, ev_eq, ev_eqs, ev_eqb, ev_slt, ev_and, ev_or, ev_add, ev_sub, ev_mul, ev_tdiv, ev_tmod, ev_band, ev_bor, ev_bxor, ev_bandn, ev_shl, ev_shr, ev_cat, ev_byte, ev_idx, ev_cons, ev_snoc, ev_app, ev_take, ev_drop, ev_stake, ev_sdrop, ev_rep, leB_q, eqB_q, eqsB_q, not_q, i_if, b_if, l_if, s_if, i_int, b_bool, s_str, l_list, envL, List.getElem?_cons_succ, List.getElem?_cons_zero, List.getElem?_nil, Option.getD_some, Option.getD_none, Int.toNat_natCast, Int.toNat_zero, Int.reduceToNat, List.length_map, get_Li, get_Lb, get_Ls, set_Li, inj_Li, inj_Lb, inj_Ls, rows_i, rows_b, rows_s, Int.zero_add, iff_true, iff_false, and_true, true_and, Bool.false_eq_true, eq_self, not_true_eq_false, not_false_eq_true, List.length_replicate, DV.int.injEq, DV.bool.injEq, DV.str.injEq, DV.list.injEq, List.cons.injEq, f_ii_0, rows_ii, inj_Lii, f_ii_1, rows_ii, inj_Lii]
  all_goals try rfl
  all_goals try simp
end Go.Proofs.YtkfjgggiopegbaaDoor
