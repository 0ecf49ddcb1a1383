/- The function hallmootlaw16.sanity is a function of data. No condition. -/
import Derived.Test.YtjkdenancggndaaLayOf
import Derived.Test.YtjkdenancggndaaLayWord
import Derived.Test.YtjkdenancggndaaLayVal
import Derived.Test.YtjkdenancggndaaMemDo
import Derived.Test.YtjkdenancggndaaRCell
import Derived.Test.YtjkdenancggndaaBd
import Derived.Test.YtjkdenancggndaaOpen
namespace Go.Proofs.Ytjkdenancggndaa
set_option linter.unusedVariables false
set_option linter.unusedSimpArgs false
set_option maxRecDepth 100000

def lSane16E : List DV := [.bool true]

def lSane16F (ds : List DV) : List DV := lSane16E
/-- What the executor makes of it. -/
def lSane16Tree : PT :=
(.leaf [(.bool true)])

def lSane16Sm : List (Nat × Smy) := [(18, ⟨21, [.agg [.pl (.int .i64), .pl (.int .i64), .pl (.int .i64), .pl (.int .i64), .pl (.int .i64)]], [.agg [.pl (.int .i64), .pl (.int .i64), .pl (.int .i64), .pl (.int .i64), .pl (.int .i64), .pl (.int .i64), .pl (.int .i64), .pl (.int .i64), .pl (.int .i64), .pl (.int .i64), .pl (.int .i64), .pl (.int .i64), .pl (.int .i64)], .one (.pl (.int .i64))], fun _ => [], some layOfF⟩), (9, ⟨22, [.agg [.pl (.int .i64), .pl (.int .i64), .pl (.int .i64), .pl (.int .i64), .pl (.int .i64), .pl (.int .i64), .pl (.int .i64), .pl (.int .i64), .pl (.int .i64), .pl (.int .i64), .pl (.int .i64), .pl (.int .i64), .pl (.int .i64)], .one (.pl (.int .i64))], [.one (.pl (.int .i64))], fun _ => [], some layWordF⟩), (30, ⟨23, [.agg [.pl (.int .i64), .pl (.int .i64), .pl (.int .i64), .pl (.int .i64), .pl (.int .i64), .pl (.int .i64), .pl (.int .i64), .pl (.int .i64), .pl (.int .i64), .pl (.int .i64), .pl (.int .i64), .pl (.int .i64), .pl (.int .i64)], .one (.pl (.int .i64))], [.one (.pl (.int .i64))], fun _ => [], some layValF⟩), (15, ⟨0, [.agg [.rows false [.int .i64]], .agg [.pl (.int .i64), .pl (.int .i64), .pl (.int .i64), .pl (.int .i64), .pl .str]], [.agg [.rows false [.int .i64]], .agg [.pl (.int .i64), .pl .bool], .one (.pl (.int .i64))], lenC [(0, 1000000)], some memDoF⟩), (8, ⟨24, [.agg [.rows false [.int .i64]], .one (.pl (.int .i64))], [.one (.pl (.int .i64))], fun _ => [], some rCellF⟩)]
def lSane16La : List (LK × LA) := []
def lSane16Phi : Nat → DV → DV := fun n d => match n with
  | 21 => .list (layOfF d.l)
  | 22 => .list (layWordF d.l)
  | 23 => .list (layValF d.l)
  | 0 => .list (memDoF d.l)
  | 24 => .list (rCellF d.l)
  | _ => d
theorem lSane16S : SmyOk Try.prog lSane16Phi lSane16Sm := (smy_cons (fun _ => True) layOfF layOf_pure (fun _ _ _ _ => trivial) (fun _ => rfl) (fun _ h => by cases h; rfl) (smy_cons (fun _ => True) layWordF layWord_pure (fun _ _ _ _ => trivial) (fun _ => rfl) (fun _ h => by cases h; rfl) (smy_cons (fun _ => True) layValF layVal_pure (fun _ _ _ _ => trivial) (fun _ => rfl) (fun _ h => by cases h; rfl) (smy_cons (lenP [(0, 1000000)]) memDoF memDo_pure (len_hp [(0, 1000000)]) (fun _ => rfl) (fun _ h => by cases h; rfl) (smy_cons (fun _ => True) rCellF rCell_pure (fun _ _ _ _ => trivial) (fun _ => rfl) (fun _ h => by cases h; rfl) smy_nil)))))
theorem lSane16T : treeOk ⟨Try.prog, lSane16Sm, lSane16La⟩ 4000 5 [] [.one (.pl .bool)] ([]) lSane16Tree = true := by decide +kernel
set_option maxHeartbeats 1000000 in
theorem lSane16_pure : Pure Try.prog 5 [] [.one (.pl .bool)] (fun _ => True) lSane16F := by
  refine pure_tree (X := ⟨Try.prog, lSane16Sm, lSane16La⟩) (Checked.mixed Try.checked) lSane16S (by decide +kernel) (by decide +kernel) lSane16T (by decide +kernel) ?_
  intro ds hl hp
  obtain rfl := len0 hl
  have hF : lSane16F [] = lSane16E  := rfl
  rw [hF]
  clear hF hp hl
  have hN : nrmL (clsOf []) [] = [] := by
    simp only [clsOf, Sh.cls, List.append_nil, List.cons_append, List.nil_append, nrmL, Cl.nrm, CK.nrm]
  rw [hN]
  clear hN
  refine ⟨facts_nil _, ?_⟩
  unfold lSane16Tree
  simp only [Sat, clsOf, Sh.cls, List.append_nil, List.cons_append, List.nil_append, nrmL, Cl.nrm, CK.nrm, List.map_cons, List.map_nil, List.length_cons, List.length_nil, List.cons.injEq, DV.bool.injEq, DV.int.injEq, DV.list.injEq, DV.str.injEq, and_true, true_and, lSane16E, lSane16F]
  all_goals try simp only [q_le, q_eq, q_eqs, q_eqb, q_and, q_or, q_not, q_bool, iff_true, iff_false, Bool.not_true, Bool.not_false, Bool.false_eq_true, Bool.true_eq_false, eq_self, Bool.not_not]
  all_goals try simp only [Bool.not_true, Bool.not_false, Bool.true_eq_false, SE.den, evU, evT, ev_le, ev_eq, ev_eqs, ev_eqb, ev_slt, ev_and, ev_or, ev_add, ev_sub, ev_mul, ev_tdiv, ev_tmod, ev_band, ev_bor, ev_bxor, ev_bandn, ev_shl, ev_shr, ev_cat, ev_byte, ev_idx, ev_cons, ev_snoc, ev_app, ev_take, ev_drop, ev_stake, ev_sdrop, ev_rep, leB_q, eqB_q, eqsB_q, not_q, i_if, b_if, l_if, s_if, i_int, b_bool, s_str, l_list, envL, List.getElem?_cons_succ, List.getElem?_cons_zero, List.getElem?_nil, Option.getD_some, Option.getD_none, Int.toNat_natCast, Int.toNat_zero, Int.reduceToNat, List.length_map, get_Li, get_Lb, get_Ls, set_Li, inj_Li, inj_Lb, inj_Ls, rows_i, rows_b, rows_s, Int.zero_add, iff_true, iff_false, and_true, true_and, Bool.false_eq_true, eq_self, not_true_eq_false, not_false_eq_true, List.length_replicate, DV.int.injEq, DV.bool.injEq, DV.str.injEq, DV.list.injEq, List.cons.injEq]
  all_goals try rfl
end Go.Proofs.Ytjkdenancggndaa
