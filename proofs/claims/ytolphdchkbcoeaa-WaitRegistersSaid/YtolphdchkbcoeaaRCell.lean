/- The function hallmootref16.Cell is a function of data. No condition. -/
import Derived.Test.YtolphdchkbcoeaaBd
import Derived.Test.YtolphdchkbcoeaaOpen
namespace Go.Proofs.Ytolphdchkbcoeaa
set_option linter.unusedVariables false
set_option linter.unusedSimpArgs false
set_option maxRecDepth 100000

def cellM (l : List Int) (k : Int) : Int := if k < 0 ∨ l.length ≤ k then 0 else l[k.toNat]?.getD 0
def rCellE (l : List Int) (k : Int) : List DV := [.int (cellM l k)]

def rCellF (ds : List DV) : List DV := rCellE (gLi ds 0) (gi ds 1)
/-- What the executor makes of it. -/
def rCellTree : PT :=
(.br (.un .not (.bin .le (.int 0) (.var 1)))
 (.leaf [(.int 0)])
 (.br (.bin .le (.un .len (.var 0)) (.var 1))
  (.leaf [(.int 0)])
  (.leaf [(.bin .idx (.var 0) (.bin .add (.int 0) (.var 1)))])))

def rCellSm : List (Nat × Smy) := []
def rCellLa : List (LK × LA) := []
def rCellPhi : Fs := ⟨fun n d => match n with
  | _ => d, 115⟩
theorem rCellS : SmyOk true Try.prog rCellPhi rCellSm := smy_nil
theorem rCellT : treeOk ⟨Try.prog, rCellSm, rCellLa, true⟩ 4000 18 [.agg [.rows false [.int .i64]], .one (.pl (.int .i64))] [.one (.pl (.int .i64))] ([]) rCellTree = true := by decide +kernel
set_option maxHeartbeats 1000000 in
theorem rCell_pure : PureE true Try.prog 18 [.agg [.rows false [.int .i64]], .one (.pl (.int .i64))] [.one (.pl (.int .i64))] (fun _ => True) rCellF := by
  refine pure_tree (X := ⟨Try.prog, rCellSm, rCellLa, true⟩) (by decide +kernel) (Checked.mixed Try.checked) rCellS (by decide +kernel) (by decide +kernel) rCellT (by decide +kernel) ?_
  intro ds hl hp
  obtain ⟨d0, d1, rfl⟩ := len2 hl
  have hF : rCellF [d0, d1] = rCellE (d0.l.map DV.i) d1.i := rfl
  rw [hF]
  clear hF hp hl
  have hN : nrmL (clsOf [.agg [.rows false [.int .i64]], .one (.pl (.int .i64))]) [d0, d1] = [.list ((d0.l.map DV.i).map DV.int), .int d1.i] := by
    simp only [clsOf, Sh.cls, List.append_nil, List.cons_append, List.nil_append, nrmL, Cl.nrm, CK.nrm, map_Li]
  rw [hN]
  clear hN
  generalize d0.l.map DV.i = x0
  generalize d1.i = x1
  refine ⟨facts_nil _, ?_⟩
  unfold rCellTree rCellE cellM
  simp only [Sat, clsOf, Sh.cls, List.append_nil, List.cons_append, List.nil_append, nrmL, Cl.nrm, CK.nrm, List.map_cons, List.map_nil, List.length_cons, List.length_nil, List.cons.injEq, DV.bool.injEq, DV.int.injEq, DV.list.injEq, DV.str.injEq, and_true, true_and]
  simp only [q_le, q_eq, q_eqs, q_eqb, q_and, q_or, q_not, q_bool, iff_true, iff_false, Bool.not_true, Bool.not_false, Bool.false_eq_true, Bool.true_eq_false, eq_self, Bool.not_not]
  simp only [Bool.not_true, Bool.not_false, Bool.true_eq_false, SE.den, evU, evT, ev_le, ev_eq, ev_eqs, ev_eqb, ev_slt, ev_and, ev_or, ev_add, ev_sub, ev_mul, ev_tdiv, ev_tmod, ev_band, ev_bor, ev_bxor, ev_bandn, ev_shl, ev_shr, ev_cat, ev_byte, ev_idx, ev_cons, ev_snoc, ev_app, ev_take, ev_drop, ev_stake, ev_sdrop, ev_rep, leB_q, eqB_q, eqsB_q, not_q, i_if, b_if, l_if, s_if, i_int, b_bool, s_str, l_list, envL, List.getElem?_cons_succ, List.getElem?_cons_zero, List.getElem?_nil, Option.getD_some, Option.getD_none, Int.toNat_natCast, Int.toNat_zero, Int.reduceToNat, List.length_map, get_Li, get_Lb, get_Ls, set_Li, inj_Li, inj_Lb, inj_Ls, rows_i, rows_b, rows_s, Int.zero_add, iff_true, iff_false, and_true, true_and, Bool.false_eq_true, eq_self, not_true_eq_false, not_false_eq_true, List.length_replicate, DV.int.injEq, DV.bool.injEq, DV.str.injEq, DV.list.injEq, List.cons.injEq]
  repeat' (first | apply And.intro | intro)
  all_goals grind
end Go.Proofs.Ytolphdchkbcoeaa
