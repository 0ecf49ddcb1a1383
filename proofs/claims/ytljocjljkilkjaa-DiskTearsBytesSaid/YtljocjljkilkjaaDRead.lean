/- The function disk.Read is a function of data. No condition. -/
import Derived.Test.YtljocjljkilkjaaNx
import Derived.Test.YtljocjljkilkjaaBd
import Derived.Test.YtljocjljkilkjaaOpen
namespace Go.Proofs.Ytljocjljkilkjaa
set_option linter.unusedVariables false
set_option linter.unusedSimpArgs false
set_option maxRecDepth 100000

def readDM (sec : List (List UInt8)) (at' : Int) : List UInt8 × Int := if 0 ≤ at' ∧ at' < sec.length then (sec[at'.toNat]?.getD [], 0) else ([], 8)
def dReadE (sec : List (List UInt8)) (was : List Tis) (at' : Int) : List DV := [.str (readDM sec at').1, .int (readDM sec at').2]

def dReadF (ds : List DV) : List DV := dReadE (gLs ds 0) (gLis ds 1) (gi ds 2)
/-- What the executor makes of it. -/
def dReadTree : PT :=
(.br (.bin .le (.int 0) (.var 2))
 (.br (.bin .le (.un .len (.var 0)) (.var 2))
  (.leaf [(.str []), (.int 8)])
  (.leaf [(.bin .idx (.var 0) (.bin .add (.int 0) (.var 2))), (.int 0)]))
 (.leaf [(.str []), (.int 8)]))

def dReadSm : List (Nat × Smy) := []
def dReadLa : List (LK × LA) := []
def dReadPhi : Nat → DV → DV := fun n d => match n with
  | _ => d
theorem dReadS : SmyOk Try.prog dReadPhi dReadSm := smy_nil
theorem dReadT : treeOk ⟨Try.prog, dReadSm, dReadLa⟩ 4000 15 [.agg [.rows false [.str], .rows false [.int .i64, .str]], .one (.pl (.int .i64))] [.one (.pl .str), .one (.pl (.int .i64))] ([]) dReadTree = true := by decide +kernel
set_option maxHeartbeats 1000000 in
theorem dRead_pure : Pure Try.prog 15 [.agg [.rows false [.str], .rows false [.int .i64, .str]], .one (.pl (.int .i64))] [.one (.pl .str), .one (.pl (.int .i64))] (fun _ => True) dReadF := by
  refine pure_tree (X := ⟨Try.prog, dReadSm, dReadLa⟩) (Checked.mixed Try.checked) dReadS (by decide +kernel) (by decide +kernel) dReadT (by decide +kernel) ?_
  intro ds hl hp
  obtain ⟨d0, d1, d2, rfl⟩ := len3 hl
  have hF : dReadF [d0, d1, d2] = dReadE (d0.l.map DV.s) (d1.l.map decis) d2.i := rfl
  rw [hF]
  clear hF hp hl
  have hN : nrmL (clsOf [.agg [.rows false [.str], .rows false [.int .i64, .str]], .one (.pl (.int .i64))]) [d0, d1, d2] = [.list ((d0.l.map DV.s).map DV.str), .list ((d1.l.map decis).map encis), .int d2.i] := by
    simp only [clsOf, Sh.cls, List.append_nil, List.cons_append, List.nil_append, nrmL, Cl.nrm, CK.nrm, map_Lis, map_Ls]
  rw [hN]
  clear hN
  generalize d0.l.map DV.s = x0
  generalize d1.l.map decis = x1
  generalize d2.i = x2
  refine ⟨facts_nil _, ?_⟩
  unfold dReadTree dReadE readDM
  simp only [Sat, clsOf, Sh.cls, List.append_nil, List.cons_append, List.nil_append, nrmL, Cl.nrm, CK.nrm, List.map_cons, List.map_nil, List.length_cons, List.length_nil, List.cons.injEq, DV.bool.injEq, DV.int.injEq, DV.list.injEq, DV.str.injEq, and_true, true_and]
  try simp only [q_le, q_eq, q_eqs, q_eqb, q_and, q_or, q_not, q_bool, iff_true, iff_false, Bool.not_true, Bool.not_false, Bool.false_eq_true, Bool.true_eq_false, eq_self, Bool.not_not]
  simp only [Bool.not_true, Bool.not_false, Bool.true_eq_false, SE.den, evU, evT, ev_le, ev_eq, ev_eqs, ev_eqb, ev_slt, ev_and, ev_or, ev_add, ev_sub, ev_mul, ev_tdiv, ev_tmod, ev_band, ev_bor, ev_bxor, ev_bandn, ev_shl, ev_shr, ev_cat, ev_byte, ev_idx, ev_cons, ev_snoc, ev_app, ev_take, ev_drop, ev_stake, ev_sdrop, ev_rep, leB_q, eqB_q, eqsB_q, not_q, i_if, b_if, l_if, s_if, i_int, b_bool, s_str, l_list, envL, List.getElem?_cons_succ, List.getElem?_cons_zero, List.getElem?_nil, Option.getD_some, Option.getD_none, Int.toNat_natCast, Int.toNat_zero, Int.reduceToNat, List.length_map, get_Li, get_Lb, get_Ls, set_Li, inj_Li, inj_Lb, inj_Ls, rows_i, rows_b, rows_s, Int.zero_add, iff_true, iff_false, and_true, true_and, Bool.false_eq_true, eq_self, not_true_eq_false, not_false_eq_true, List.length_replicate, DV.int.injEq, DV.bool.injEq, DV.str.injEq, DV.list.injEq, List.cons.injEq, f_is_0, rows_is, inj_Lis, f_is_1, rows_is, inj_Lis]
  repeat' (first | apply And.intro | intro)
  all_goals grind
end Go.Proofs.Ytljocjljkilkjaa
