/- The function hallmootlaw25.sanity is a function of data. No condition. -/
import Derived.Test.YtlaebfjfnbiooaaDoorUDo
import Derived.Test.YtlaebfjfnbiooaaDoorRDo
import Derived.Test.YtlaebfjfnbiooaaDoorRSame
import Derived.Test.YtlaebfjfnbiooaaDoorWParse
import Derived.Test.YtlaebfjfnbiooaaDoorRDNew
import Derived.Test.YtlaebfjfnbiooaaDoorMemAll
import Derived.Test.YtlaebfjfnbiooaaDoorLayInit
import Derived.Test.YtlaebfjfnbiooaaDoorROfM
import Derived.Test.YtlaebfjfnbiooaaDoorRCell
import Derived.Test.YtlaebfjfnbiooaaDoorRVal
import Derived.Test.YtlaebfjfnbiooaaDoorRWord
import Derived.Test.YtlaebfjfnbiooaaDoorRSum23
import Derived.Test.YtlaebfjfnbiooaaDoorR3Nums
import Derived.Test.YtlaebfjfnbiooaaDoorRValid
import Derived.Test.YtlaebfjfnbiooaaDoorBd
import Derived.Test.YtlaebfjfnbiooaaDoorOpen
namespace Go.Proofs.YtlaebfjfnbiooaaDoor
set_option linter.unusedVariables false
set_option linter.unusedSimpArgs false
set_option maxRecDepth 100000

def lSane25E : List DV := [.bool true]

def lSane25F (ds : List DV) : List DV := lSane25E
/-- What the executor makes of it. -/
def lSane25Tree : PT :=
(.leaf [(.bool true)])

def lSane25Sm : List (Nat × Smy) := [(11, ⟨131, [.agg [.rows false [.int .i64]], .agg [.rows false [.str], .rows false [.int .i64, .str]], .agg [.pl (.int .i64), .pl (.int .i64), .pl (.int .i64), .pl (.int .i64), .pl .str]], [.agg [.rows false [.int .i64]], .agg [.rows false [.str], .rows false [.int .i64, .str]], .agg [.pl (.int .i64), .pl .bool], .one (.pl (.int .i64))], lenC [(0, 1000000), (1, 1000000), (2, 1000000)], some uDoF⟩), (39, ⟨3, [.agg [.rows false [.int .i64]], .agg [.pl (.int .i64), .pl (.int .i64), .pl (.int .i64), .pl (.int .i64), .pl .str]], [.agg [.rows false [.int .i64]], .agg [.pl (.int .i64), .pl .bool], .one (.pl (.int .i64))], lenC [(0, 1000000)], some rDoF⟩), (13, ⟨4, [.agg [.rows false [.int .i64]], .agg [.rows false [.int .i64]]], [.one (.pl .bool)], lenC [(0, 1000000), (1, 1000000)], some rSameF⟩), (67, ⟨105, [.one (.rows false [.str]), .one (.pl (.int .i64))], [.agg [.pl (.int .i64), .rows true [.int .i64, .int .i64]], .one (.pl (.int .i64)), .one (.pl (.int .i64))], lenC [(0, 1000)], some wParseF⟩), (23, ⟨74, [.one (.pl (.int .i64))], [.agg [.rows false [.str], .rows false [.int .i64, .str]], .one (.pl (.int .i64))], fun _ => [], some rDNewF⟩), (41, ⟨8, [.agg [.rows false [.int .i64]], .one (.rows false [.int .i64, .int .i64, .int .i64, .int .i64, .str])], [.agg [.rows false [.int .i64]], .one (.rows true [.int .i64, .bool]), .one (.pl (.int .i64))], lenC [(0, 1000000), (1, 1000000)], some memAllF⟩), (42, ⟨27, [.agg [.pl (.int .i64), .pl (.int .i64), .pl (.int .i64), .pl (.int .i64), .pl (.int .i64), .pl (.int .i64), .pl (.int .i64), .pl (.int .i64), .pl (.int .i64), .pl (.int .i64), .pl (.int .i64), .pl (.int .i64), .pl (.int .i64)], .one (.rows false [.int .i64])], [.one (.rows true [.int .i64, .int .i64, .int .i64, .int .i64, .str])], fun es => lenC [(13, 1000000)] es ++ rgeC [(1, 0, 1000)] es, some layInitF⟩), (21, ⟨128, [.agg [.pl (.int .i64), .pl (.int .i64), .pl (.int .i64), .pl (.int .i64), .pl (.int .i64)]], [.agg [.pl (.int .i64), .pl (.int .i64), .pl (.int .i64), .pl (.int .i64), .pl (.int .i64), .pl (.int .i64), .pl (.int .i64), .pl (.int .i64), .pl (.int .i64), .pl (.int .i64), .pl (.int .i64), .pl (.int .i64), .pl (.int .i64)], .one (.pl (.int .i64))], fun _ => [], some rOfMF⟩), (25, ⟨24, [.agg [.rows false [.int .i64]], .one (.pl (.int .i64))], [.one (.pl (.int .i64))], fun _ => [], some rCellF⟩), (26, ⟨32, [.agg [.pl (.int .i64), .pl (.int .i64), .pl (.int .i64), .pl (.int .i64), .pl (.int .i64), .pl (.int .i64), .pl (.int .i64), .pl (.int .i64), .pl (.int .i64), .pl (.int .i64), .pl (.int .i64), .pl (.int .i64), .pl (.int .i64)], .one (.pl (.int .i64))], [.one (.pl (.int .i64))], fun _ => [], some rValF⟩), (27, ⟨31, [.agg [.pl (.int .i64), .pl (.int .i64), .pl (.int .i64), .pl (.int .i64), .pl (.int .i64), .pl (.int .i64), .pl (.int .i64), .pl (.int .i64), .pl (.int .i64), .pl (.int .i64), .pl (.int .i64), .pl (.int .i64), .pl (.int .i64)], .one (.pl (.int .i64))], [.one (.pl (.int .i64))], fun _ => [], some rWordF⟩), (59, ⟨116, [.one (.pl .str)], [.one (.pl (.int .i64))], fun es => (fun _ => []) es ++ slenC [(0, 0, 1000000)] es, some rSum23F⟩), (58, ⟨118, [.one (.rows false [.int .i64])], [.one (.rows true [.int .u8])], lenC [(0, 1000)], some r3NumsF⟩), (57, ⟨114, [.agg [.pl (.int .i64), .rows false [.int .i64, .int .i64]]], [.one (.pl .bool)], lenC [(1, 9223372036854775807)], some rValidF⟩)]
def lSane25La : List (LK × LA) := []
def lSane25Phi : Fs := ⟨fun n d => match n with
  | 131 => .list (uDoF d.l)
  | 3 => .list (rDoF d.l)
  | 4 => .list (rSameF d.l)
  | 105 => .list (wParseF d.l)
  | 74 => .list (rDNewF d.l)
  | 8 => .list (memAllF d.l)
  | 27 => .list (layInitF d.l)
  | 128 => .list (rOfMF d.l)
  | 24 => .list (rCellF d.l)
  | 32 => .list (rValF d.l)
  | 31 => .list (rWordF d.l)
  | 116 => .list (rSum23F d.l)
  | 118 => .list (r3NumsF d.l)
  | 114 => .list (rValidF d.l)
  | _ => d, 130⟩
theorem lSane25S : SmyOk true Tryd.prog lSane25Phi lSane25Sm := (smy_cons (lenP [(0, 1000000), (1, 1000000), (2, 1000000)]) uDoF uDo_pure (len_hp [(0, 1000000), (1, 1000000), (2, 1000000)]) (fun _ => rfl) (fun _ h => by cases h; rfl) (smy_cons (lenP [(0, 1000000)]) rDoF rDo_pure (len_hp [(0, 1000000)]) (fun _ => rfl) (fun _ h => by cases h; rfl) (smy_cons (lenP [(0, 1000000), (1, 1000000)]) rSameF rSame_pure (len_hp [(0, 1000000), (1, 1000000)]) (fun _ => rfl) (fun _ h => by cases h; rfl) (smy_cons (lenP [(0, 1000)]) wParseF wParse_pure (len_hp [(0, 1000)]) (fun _ => rfl) (fun _ h => by cases h; rfl) (smy_cons (fun _ => True) rDNewF rDNew_pure (fun _ _ _ _ => trivial) (fun _ => rfl) (fun _ h => by cases h; rfl) (smy_cons (lenP [(0, 1000000), (1, 1000000)]) memAllF memAll_pure (len_hp [(0, 1000000), (1, 1000000)]) (fun _ => rfl) (fun _ h => by cases h; rfl) (smy_cons (fun ds => lenP [(13, 1000000)] ds ∧ rgeP [(1, 0, 1000)] ds) layInitF layInit_pure (both_hp [(13, 1000000)] [(1, 0, 1000)]) (fun _ => rfl) (fun _ h => by cases h; rfl) (smy_cons (fun _ => True) rOfMF rOfM_pure (fun _ _ _ _ => trivial) (fun _ => rfl) (fun _ h => by cases h; rfl) (smy_cons (fun _ => True) rCellF rCell_pure (fun _ _ _ _ => trivial) (fun _ => rfl) (fun _ h => by cases h; rfl) (smy_cons (fun _ => True) rValF rVal_pure (fun _ _ _ _ => trivial) (fun _ => rfl) (fun _ h => by cases h; rfl) (smy_cons (fun _ => True) rWordF rWord_pure (fun _ _ _ _ => trivial) (fun _ => rfl) (fun _ h => by cases h; rfl) (smy_cons (fun ds => (fun _ => True) ds ∧ slenP [(0, 0, 1000000)] ds) rSum23F rSum23_pure (slen_hp (C := fun _ => []) (Q := fun _ => True) [(0, 0, 1000000)] (fun _ _ _ _ => trivial)) (fun _ => rfl) (fun _ h => by cases h; rfl) (smy_cons (lenP [(0, 1000)]) r3NumsF r3Nums_pure (len_hp [(0, 1000)]) (fun _ => rfl) (fun _ h => by cases h; rfl) (smy_cons (lenP [(1, 9223372036854775807)]) rValidF rValid_pure (len_hp [(1, 9223372036854775807)]) (fun _ => rfl) (fun _ h => by cases h; rfl) smy_nil))))))))))))))
theorem lSane25T : treeOk ⟨Tryd.prog, lSane25Sm, lSane25La, true⟩ 4000 8 [] [.one (.pl .bool)] ([]) lSane25Tree = true := by decide +kernel
set_option maxHeartbeats 1000000 in
theorem lSane25_pure : PureE true Tryd.prog 8 [] [.one (.pl .bool)] (fun _ => True) lSane25F := by
  refine pure_tree (X := ⟨Tryd.prog, lSane25Sm, lSane25La, true⟩) (by decide +kernel) (Checked.mixed Tryd.checked) lSane25S (by decide +kernel) (by decide +kernel) lSane25T (by decide +kernel) ?_
  intro ds hl hp
  obtain rfl := len0 hl
  have hF : lSane25F [] = lSane25E  := rfl
  rw [hF]
  clear hF hp hl
  have hN : nrmL (clsOf []) [] = [] := by
    simp only [clsOf, Sh.cls, List.append_nil, List.cons_append, List.nil_append, nrmL, Cl.nrm, CK.nrm]
  rw [hN]
  clear hN
  refine ⟨facts_nil _, ?_⟩
  unfold lSane25Tree
  simp only [Sat, clsOf, Sh.cls, List.append_nil, List.cons_append, List.nil_append, nrmL, Cl.nrm, CK.nrm, List.map_cons, List.map_nil, List.length_cons, List.length_nil, List.cons.injEq, DV.bool.injEq, DV.int.injEq, DV.list.injEq, DV.str.injEq, and_true, true_and, lSane25E, lSane25F]
  all_goals try simp only [q_le, q_eq, q_eqs, q_eqb, q_and, q_or, q_not, q_bool, iff_true, iff_false, Bool.not_true, Bool.not_false, Bool.false_eq_true, Bool.true_eq_false, eq_self, Bool.not_not]
  all_goals try simp only [Bool.not_true, Bool.not_false, Bool.true_eq_false, SE.den, evU, evT, ev_le, ev_eq, ev_eqs, ev_eqb, ev_slt, ev_and, ev_or, ev_add, ev_sub, ev_mul, ev_tdiv, ev_tmod, ev_band, ev_bor, ev_bxor, ev_bandn, ev_shl, ev_shr, ev_cat, ev_byte, ev_idx, ev_cons, ev_snoc, ev_app, ev_take, ev_drop, ev_stake, ev_sdrop, ev_rep, leB_q, eqB_q, eqsB_q, not_q, i_if, b_if, l_if, s_if, i_int, b_bool, s_str, l_list, envL, List.getElem?_cons_succ, List.getElem?_cons_zero, List.getElem?_nil, Option.getD_some, Option.getD_none, Int.toNat_natCast, Int.toNat_zero, Int.reduceToNat, List.length_map, get_Li, get_Lb, get_Ls, set_Li, inj_Li, inj_Lb, inj_Ls, rows_i, rows_b, rows_s, Int.zero_add, iff_true, iff_false, and_true, true_and, Bool.false_eq_true, eq_self, not_true_eq_false, not_false_eq_true, List.length_replicate, DV.int.injEq, DV.bool.injEq, DV.str.injEq, DV.list.injEq, List.cons.injEq, f_ib_0, rows_ib, inj_Lib, f_ib_1, rows_ib, inj_Lib, f_ii_0, rows_ii, inj_Lii, f_ii_1, rows_ii, inj_Lii, f_iiiis_0, rows_iiiis, inj_Liiiis, f_iiiis_1, rows_iiiis, inj_Liiiis, f_iiiis_2, rows_iiiis, inj_Liiiis, f_iiiis_3, rows_iiiis, inj_Liiiis, f_iiiis_4, rows_iiiis, inj_Liiiis, f_is_0, rows_is, inj_Lis, f_is_1, rows_is, inj_Lis]
  all_goals try rfl
end Go.Proofs.YtlaebfjfnbiooaaDoor
