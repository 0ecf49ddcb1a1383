/- The function hallmootlaw22.written is a function of data. No condition. -/
import Derived.Test.YtljocjljkilkjaaDNew
import Derived.Test.YtljocjljkilkjaaDSync
import Derived.Test.YtljocjljkilkjaaDWrite
import Derived.Test.YtljocjljkilkjaaDFull
import Derived.Test.YtljocjljkilkjaaBd
import Derived.Test.YtljocjljkilkjaaOpen
namespace Go.Proofs.Ytljocjljkilkjaa
set_option linter.unusedVariables false
set_option linter.unusedSimpArgs false
set_option maxRecDepth 100000

/-- Commands one after the other: the sectors, the undo records, the writes, and whether all succeeded. -/
def wrM (n : Int) : List Int → List (List UInt8) → List Tis → List Tis → List (List UInt8) × List Tis × List Tis × Bool
  | [], s, w, d => (s, w, d, true)
  | c :: r, s, w, d => if c = 255 then wrM n r s [] d else
    if (writeM s w ((IntKind.i64.wrap c).tmod n) (fullM c)).2.2 = 0 then wrM n r (writeM s w ((IntKind.i64.wrap c).tmod n) (fullM c)).1 (writeM s w ((IntKind.i64.wrap c).tmod n) (fullM c)).2.1 (d ++ [((IntKind.i64.wrap c).tmod n, fullM c)])
    else ((writeM s w ((IntKind.i64.wrap c).tmod n) (fullM c)).1, (writeM s w ((IntKind.i64.wrap c).tmod n) (fullM c)).2.1, d ++ [((IntKind.i64.wrap c).tmod n, fullM c)], false)
def writtenE (n : Int) (l : List Int) : List DV := [.list ((wrM n l (newM n) [] []).1.map DV.str), .list ((wrM n l (newM n) [] []).2.1.map encis), .list ((wrM n l (newM n) [] []).2.2.1.map encis), .bool (wrM n l (newM n) [] []).2.2.2]

def writtenF (ds : List DV) : List DV := writtenE (gi ds 0) (gLi ds 1)
/-- What the executor makes of it. -/
def writtenTree : PT :=
(.loop 2 [(.bin .eq (.bin .idx (.fn 72 (.bin .cons (.var 0) .nil)) (.int 2)) (.int 0)), .nil, (.int 0), (.bin .idx (.fn 72 (.bin .cons (.var 0) .nil)) (.int 0)), (.bin .idx (.fn 72 (.bin .cons (.var 0) .nil)) (.int 1))]
 (.br (.un .not (.bin .le (.un .len (.var 1)) (.var 4)))
  (.br (.var 2)
   (.asrt (.bin .le (.int 0) (.var 4))
    (.br (.bin .eq (.bin .idx (.var 1) (.bin .add (.int 0) (.var 4))) (.int 255))
     (.asrt (.bin .le (.un .len (.var 5)) (.int 1000000))
      (.leaf [(.var 2), (.var 3), (.un (.wrap .i64) (.bin .add (.var 4) (.int 1))), (.bin .idx (.fn 81 (.bin .cons (.var 5) (.bin .cons (.var 6) .nil))) (.int 0)), (.bin .idx (.fn 81 (.bin .cons (.var 5) (.bin .cons (.var 6) .nil))) (.int 1))]))
     (.asrt (.un .not (.bin .eq (.var 0) (.int 0)))
      (.asrt (.bin .le (.un .len (.var 5)) (.int 1000000))
       (.asrt (.bin .le (.un .len (.var 6)) (.int 1000000))
        (.asrt (.bin .le (.bin .add (.un .len (.var 3)) (.int 1)) (.int 4294967296))
         (.leaf [(.bin .eq (.bin .idx (.fn 79 (.bin .cons (.var 5) (.bin .cons (.var 6) (.bin .cons (.bin .tmod (.un (.wrap .i64) (.bin .idx (.var 1) (.bin .add (.int 0) (.var 4)))) (.var 0)) (.bin .cons (.bin .idx (.fn 67 (.bin .cons (.bin .idx (.var 1) (.bin .add (.int 0) (.var 4))) .nil)) (.int 0)) .nil))))) (.int 2)) (.int 0)), (.bin .snoc (.var 3) (.bin .cons (.bin .tmod (.un (.wrap .i64) (.bin .idx (.var 1) (.bin .add (.int 0) (.var 4)))) (.var 0)) (.bin .cons (.bin .idx (.fn 67 (.bin .cons (.bin .idx (.var 1) (.bin .add (.int 0) (.var 4))) .nil)) (.int 0)) .nil))), (.un (.wrap .i64) (.bin .add (.var 4) (.int 1))), (.bin .idx (.fn 79 (.bin .cons (.var 5) (.bin .cons (.var 6) (.bin .cons (.bin .tmod (.un (.wrap .i64) (.bin .idx (.var 1) (.bin .add (.int 0) (.var 4)))) (.var 0)) (.bin .cons (.bin .idx (.fn 67 (.bin .cons (.bin .idx (.var 1) (.bin .add (.int 0) (.var 4))) .nil)) (.int 0)) .nil))))) (.int 0)), (.bin .idx (.fn 79 (.bin .cons (.var 5) (.bin .cons (.var 6) (.bin .cons (.bin .tmod (.un (.wrap .i64) (.bin .idx (.var 1) (.bin .add (.int 0) (.var 4)))) (.var 0)) (.bin .cons (.bin .idx (.fn 67 (.bin .cons (.bin .idx (.var 1) (.bin .add (.int 0) (.var 4))) .nil)) (.int 0)) .nil))))) (.int 1))])))))))
   .fail)
  .fail)
 (.br (.un .not (.bin .le (.un .len (.var 1)) (.var 4)))
  (.br (.var 2)
   (.asrt (.bin .le (.int 0) (.var 4))
    (.br (.bin .eq (.bin .idx (.var 1) (.bin .add (.int 0) (.var 4))) (.int 255))
     (.asrt (.bin .le (.un .len (.var 5)) (.int 1000000))
      .fail)
     (.asrt (.un .not (.bin .eq (.var 0) (.int 0)))
      (.asrt (.bin .le (.un .len (.var 5)) (.int 1000000))
       (.asrt (.bin .le (.un .len (.var 6)) (.int 1000000))
        (.asrt (.bin .le (.bin .add (.un .len (.var 3)) (.int 1)) (.int 4294967296))
         .fail))))))
   (.leaf [(.var 5), (.var 6), (.var 3), (.var 2)]))
  (.leaf [(.var 5), (.var 6), (.var 3), (.var 2)])))

def writtenSm : List (Nat × Smy) := [(9, ⟨72, [.one (.pl (.int .i64))], [.agg [.rows false [.str], .rows false [.int .i64, .str]], .one (.pl (.int .i64))], fun _ => [], none⟩), (19, ⟨81, [.agg [.rows false [.str], .rows false [.int .i64, .str]]], [.agg [.rows false [.str], .rows false [.int .i64, .str]]], lenC [(0, 1000000)], none⟩), (17, ⟨79, [.agg [.rows false [.str], .rows false [.int .i64, .str]], .one (.pl (.int .i64)), .one (.pl .str)], [.agg [.rows false [.str], .rows false [.int .i64, .str]], .one (.pl (.int .i64))], lenC [(0, 1000000), (1, 1000000)], none⟩), (24, ⟨67, [.one (.pl (.int .u8))], [.one (.pl .str)], fun _ => [], none⟩)]
def writtenLa : List (LK × LA) := [(⟨76, 5, 6, 2⟩, ⟨[(9, (.bool (.var 2))), (10, (.sl 6 2 (.int 0) (.un .len (.var 3)) none)), (11, (.int .i64 (.var 4))), (12, .any), (13, .any), (21, .any), (22, .any), (23, .any), (24, .any), (25, .any), (26, .any), (27, .any), (28, .any), (29, .any), (30, .any), (31, .any), (32, .any), (33, .any), (34, .any), (35, .any), (36, .any), (37, .any), (38, .any), (39, .any), (40, .any), (41, .any), (42, .any), (43, .any), (44, .any), (45, .any), (46, .any), (47, .any), (48, .any), (49, .any), (50, .any), (51, .any), (52, .any), (53, .any), (54, .any), (55, .any), (56, .any), (57, .any), (58, .any), (59, .any), (60, .any), (61, .any), (62, .any), (63, .any), (64, .any), (65, .any), (66, .any), (67, .any), (68, .any), (69, .any), (70, .any), (71, .any), (72, .any)], [(5, (.cells [(.sl 7 1 (.int 0) (.un .len (.var 5)) none), (.sl 8 2 (.int 0) (.un .len (.var 6)) none)])), (6, (.rows [.int .i64, .str] (.var 3))), (7, (.ro [.str] (.var 5))), (8, (.ro [.int .i64, .str] (.var 6)))], [], 5, 3⟩)]
def writtenPhi : Nat → DV → DV := fun n d => match n with
  | 72 => .list (dNewF d.l)
  | 81 => .list (dSyncF d.l)
  | 79 => .list (dWriteF d.l)
  | 67 => .list (dFullF d.l)
  | _ => d
theorem writtenS : SmyOk Try.prog writtenPhi writtenSm := (smy_cons (fun _ => True) dNewF dNew_pure (fun _ _ _ _ => trivial) (fun _ => rfl) (fun _ h => by cases h) (smy_cons (lenP [(0, 1000000)]) dSyncF dSync_pure (len_hp [(0, 1000000)]) (fun _ => rfl) (fun _ h => by cases h) (smy_cons (lenP [(0, 1000000), (1, 1000000)]) dWriteF dWrite_pure (len_hp [(0, 1000000), (1, 1000000)]) (fun _ => rfl) (fun _ h => by cases h) (smy_cons (fun _ => True) dFullF dFull_pure (fun _ _ _ _ => trivial) (fun _ => rfl) (fun _ h => by cases h) smy_nil))))
theorem writtenT : treeOk ⟨Try.prog, writtenSm, writtenLa⟩ 4000 23 [.one (.pl (.int .i64)), .one (.rows false [.int .u8])] [.agg [.rows false [.str], .rows false [.int .i64, .str]], .one (.rows false [.int .i64, .str]), .one (.pl .bool)] ([]) writtenTree = true := by decide +kernel
set_option maxHeartbeats 1000000 in
theorem written_pure : Pure Try.prog 23 [.one (.pl (.int .i64)), .one (.rows false [.int .u8])] [.agg [.rows false [.str], .rows false [.int .i64, .str]], .one (.rows false [.int .i64, .str]), .one (.pl .bool)] (fun ds => lenP [(1, 10000)] ds ∧ rgeP [(0, 1, 512)] ds) writtenF := by
  refine pure_tree (X := ⟨Try.prog, writtenSm, writtenLa⟩) (Checked.mixed Try.checked) writtenS (by decide +kernel) (by decide +kernel) writtenT (by decide +kernel) ?_
  intro ds hl hp
  obtain ⟨d0, d1, rfl⟩ := len2 hl
  have b1 : (d1.l.length : Int) ≤ 10000 := hp.1 (1, 10000) (by simp)
  have r0 : 1 ≤ d0.i ∧ d0.i ≤ 512 := hp.2 (0, 1, 512) (by simp)
  have hF : writtenF [d0, d1] = writtenE d0.i (d1.l.map DV.i) := rfl
  rw [hF]
  clear hF hp hl
  have hN : nrmL (clsOf [.one (.pl (.int .i64)), .one (.rows false [.int .u8])]) [d0, d1] = [.int d0.i, .list ((d1.l.map DV.i).map DV.int)] := by
    simp only [clsOf, Sh.cls, List.append_nil, List.cons_append, List.nil_append, nrmL, Cl.nrm, CK.nrm, map_Li]
  rw [hN]
  clear hN
  generalize d0.i = x0 at r0 ⊢
  rw [← List.length_map (f := DV.i)] at b1
  generalize d1.l.map DV.i = x1 at b1 ⊢
  refine ⟨facts_nil _, ?_⟩
  unfold writtenTree writtenE
  simp only [Sat, clsOf, Sh.cls, List.append_nil, List.cons_append, List.nil_append, nrmL, Cl.nrm, CK.nrm, List.map_cons, List.map_nil, List.length_cons, List.length_nil, List.cons.injEq, DV.bool.injEq, DV.int.injEq, DV.list.injEq, DV.str.injEq, and_true, true_and]
  try simp only [q_le, q_eq, q_eqs, q_eqb, q_and, q_or, q_not, q_bool, iff_true, iff_false, Bool.not_true, Bool.not_false, Bool.false_eq_true, Bool.true_eq_false, eq_self, Bool.not_not]
  simp only [Bool.not_true, Bool.not_false, Bool.true_eq_false, SE.den, evU, evT, ev_le, ev_eq, ev_eqs, ev_eqb, ev_slt, ev_and, ev_or, ev_add, ev_sub, ev_mul, ev_tdiv, ev_tmod, ev_band, ev_bor, ev_bxor, ev_bandn, ev_shl, ev_shr, ev_cat, ev_byte, ev_idx, ev_cons, ev_snoc, ev_app, ev_take, ev_drop, ev_stake, ev_sdrop, ev_rep, leB_q, eqB_q, eqsB_q, not_q, i_if, b_if, l_if, s_if, i_int, b_bool, s_str, l_list, envL, List.getElem?_cons_succ, List.getElem?_cons_zero, List.getElem?_nil, Option.getD_some, Option.getD_none, Int.toNat_natCast, Int.toNat_zero, Int.reduceToNat, List.length_map, get_Li, get_Lb, get_Ls, set_Li, inj_Li, inj_Lb, inj_Ls, rows_i, rows_b, rows_s, Int.zero_add, iff_true, iff_false, and_true, true_and, Bool.false_eq_true, eq_self, not_true_eq_false, not_false_eq_true, List.length_replicate, DV.int.injEq, DV.bool.injEq, DV.str.injEq, DV.list.injEq, List.cons.injEq, f_is_0, rows_is, inj_Lis, f_is_1, rows_is, inj_Lis, writtenPhi, dNewF, dNewE, dSyncF, dSyncE, dWriteF, dWriteE, dFullF, dFullE, gi, gb, gs, gLi, gLu, gLb, gLs, dece_i, dece_b, dece_s, gLis, deces_is]
  have hn : (newM x0).length ≤ 512 := by
    unfold newM
    split
    · simp; omega
    · simp
  have h0 : (eqB (if 0 ≤ x0 ∧ x0 ≤ 512 then (0 : Int) else 1) 0) = true := by rw [if_pos (by omega)]; rfl
  generalize hR : wrM x0 x1 (newM x0) [] [] = R
  refine rounds_inv (fun y => ∃ (i : Nat) (ok : Bool) (s : List (List UInt8)) (w d : List Tis), y = [.bool ok, .list (d.map encis), .int i, .list (s.map DV.str), .list (w.map encis)] ∧ i ≤ x1.length ∧ s.length ≤ 512 ∧ w.length ≤ i ∧ d.length ≤ i ∧ (if ok = true then wrM x0 (x1.drop i) s w d else (s, w, d, false)) = R)
    (fun y => x1.length - ((y[2]?).getD (DV.int 0)).i.toNat) ⟨0, true, newM x0, [], [], congrArg (fun b => [DV.bool b, DV.list [], DV.int 0, DV.list (List.map DV.str (newM x0)), DV.list []]) h0, by omega, hn, by simp, by simp, by rw [if_pos rfl, List.drop_zero]; exact hR⟩ ?_
  rintro y ⟨i, ok, s, w, d, rfl, hi, hs, hw, hd, hall⟩
  simp only [Bool.not_true, Bool.not_false, Bool.true_eq_false, SE.den, evU, evT, ev_le, ev_eq, ev_eqs, ev_eqb, ev_slt, ev_and, ev_or, ev_add, ev_sub, ev_mul, ev_tdiv, ev_tmod, ev_band, ev_bor, ev_bxor, ev_bandn, ev_shl, ev_shr, ev_cat, ev_byte, ev_idx, ev_cons, ev_snoc, ev_app, ev_take, ev_drop, ev_stake, ev_sdrop, ev_rep, leB_q, eqB_q, eqsB_q, not_q, i_if, b_if, l_if, s_if, i_int, b_bool, s_str, l_list, envL, List.getElem?_cons_succ, List.getElem?_cons_zero, List.getElem?_nil, Option.getD_some, Option.getD_none, Int.toNat_natCast, Int.toNat_zero, Int.reduceToNat, List.length_map, get_Li, get_Lb, get_Ls, set_Li, inj_Li, inj_Lb, inj_Ls, rows_i, rows_b, rows_s, Int.zero_add, iff_true, iff_false, and_true, true_and, Bool.false_eq_true, eq_self, not_true_eq_false, not_false_eq_true, List.length_replicate, DV.int.injEq, DV.bool.injEq, DV.str.injEq, DV.list.injEq, List.cons.injEq, f_is_0, rows_is, inj_Lis, f_is_1, rows_is, inj_Lis, writtenPhi, dNewF, dNewE, dSyncF, dSyncE, dWriteF, dWriteE, dFullF, dFullE, gi, gb, gs, gLi, gLu, gLb, gLs, dece_i, dece_b, dece_s, gLis, deces_is, dece_s, deces_is]
  by_cases hlt : i < x1.length
  · have e1 : ¬ (x1.length : Int) ≤ i := by omega
    cases ok with
    | false =>
      left
      rw [if_neg (by simp)] at hall
      rw [← hall]
      simp only [e1, rows_s, rows_is]
      simp
    | true =>
      rw [if_pos rfl] at hall
      have hdrop : x1.drop i = (x1[i]?.getD 0) :: x1.drop (i + 1) := by rw [List.drop_eq_getElem_cons hlt, List.getElem?_eq_getElem hlt]; rfl
      generalize x1[i]?.getD 0 = c at hdrop ⊢
      rw [hdrop] at hall
      unfold wrM at hall
      right
      have hwi : IntKind.i64.wrap ((i : Int) + 1) = ((i + 1 : Nat) : Int) := by rw [w64 (by omega) (by omega)]; omega
      have hsl : (s.length : Int) ≤ 1000000 := by omega
      have hwl : (w.length : Int) ≤ 1000000 := by omega
      have hdl : (d.length : Int) + 1 ≤ 4294967296 := by omega
      have hx0 : ¬ x0 = 0 := by omega
      by_cases h255 : c = 255
      · rw [if_pos h255] at hall
        refine ⟨[.bool true, .list (d.map encis), .int ((i + 1 : Nat) : Int), .list (s.map DV.str), .list []], ?_, rfl, ⟨i + 1, true, s, [], d, rfl, by omega, hs, by simp, by omega, by rw [if_pos rfl]; exact hall⟩, ?_⟩
        · simp only [e1, h255, hwi, hsl]
          simp
        · simp only [Bool.not_true, Bool.not_false, Bool.true_eq_false, SE.den, evU, evT, ev_le, ev_eq, ev_eqs, ev_eqb, ev_slt, ev_and, ev_or, ev_add, ev_sub, ev_mul, ev_tdiv, ev_tmod, ev_band, ev_bor, ev_bxor, ev_bandn, ev_shl, ev_shr, ev_cat, ev_byte, ev_idx, ev_cons, ev_snoc, ev_app, ev_take, ev_drop, ev_stake, ev_sdrop, ev_rep, leB_q, eqB_q, eqsB_q, not_q, i_if, b_if, l_if, s_if, i_int, b_bool, s_str, l_list, envL, List.getElem?_cons_succ, List.getElem?_cons_zero, List.getElem?_nil, Option.getD_some, Option.getD_none, Int.toNat_natCast, Int.toNat_zero, Int.reduceToNat, List.length_map, get_Li, get_Lb, get_Ls, set_Li, inj_Li, inj_Lb, inj_Ls, rows_i, rows_b, rows_s, Int.zero_add, iff_true, iff_false, and_true, true_and, Bool.false_eq_true, eq_self, not_true_eq_false, not_false_eq_true, List.length_replicate, DV.int.injEq, DV.bool.injEq, DV.str.injEq, DV.list.injEq, List.cons.injEq, f_is_0, rows_is, inj_Lis, f_is_1, rows_is, inj_Lis]; omega
      · rw [if_neg h255] at hall
        have hml : (writeM s w ((IntKind.i64.wrap c).tmod x0) (fullM c)).1.length = s.length ∧ (writeM s w ((IntKind.i64.wrap c).tmod x0) (fullM c)).2.1.length ≤ w.length + 1 := by
          unfold writeM
          split
          · split <;> simp
          · simp
        have he : encis ((IntKind.i64.wrap c).tmod x0, fullM c) = DV.list [DV.int ((IntKind.i64.wrap c).tmod x0), DV.str (fullM c)] := rfl
        refine ⟨[.bool (eqB (writeM s w ((IntKind.i64.wrap c).tmod x0) (fullM c)).2.2 0), .list ((d ++ [((IntKind.i64.wrap c).tmod x0, fullM c)]).map encis), .int ((i + 1 : Nat) : Int), .list ((writeM s w ((IntKind.i64.wrap c).tmod x0) (fullM c)).1.map DV.str), .list ((writeM s w ((IntKind.i64.wrap c).tmod x0) (fullM c)).2.1.map encis)], ?_, rfl, ⟨i + 1, _, _, _, _, rfl, by omega, by omega, by omega, by simp; omega, ?_⟩, ?_⟩
        · simp only [e1, h255, hwi, hsl, hwl, hdl, hx0, List.map_append, List.map_cons, List.map_nil, he]
          simp
          try omega
        · rw [← hall]
          by_cases hz : (writeM s w ((IntKind.i64.wrap c).tmod x0) (fullM c)).2.2 = 0
          · rw [hz, if_pos (show eqB 0 0 = true from rfl), if_pos rfl]
          · have : eqB (writeM s w ((IntKind.i64.wrap c).tmod x0) (fullM c)).2.2 0 = false := decide_eq_false hz
            rw [this, if_neg hz, if_neg (by simp)]
        · simp only [Bool.not_true, Bool.not_false, Bool.true_eq_false, SE.den, evU, evT, ev_le, ev_eq, ev_eqs, ev_eqb, ev_slt, ev_and, ev_or, ev_add, ev_sub, ev_mul, ev_tdiv, ev_tmod, ev_band, ev_bor, ev_bxor, ev_bandn, ev_shl, ev_shr, ev_cat, ev_byte, ev_idx, ev_cons, ev_snoc, ev_app, ev_take, ev_drop, ev_stake, ev_sdrop, ev_rep, leB_q, eqB_q, eqsB_q, not_q, i_if, b_if, l_if, s_if, i_int, b_bool, s_str, l_list, envL, List.getElem?_cons_succ, List.getElem?_cons_zero, List.getElem?_nil, Option.getD_some, Option.getD_none, Int.toNat_natCast, Int.toNat_zero, Int.reduceToNat, List.length_map, get_Li, get_Lb, get_Ls, set_Li, inj_Li, inj_Lb, inj_Ls, rows_i, rows_b, rows_s, Int.zero_add, iff_true, iff_false, and_true, true_and, Bool.false_eq_true, eq_self, not_true_eq_false, not_false_eq_true, List.length_replicate, DV.int.injEq, DV.bool.injEq, DV.str.injEq, DV.list.injEq, List.cons.injEq, f_is_0, rows_is, inj_Lis, f_is_1, rows_is, inj_Lis]; omega
  · have hil : i = x1.length := by omega
    subst hil
    left
    rw [List.drop_length] at hall
    rw [← hall]
    cases ok with
    | false => simp only [rows_s, rows_is]; simp
    | true => simp only [rows_s, rows_is]; simp [wrM]
end Go.Proofs.Ytljocjljkilkjaa
