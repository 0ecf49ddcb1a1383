/- The function hallmootref23.Record is a function of data. No condition. -/
import Derived.Test.YtkfjgggiopegbaaDoorRValid
import Derived.Test.YtkfjgggiopegbaaDoorR3Nums
import Derived.Test.YtkfjgggiopegbaaDoorRSum23
import Derived.Test.YtkfjgggiopegbaaDoorWRecord
import Derived.Test.YtkfjgggiopegbaaDoorBd
import Derived.Test.YtkfjgggiopegbaaDoorOpen
namespace Go.Proofs.YtkfjgggiopegbaaDoor
set_option linter.unusedVariables false
set_option linter.unusedSimpArgs false
set_option maxRecDepth 100000

def record3 (v : Int) (w : List Tii) : List (List UInt8) := if validM v w = true then sectsM ((padM (strN (nums3 (v :: flatW w)))).length / 27) (padM (strN (nums3 (v :: flatW w)))) else []
def rRecordE (v : Int) (w : List Tii) : List DV := [.list ((record3 v w).map .str)]
theorem record3_eq {v : Int} {w : List Tii} (hw : rgeW w) : record3 v w = recordM v w := by
  unfold record3 recordM bodyM
  split
  · rename_i hv
    obtain ⟨_, v1, v2, v3⟩ := validM_iff.1 hv
    have hl : (v :: flatW w).length ≤ 65 := by rw [List.length_cons, flatW_len]; omega
    rw [nums3_eq (by omega) fun n hn => by
      rcases List.mem_cons.1 hn with e | e
      · omega
      · exact flatW_rge hw n e]
  · rfl
theorem sumM_rge (s : List UInt8) : 0 ≤ sumM s ∧ sumM s < 4294967296 := by
  obtain ⟨a, b, c, d⟩ := sumS_rge s
  unfold sumM
  omega
theorem le4_ops (n : Int) (h0 : 0 ≤ n) (h1 : n < 4294967296) : List.map (fun d : DV => UInt8.ofNat d.i.toNat) [.int (IntKind.u8.wrap (n.tmod 256)), .int (IntKind.u8.wrap ((IntKind.i64.wrap (n.tdiv 256)).tmod 256)), .int (IntKind.u8.wrap ((IntKind.i64.wrap (n.tdiv 65536)).tmod 256)), .int (IntKind.u8.wrap (IntKind.i64.wrap (n.tdiv 16777216)))] = le4 n := by
  unfold le4
  simp only [List.map_cons, List.map_nil, i_int]
  rw [Int.tmod_eq_emod_of_nonneg h0, Int.tdiv_eq_ediv_of_nonneg h0, Int.tdiv_eq_ediv_of_nonneg h0, Int.tdiv_eq_ediv_of_nonneg h0, w64 (n := n / 256) (by omega) (by omega), w64 (n := n / 65536) (by omega) (by omega), w64 (n := n / 16777216) (by omega) (by omega), Int.tmod_eq_emod_of_nonneg (by omega), Int.tmod_eq_emod_of_nonneg (by omega)]
  rw [u8_wrap (n % 256) (by omega) (by omega), u8_wrap (n / 256 % 256) (by omega) (by omega), u8_wrap (n / 65536 % 256) (by omega) (by omega), u8_wrap (n / 16777216) (by omega) (by omega)]
  have : n / 16777216 % 256 = n / 16777216 := by omega
  rw [this]
theorem head_ops (k : Int) (c : List UInt8) : List.map (fun d : DV => UInt8.ofNat d.i.toNat) [.int (IntKind.u8.wrap k)] ++ c = headS k c := by
  show UInt8.ofNat (IntKind.u8.wrap k).toNat :: c = _
  rw [wrap_u8n]
  rfl
theorem padM_len3 (b : List UInt8) : (padM b).length = (b.length + 26) / 27 * 27 := pad_len b

def rRecordF (ds : List DV) : List DV := rRecordE (gi ds 0) (gLii ds 1)
/-- What the executor makes of it. -/
def rRecordTree : PT :=
(.asrt (.bin .le (.un .len (.var 1)) (.int 9223372036854775807))
 (.br (.un .not (.bin .idx (.fn 114 (.bin .cons (.var 0) (.bin .cons (.var 1) .nil))) (.int 0)))
  (.leaf [.nil])
  (.loop 2 [(.bin .cons (.var 0) .nil), (.int 0)]
   (.br (.un .not (.bin .le (.un .len (.var 1)) (.var 3)))
    (.asrt (.bin .le (.int 0) (.var 3))
     (.asrt (.bin .le (.bin .add (.un .len (.var 2)) (.int 2)) (.int 4294967296))
      (.leaf [(.bin .app (.var 2) (.bin .cons (.bin .idx (.bin .idx (.var 1) (.bin .add (.int 0) (.var 3))) (.int 0)) (.bin .cons (.bin .idx (.bin .idx (.var 1) (.bin .add (.int 0) (.var 3))) (.int 1)) .nil))), (.un (.wrap .i64) (.bin .add (.var 3) (.int 1)))])))
    .fail)
   (.br (.un .not (.bin .le (.un .len (.var 1)) (.var 3)))
    (.asrt (.bin .le (.int 0) (.var 3))
     (.asrt (.bin .le (.bin .add (.un .len (.var 2)) (.int 2)) (.int 4294967296))
      .fail))
    (.asrt (.bin .le (.un .len (.var 2)) (.int 1000))
     (.loop 4 [(.un .str8 (.bin .idx (.fn 118 (.bin .cons (.var 2) .nil)) (.int 0)))]
      (.br (.un .not (.bin .eq (.bin .tmod (.un .slen (.var 4)) (.int 27)) (.int 0)))
       (.asrt (.bin .le (.bin .add (.un .slen (.var 4)) (.int 1)) (.int 9223372036854775807))
        (.leaf [(.bin .cat (.var 4) (.str [0]))]))
       .fail)
      (.br (.un .not (.bin .eq (.bin .tmod (.un .slen (.var 4)) (.int 27)) (.int 0)))
       (.asrt (.bin .le (.bin .add (.un .slen (.var 4)) (.int 1)) (.int 9223372036854775807))
        .fail)
       (.loop 5 [.nil, (.int 0)]
        (.br (.un .not (.bin .le (.un (.wrap .i64) (.bin .tdiv (.un .slen (.var 4)) (.int 27))) (.var 6)))
         (.asrt (.bin .le (.int 0) (.un (.wrap .i64) (.bin .add (.un (.wrap .i64) (.bin .mul (.int 27) (.var 6))) (.int 27))))
          (.asrt (.bin .le (.un (.wrap .i64) (.bin .add (.un (.wrap .i64) (.bin .mul (.int 27) (.var 6))) (.int 27))) (.un .slen (.var 4)))
           (.asrt (.bin .le (.int 0) (.un (.wrap .i64) (.bin .mul (.int 27) (.var 6))))
            (.asrt (.bin .le (.un (.wrap .i64) (.bin .mul (.int 27) (.var 6))) (.un (.wrap .i64) (.bin .add (.un (.wrap .i64) (.bin .mul (.int 27) (.var 6))) (.int 27))))
             (.asrt (.bin .le (.bin .add (.int 1) (.un .slen (.bin .sdrop (.bin .stake (.var 4) (.un (.wrap .i64) (.bin .add (.un (.wrap .i64) (.bin .mul (.int 27) (.var 6))) (.int 27)))) (.un (.wrap .i64) (.bin .mul (.int 27) (.var 6)))))) (.int 9223372036854775807))
              (.asrt (.bin .le (.un .slen (.bin .cat (.un .str8 (.bin .cons (.un (.wrap .u8) (.un (.wrap .i64) (.bin .sub (.un (.wrap .i64) (.bin .sub (.un (.wrap .i64) (.bin .tdiv (.un .slen (.var 4)) (.int 27))) (.int 1))) (.var 6)))) .nil)) (.bin .sdrop (.bin .stake (.var 4) (.un (.wrap .i64) (.bin .add (.un (.wrap .i64) (.bin .mul (.int 27) (.var 6))) (.int 27)))) (.un (.wrap .i64) (.bin .mul (.int 27) (.var 6)))))) (.int 1000000))
               (.asrt (.bin .le (.bin .add (.un .len (.var 5)) (.int 1)) (.int 4294967296))
                (.leaf [(.bin .snoc (.var 5) (.bin .cat (.bin .cat (.un .str8 (.bin .cons (.un (.wrap .u8) (.un (.wrap .i64) (.bin .sub (.un (.wrap .i64) (.bin .sub (.un (.wrap .i64) (.bin .tdiv (.un .slen (.var 4)) (.int 27))) (.int 1))) (.var 6)))) .nil)) (.bin .sdrop (.bin .stake (.var 4) (.un (.wrap .i64) (.bin .add (.un (.wrap .i64) (.bin .mul (.int 27) (.var 6))) (.int 27)))) (.un (.wrap .i64) (.bin .mul (.int 27) (.var 6))))) (.un .str8 (.bin .cons (.un (.wrap .u8) (.bin .tmod (.bin .idx (.fn 116 (.bin .cons (.bin .cat (.un .str8 (.bin .cons (.un (.wrap .u8) (.un (.wrap .i64) (.bin .sub (.un (.wrap .i64) (.bin .sub (.un (.wrap .i64) (.bin .tdiv (.un .slen (.var 4)) (.int 27))) (.int 1))) (.var 6)))) .nil)) (.bin .sdrop (.bin .stake (.var 4) (.un (.wrap .i64) (.bin .add (.un (.wrap .i64) (.bin .mul (.int 27) (.var 6))) (.int 27)))) (.un (.wrap .i64) (.bin .mul (.int 27) (.var 6))))) .nil)) (.int 0)) (.int 256))) (.bin .cons (.un (.wrap .u8) (.bin .tmod (.un (.wrap .i64) (.bin .tdiv (.bin .idx (.fn 116 (.bin .cons (.bin .cat (.un .str8 (.bin .cons (.un (.wrap .u8) (.un (.wrap .i64) (.bin .sub (.un (.wrap .i64) (.bin .sub (.un (.wrap .i64) (.bin .tdiv (.un .slen (.var 4)) (.int 27))) (.int 1))) (.var 6)))) .nil)) (.bin .sdrop (.bin .stake (.var 4) (.un (.wrap .i64) (.bin .add (.un (.wrap .i64) (.bin .mul (.int 27) (.var 6))) (.int 27)))) (.un (.wrap .i64) (.bin .mul (.int 27) (.var 6))))) .nil)) (.int 0)) (.int 256))) (.int 256))) (.bin .cons (.un (.wrap .u8) (.bin .tmod (.un (.wrap .i64) (.bin .tdiv (.bin .idx (.fn 116 (.bin .cons (.bin .cat (.un .str8 (.bin .cons (.un (.wrap .u8) (.un (.wrap .i64) (.bin .sub (.un (.wrap .i64) (.bin .sub (.un (.wrap .i64) (.bin .tdiv (.un .slen (.var 4)) (.int 27))) (.int 1))) (.var 6)))) .nil)) (.bin .sdrop (.bin .stake (.var 4) (.un (.wrap .i64) (.bin .add (.un (.wrap .i64) (.bin .mul (.int 27) (.var 6))) (.int 27)))) (.un (.wrap .i64) (.bin .mul (.int 27) (.var 6))))) .nil)) (.int 0)) (.int 65536))) (.int 256))) (.bin .cons (.un (.wrap .u8) (.un (.wrap .i64) (.bin .tdiv (.bin .idx (.fn 116 (.bin .cons (.bin .cat (.un .str8 (.bin .cons (.un (.wrap .u8) (.un (.wrap .i64) (.bin .sub (.un (.wrap .i64) (.bin .sub (.un (.wrap .i64) (.bin .tdiv (.un .slen (.var 4)) (.int 27))) (.int 1))) (.var 6)))) .nil)) (.bin .sdrop (.bin .stake (.var 4) (.un (.wrap .i64) (.bin .add (.un (.wrap .i64) (.bin .mul (.int 27) (.var 6))) (.int 27)))) (.un (.wrap .i64) (.bin .mul (.int 27) (.var 6))))) .nil)) (.int 0)) (.int 16777216)))) .nil))))))), (.un (.wrap .i64) (.bin .add (.var 6) (.int 1)))]))))))))
         .fail)
        (.br (.un .not (.bin .le (.un (.wrap .i64) (.bin .tdiv (.un .slen (.var 4)) (.int 27))) (.var 6)))
         (.asrt (.bin .le (.int 0) (.un (.wrap .i64) (.bin .add (.un (.wrap .i64) (.bin .mul (.int 27) (.var 6))) (.int 27))))
          (.asrt (.bin .le (.un (.wrap .i64) (.bin .add (.un (.wrap .i64) (.bin .mul (.int 27) (.var 6))) (.int 27))) (.un .slen (.var 4)))
           (.asrt (.bin .le (.int 0) (.un (.wrap .i64) (.bin .mul (.int 27) (.var 6))))
            (.asrt (.bin .le (.un (.wrap .i64) (.bin .mul (.int 27) (.var 6))) (.un (.wrap .i64) (.bin .add (.un (.wrap .i64) (.bin .mul (.int 27) (.var 6))) (.int 27))))
             (.asrt (.bin .le (.bin .add (.int 1) (.un .slen (.bin .sdrop (.bin .stake (.var 4) (.un (.wrap .i64) (.bin .add (.un (.wrap .i64) (.bin .mul (.int 27) (.var 6))) (.int 27)))) (.un (.wrap .i64) (.bin .mul (.int 27) (.var 6)))))) (.int 9223372036854775807))
              (.asrt (.bin .le (.un .slen (.bin .cat (.un .str8 (.bin .cons (.un (.wrap .u8) (.un (.wrap .i64) (.bin .sub (.un (.wrap .i64) (.bin .sub (.un (.wrap .i64) (.bin .tdiv (.un .slen (.var 4)) (.int 27))) (.int 1))) (.var 6)))) .nil)) (.bin .sdrop (.bin .stake (.var 4) (.un (.wrap .i64) (.bin .add (.un (.wrap .i64) (.bin .mul (.int 27) (.var 6))) (.int 27)))) (.un (.wrap .i64) (.bin .mul (.int 27) (.var 6)))))) (.int 1000000))
               (.asrt (.bin .le (.bin .add (.un .len (.var 5)) (.int 1)) (.int 4294967296))
                .fail)))))))
         (.leaf [(.var 5)]))))))))))

def rRecordSm : List (Nat × Smy) := [(72, ⟨114, [.agg [.pl (.int .i64), .rows false [.int .i64, .int .i64]]], [.one (.pl .bool)], lenC [(1, 9223372036854775807)], none⟩), (73, ⟨118, [.one (.rows false [.int .i64])], [.one (.rows true [.int .u8])], lenC [(0, 1000)], none⟩), (74, ⟨116, [.one (.pl .str)], [.one (.pl (.int .i64))], fun es => (fun _ => []) es ++ slenC [(0, 0, 1000000)] es, none⟩)]
def rRecordLa : List (LK × LA) := [(⟨99, 15, 6, 5, 5⟩, ⟨[(8, (.sl 6 1 (.int 0) (.un .len (.var 5)) none)), (9, (.int .i64 (.var 6))), (10, .any), (11, .any), (55, .any), (56, .any), (57, .any), (58, .any), (59, .any), (60, .any), (61, .any), (62, .any), (63, .any), (64, .any), (65, .any), (66, .any), (67, .any), (68, .any), (69, .any), (70, .any), (71, .any), (72, .any), (73, .any), (74, .any), (75, .any), (76, .any), (77, .any), (78, .any), (79, .any), (80, .any), (81, .any), (82, .any), (83, .any), (84, .any), (85, .any), (86, .any), (87, .any), (88, .any), (89, .any), (90, .any), (91, .any), (92, .any), (93, .any), (94, .any), (95, .any), (96, .any), (97, .any)], [(6, (.rows [.str] (.var 5)))], [], 2, 1⟩),
  (⟨99, 10, 6, 4, 4⟩, ⟨[(6, (.str (.var 4))), (44, .any), (45, .any), (46, .any), (47, .any), (48, .any), (49, .any), (50, .any), (51, .any)], [], [], 1, 0⟩),
  (⟨99, 6, 4, 2, 2⟩, ⟨[(4, (.sl 4 1 (.int 0) (.un .len (.var 2)) none)), (5, (.int .i64 (.var 3))), (19, .any), (20, .any), (21, .any), (22, .any), (23, .any), (24, .any), (25, .any), (26, .any), (27, .any), (28, .any), (29, .any), (30, .any), (31, .any), (32, .any), (33, .any), (34, .any), (35, .any), (36, .any), (37, .any), (38, .any), (39, .any), (40, .any)], [(4, (.rows [.int .i64] (.var 2)))], [3], 2, 1⟩)]
def rRecordPhi : Fs := ⟨fun n d => match n with
  | 114 => .list (rValidF d.l)
  | 118 => .list (r3NumsF d.l)
  | 116 => .list (rSum23F d.l)
  | _ => d, 147⟩
theorem rRecordS : SmyOk true Tryd.prog rRecordPhi rRecordSm := (smy_cons (lenP [(1, 9223372036854775807)]) rValidF rValid_pure (len_hp [(1, 9223372036854775807)]) (fun _ => rfl) (fun _ h => by cases h) (smy_cons (lenP [(0, 1000)]) r3NumsF r3Nums_pure (len_hp [(0, 1000)]) (fun _ => rfl) (fun _ h => by cases h) (smy_cons (fun ds => (fun _ => True) ds ∧ slenP [(0, 0, 1000000)] ds) rSum23F rSum23_pure (slen_hp (C := fun _ => []) (Q := fun _ => True) [(0, 0, 1000000)] (fun _ _ _ _ => trivial)) (fun _ => rfl) (fun _ h => by cases h) smy_nil)))
theorem rRecordT : treeOk ⟨Tryd.prog, rRecordSm, rRecordLa, true⟩ 4000 38 [.agg [.pl (.int .i64), .rows false [.int .i64, .int .i64]]] [.one (.rows true [.str])] ([]) rRecordTree = true := by decide +kernel
set_option maxHeartbeats 1000000 in
theorem rRecord_pure : PureE true Tryd.prog 38 [.agg [.pl (.int .i64), .rows false [.int .i64, .int .i64]]] [.one (.rows true [.str])] (lenP [(1, 1000000)]) rRecordF := by
  refine pure_tree (X := ⟨Tryd.prog, rRecordSm, rRecordLa, true⟩) (by decide +kernel) (Checked.mixed Tryd.checked) rRecordS (by decide +kernel) (by decide +kernel) rRecordT (by decide +kernel) ?_
  intro ds hl hp
  obtain ⟨d0, d1, rfl⟩ := len2 hl
  have b1 : (d1.l.length : Int) ≤ 1000000 := hp (1, 1000000) (by simp)
  have hF : rRecordF [d0, d1] = rRecordE d0.i (d1.l.map decii) := rfl
  rw [hF]
  clear hF hp hl
  have hN : nrmL (clsOf [.agg [.pl (.int .i64), .rows false [.int .i64, .int .i64]]]) [d0, d1] = [.int d0.i, .list ((d1.l.map decii).map encii)] := by
    simp only [clsOf, Sh.cls, List.append_nil, List.cons_append, List.nil_append, nrmL, Cl.nrm, CK.nrm, map_Lii]
  rw [hN]
  clear hN
  generalize d0.i = x0
  rw [← List.length_map (f := decii)] at b1
  generalize d1.l.map decii = x1 at b1 ⊢
  refine ⟨facts_nil _, ?_⟩
  unfold rRecordTree rRecordE
  simp only [Sat, clsOf, Sh.cls, List.append_nil, List.cons_append, List.nil_append, nrmL, Cl.nrm, CK.nrm, List.map_cons, List.map_nil, List.length_cons, List.length_nil, List.cons.injEq, DV.bool.injEq, DV.int.injEq, DV.list.injEq, DV.str.injEq, and_true, true_and]
  simp only [q_le, q_eq, q_eqs, q_eqb, q_and, q_or, q_not, q_bool, iff_true, iff_false, Bool.not_true, Bool.not_false, Bool.false_eq_true, Bool.true_eq_false, eq_self, Bool.not_not]
  simp only [Bool.not_true, Bool.not_false, Bool.true_eq_false, SE.den, evU, evT, ev_le, ev_eq, ev_eqs, ev_eqb, ev_slt, ev_and, ev_or, ev_add, ev_sub, ev_mul, ev_tdiv, ev_tmod, ev_band, ev_bor, ev_bxor, ev_bandn, ev_shl, ev_shr, ev_cat, ev_byte, ev_idx, ev_cons, ev_snoc, ev_app, ev_take, ev_drop, ev_stake, ev_sdrop, ev_rep, leB_q, eqB_q, eqsB_q, not_q, i_if, b_if, l_if, s_if, i_int, b_bool, s_str, l_list, envL, List.getElem?_cons_succ, List.getElem?_cons_zero, List.getElem?_nil, Option.getD_some, Option.getD_none, Int.toNat_natCast, Int.toNat_zero, Int.reduceToNat, List.length_map, get_Li, get_Lb, get_Ls, set_Li, inj_Li, inj_Lb, inj_Ls, rows_i, rows_b, rows_s, Int.zero_add, iff_true, iff_false, and_true, true_and, Bool.false_eq_true, eq_self, not_true_eq_false, not_false_eq_true, List.length_replicate, DV.int.injEq, DV.bool.injEq, DV.str.injEq, DV.list.injEq, List.cons.injEq, f_ii_0, rows_ii, inj_Lii, f_ii_1, rows_ii, inj_Lii, rRecordPhi, rValidF, rValidE, r3NumsF, r3NumsE, rSum23F, rSum23E, gi, gb, gs, gLi, gLu, gLb, gLs, dece_i, dece_b, dece_s, gLii, deces_ii]
  refine ⟨by omega, fun h => ?_, fun hv => ?_⟩
  · unfold record3
    rw [if_neg (by simp [h])]
    rfl
  · obtain ⟨_, v1, v2, v3⟩ := validM_iff.1 hv
    refine rounds_at x1.length (fun i => [.list ((x0 :: flatW (x1.take i)).map .int), .int i]) rfl (fun _ => rfl) (fun i hi => ?_) ?_
    · have e1 : ¬ (x1.length : Int) ≤ i := by omega
      have hwi : IntKind.i64.wrap ((i : Int) + 1) = ((i + 1 : Nat) : Int) := by rw [w64 (by omega) (by omega)]; omega
      have hl : (flatW (x1.take i)).length = 2 * i := by rw [flatW_len, List.length_take]; omega
      rw [flatW_snoc _ _ hi]
      simp only [Bool.not_true, Bool.not_false, Bool.true_eq_false, SE.den, evU, evT, ev_le, ev_eq, ev_eqs, ev_eqb, ev_slt, ev_and, ev_or, ev_add, ev_sub, ev_mul, ev_tdiv, ev_tmod, ev_band, ev_bor, ev_bxor, ev_bandn, ev_shl, ev_shr, ev_cat, ev_byte, ev_idx, ev_cons, ev_snoc, ev_app, ev_take, ev_drop, ev_stake, ev_sdrop, ev_rep, leB_q, eqB_q, eqsB_q, not_q, i_if, b_if, l_if, s_if, i_int, b_bool, s_str, l_list, envL, List.getElem?_cons_succ, List.getElem?_cons_zero, List.getElem?_nil, Option.getD_some, Option.getD_none, Int.toNat_natCast, Int.toNat_zero, Int.reduceToNat, List.length_map, get_Li, get_Lb, get_Ls, set_Li, inj_Li, inj_Lb, inj_Ls, rows_i, rows_b, rows_s, Int.zero_add, iff_true, iff_false, and_true, true_and, Bool.false_eq_true, eq_self, not_true_eq_false, not_false_eq_true, List.length_replicate, DV.int.injEq, DV.bool.injEq, DV.str.injEq, DV.list.injEq, List.cons.injEq, f_ii_0, rows_ii, inj_Lii, f_ii_1, rows_ii, inj_Lii, rRecordPhi, rValidF, rValidE, r3NumsF, r3NumsE, rSum23F, rSum23E, gi, gb, gs, gLi, gLu, gLb, gLs, dece_i, dece_b, dece_s, gLii, deces_ii, e1, hwi, raw_ii_0, raw_ii_1, List.length_cons, hl]
      refine ⟨fun _ => ⟨by omega, by omega, ?_⟩, fun h => h.elim⟩
      simp
    · rw [List.take_length]
      generalize hL : x0 :: flatW x1 = L
      have hLl : L.length ≤ 65 := by rw [← hL, List.length_cons, flatW_len]; omega
      have hn := nums3_len L
      obtain ⟨B, hB⟩ : ∃ B, B = padM (strN (nums3 L)) := ⟨_, rfl⟩
      have hBl : B.length = ((nums3 L).length + 26) / 27 * 27 := by rw [hB, pad_len, strN_len]
      have hR : record3 x0 x1 = sectsM (B.length / 27) B := by
        unfold record3
        rw [if_pos hv, hL, ← hB]
      obtain ⟨M, hMe⟩ : ∃ M, M = ((nums3 L).length + 26) / 27 := ⟨_, rfl⟩
      have hBM : B.length / 27 = M := by omega
      rw [hBM] at hR
      obtain ⟨N, hN⟩ : ∃ N, N = strN (nums3 L) := ⟨_, rfl⟩
      have hNl : N.length = (nums3 L).length := by rw [hN, strN_len]
      simp only [Bool.not_true, Bool.not_false, Bool.true_eq_false, SE.den, evU, evT, ev_le, ev_eq, ev_eqs, ev_eqb, ev_slt, ev_and, ev_or, ev_add, ev_sub, ev_mul, ev_tdiv, ev_tmod, ev_band, ev_bor, ev_bxor, ev_bandn, ev_shl, ev_shr, ev_cat, ev_byte, ev_idx, ev_cons, ev_snoc, ev_app, ev_take, ev_drop, ev_stake, ev_sdrop, ev_rep, leB_q, eqB_q, eqsB_q, not_q, i_if, b_if, l_if, s_if, i_int, b_bool, s_str, l_list, envL, List.getElem?_cons_succ, List.getElem?_cons_zero, List.getElem?_nil, Option.getD_some, Option.getD_none, Int.toNat_natCast, Int.toNat_zero, Int.reduceToNat, List.length_map, get_Li, get_Lb, get_Ls, set_Li, inj_Li, inj_Lb, inj_Ls, rows_i, rows_b, rows_s, Int.zero_add, iff_true, iff_false, and_true, true_and, Bool.false_eq_true, eq_self, not_true_eq_false, not_false_eq_true, List.length_replicate, DV.int.injEq, DV.bool.injEq, DV.str.injEq, DV.list.injEq, List.cons.injEq, f_ii_0, rows_ii, inj_Lii, f_ii_1, rows_ii, inj_Lii, rRecordPhi, rValidF, rValidE, r3NumsF, r3NumsE, rSum23F, rSum23E, gi, gb, gs, gLi, gLu, gLb, gLs, dece_i, dece_b, dece_s, gLii, deces_ii, dece_i, str8_Li, hR]
      refine ⟨fun h => absurd (Int.le_refl _) h, fun _ => ⟨by omega, ?_⟩⟩
      rw [← hN]
      rw [← hN] at hB
      refine ⟨rfl, ?_⟩
      have hBe : B = N ++ List.replicate (27 * M - N.length) 0 := by rw [hB]; unfold padM; congr 2; omega
      refine rounds_inv (fun y => ∃ k : Nat, y = [.str (N ++ List.replicate k 0)] ∧ k ≤ 27 * M - N.length) (fun y => 27 * M - ((y[0]?).getD (DV.int 0)).s.length) ⟨0, by rw [List.replicate_zero, List.append_nil], Nat.zero_le _⟩ ?_
      rintro y ⟨k, rfl, hk⟩
      have hlen : ((N ++ List.replicate k 0).length : Int) = N.length + k := by simp
      simp only [Bool.not_true, Bool.not_false, Bool.true_eq_false, SE.den, evU, evT, ev_le, ev_eq, ev_eqs, ev_eqb, ev_slt, ev_and, ev_or, ev_add, ev_sub, ev_mul, ev_tdiv, ev_tmod, ev_band, ev_bor, ev_bxor, ev_bandn, ev_shl, ev_shr, ev_cat, ev_byte, ev_idx, ev_cons, ev_snoc, ev_app, ev_take, ev_drop, ev_stake, ev_sdrop, ev_rep, leB_q, eqB_q, eqsB_q, not_q, i_if, b_if, l_if, s_if, i_int, b_bool, s_str, l_list, envL, List.getElem?_cons_succ, List.getElem?_cons_zero, List.getElem?_nil, Option.getD_some, Option.getD_none, Int.toNat_natCast, Int.toNat_zero, Int.reduceToNat, List.length_map, get_Li, get_Lb, get_Ls, set_Li, inj_Li, inj_Lb, inj_Ls, rows_i, rows_b, rows_s, Int.zero_add, iff_true, iff_false, and_true, true_and, Bool.false_eq_true, eq_self, not_true_eq_false, not_false_eq_true, List.length_replicate, DV.int.injEq, DV.bool.injEq, DV.str.injEq, DV.list.injEq, List.cons.injEq, f_ii_0, rows_ii, inj_Lii, f_ii_1, rows_ii, inj_Lii, rRecordPhi, rValidF, rValidE, r3NumsF, r3NumsE, rSum23F, rSum23E, gi, gb, gs, gLi, gLu, gLb, gLs, dece_i, dece_b, dece_s, gLii, deces_ii, List.cons_append, List.nil_append, hlen]
      have htm : ((N.length : Int) + k).tmod 27 = ((N.length + k) % 27 : Nat) := by rw [Int.tmod_eq_emod_of_nonneg (by omega)]; omega
      rw [htm]
      by_cases hk2 : (N.length + k) % 27 = 0
      · left
        have hkk : k = 27 * M - N.length := by omega
        rw [hkk, ← hBe] at hlen ⊢
        have h0 : (((N.length + (27 * M - N.length)) % 27 : Nat) : Int) = 0 := by omega
        refine ⟨fun h => absurd h0 h, fun _ => ⟨rfl, ?_⟩⟩
        have hdiv : IntKind.i64.wrap ((B.length : Int).tdiv 27) = M := by
          have : (B.length : Int).tdiv 27 = M := by rw [Int.tdiv_eq_ediv_of_nonneg (by omega)]; omega
          rw [this, w64 (by omega) (by omega)]
        have hdiv2 : IntKind.i64.wrap (((N.length : Int) + ((27 * M - N.length : Nat) : Int)).tdiv 27) = M := by
          rw [← hlen]; exact hdiv
        refine rounds_at M (fun i => [.list (((sectsM M B).take i).map .str), .int i]) rfl (fun _ => rfl) (fun i hi => ?_) ?_
        · have e1 : ¬ (M : Int) ≤ i := by omega
          have hwi : IntKind.i64.wrap ((i : Int) + 1) = ((i + 1 : Nat) : Int) := by rw [w64 (by omega) (by omega)]; omega
          have hw3 : IntKind.i64.wrap (27 * (i : Int)) = ((27 * i : Nat) : Int) := by rw [w64 (by omega) (by omega)]; omega
          have hw2 : IntKind.i64.wrap (((27 * i : Nat) : Int) + 27) = ((27 * (i + 1) : Nat) : Int) := by rw [w64 (by omega) (by omega)]; omega
          have hw4 : IntKind.i64.wrap (IntKind.i64.wrap ((M : Int) - 1) - i) = ((M - 1 - i : Nat) : Int) := by rw [w64 (n := (M : Int) - 1) (by omega) (by omega), w64 (by omega) (by omega)]; omega
          have hc : List.drop (27 * i) (List.take (27 * (i + 1)) B) = List.take 27 (List.drop (27 * i) B) := by rw [List.drop_take]; congr 1; omega
          have hcl : (List.take 27 (List.drop (27 * i) B)).length = 27 := by rw [List.length_take, List.length_drop]; omega
          have ht : (sectsM M B).take (i + 1) = (sectsM M B).take i ++ [sectorM ((M - 1 - i : Nat) : Int) (List.take 27 (List.drop (27 * i) B))] := by
            rw [List.take_add_one, ← sects_at M B i hi, List.getElem?_eq_getElem (by rw [sects_len]; exact hi)]; rfl
          have htl : ((sectsM M B).take i).length = i := by rw [List.length_take, sects_len]; omega
          rw [ht]
          simp only [Bool.not_true, Bool.not_false, Bool.true_eq_false, SE.den, evU, evT, ev_le, ev_eq, ev_eqs, ev_eqb, ev_slt, ev_and, ev_or, ev_add, ev_sub, ev_mul, ev_tdiv, ev_tmod, ev_band, ev_bor, ev_bxor, ev_bandn, ev_shl, ev_shr, ev_cat, ev_byte, ev_idx, ev_cons, ev_snoc, ev_app, ev_take, ev_drop, ev_stake, ev_sdrop, ev_rep, leB_q, eqB_q, eqsB_q, not_q, i_if, b_if, l_if, s_if, i_int, b_bool, s_str, l_list, envL, List.getElem?_cons_succ, List.getElem?_cons_zero, List.getElem?_nil, Option.getD_some, Option.getD_none, Int.toNat_natCast, Int.toNat_zero, Int.reduceToNat, List.length_map, get_Li, get_Lb, get_Ls, set_Li, inj_Li, inj_Lb, inj_Ls, rows_i, rows_b, rows_s, Int.zero_add, iff_true, iff_false, and_true, true_and, Bool.false_eq_true, eq_self, not_true_eq_false, not_false_eq_true, List.length_replicate, DV.int.injEq, DV.bool.injEq, DV.str.injEq, DV.list.injEq, List.cons.injEq, f_ii_0, rows_ii, inj_Lii, f_ii_1, rows_ii, inj_Lii, rRecordPhi, rValidF, rValidE, r3NumsF, r3NumsE, rSum23F, rSum23E, gi, gb, gs, gLi, gLu, gLb, gLs, dece_i, dece_b, dece_s, gLii, deces_ii, List.cons_append, List.nil_append, e1, hwi, hw2, hw3, hw4, hdiv, hdiv2, Int.toNat_natCast, hc, hcl, htl, snoc_Ls, head_ops]
          generalize hS : List.take 27 (List.drop (27 * i) B) = C at hcl
          obtain ⟨s0, s1⟩ := sumM_rge (headS ((M - 1 - i : Nat) : Int) C)
          rw [le4_ops _ s0 s1]
          have hhl : (headS ((M - 1 - i : Nat) : Int) C).length = 28 := by unfold headS; rw [List.length_cons, hcl]
          refine ⟨fun _ => ⟨by omega, by omega, by omega, by omega, by omega, by omega, by omega, ?_⟩, fun h => h⟩
          rfl
        · have : List.take M (sectsM M B) = sectsM M B := List.take_of_length_le (by rw [sects_len]; omega)
          rw [this]
          simp only [Bool.not_true, Bool.not_false, Bool.true_eq_false, SE.den, evU, evT, ev_le, ev_eq, ev_eqs, ev_eqb, ev_slt, ev_and, ev_or, ev_add, ev_sub, ev_mul, ev_tdiv, ev_tmod, ev_band, ev_bor, ev_bxor, ev_bandn, ev_shl, ev_shr, ev_cat, ev_byte, ev_idx, ev_cons, ev_snoc, ev_app, ev_take, ev_drop, ev_stake, ev_sdrop, ev_rep, leB_q, eqB_q, eqsB_q, not_q, i_if, b_if, l_if, s_if, i_int, b_bool, s_str, l_list, envL, List.getElem?_cons_succ, List.getElem?_cons_zero, List.getElem?_nil, Option.getD_some, Option.getD_none, Int.toNat_natCast, Int.toNat_zero, Int.reduceToNat, List.length_map, get_Li, get_Lb, get_Ls, set_Li, inj_Li, inj_Lb, inj_Ls, rows_i, rows_b, rows_s, Int.zero_add, iff_true, iff_false, and_true, true_and, Bool.false_eq_true, eq_self, not_true_eq_false, not_false_eq_true, List.length_replicate, DV.int.injEq, DV.bool.injEq, DV.str.injEq, DV.list.injEq, List.cons.injEq, f_ii_0, rows_ii, inj_Lii, f_ii_1, rows_ii, inj_Lii, rRecordPhi, rValidF, rValidE, r3NumsF, r3NumsE, rSum23F, rSum23E, gi, gb, gs, gLi, gLu, gLb, gLs, dece_i, dece_b, dece_s, gLii, deces_ii, List.cons_append, List.nil_append, hdiv, hdiv2]
          exact ⟨fun h => absurd (Int.le_refl _) h, fun _ => True.intro⟩
      · right
        have h0 : ¬ (((N.length + k) % 27 : Nat) : Int) = 0 := by omega
        refine ⟨[.str (N ++ List.replicate (k + 1) 0)], ⟨fun _ => ⟨by omega, ?_⟩, fun h => absurd h h0⟩, rfl, ⟨k + 1, rfl, by omega⟩, ?_⟩
        · rw [List.replicate_succ', ← List.append_assoc]
        · simp only [Bool.not_true, Bool.not_false, Bool.true_eq_false, SE.den, evU, evT, ev_le, ev_eq, ev_eqs, ev_eqb, ev_slt, ev_and, ev_or, ev_add, ev_sub, ev_mul, ev_tdiv, ev_tmod, ev_band, ev_bor, ev_bxor, ev_bandn, ev_shl, ev_shr, ev_cat, ev_byte, ev_idx, ev_cons, ev_snoc, ev_app, ev_take, ev_drop, ev_stake, ev_sdrop, ev_rep, leB_q, eqB_q, eqsB_q, not_q, i_if, b_if, l_if, s_if, i_int, b_bool, s_str, l_list, envL, List.getElem?_cons_succ, List.getElem?_cons_zero, List.getElem?_nil, Option.getD_some, Option.getD_none, Int.toNat_natCast, Int.toNat_zero, Int.reduceToNat, List.length_map, get_Li, get_Lb, get_Ls, set_Li, inj_Li, inj_Lb, inj_Ls, rows_i, rows_b, rows_s, Int.zero_add, iff_true, iff_false, and_true, true_and, Bool.false_eq_true, eq_self, not_true_eq_false, not_false_eq_true, List.length_replicate, DV.int.injEq, DV.bool.injEq, DV.str.injEq, DV.list.injEq, List.cons.injEq, f_ii_0, rows_ii, inj_Lii, f_ii_1, rows_ii, inj_Lii, List.length_append, List.length_replicate]; omega
end Go.Proofs.YtkfjgggiopegbaaDoor
