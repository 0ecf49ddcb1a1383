/- VisibleKeepsBits for 4 threads: a piece. No condition. -/
import Derived.Test.YtgimbkpfhdodgaaVK4T
namespace Go.Proofs.Ytgimbkpfhdodgaa
set_option linter.unusedVariables false
set_option linter.unusedSimpArgs false
set_option maxRecDepth 100000

set_option maxHeartbeats 8000000 in
theorem vK4_main : ∀ ds, ds.length = (clsOf [.one (.pl (.int .i64)), .one (.rows false [.int .u8]), .one (.rows false [.int .u8]), .one (.rows false [.int .u8]), .one (.rows false [.int .u8]), .one (.rows false [.int .u8])]).length → Wts (clsOf [.one (.pl (.int .i64)), .one (.rows false [.int .u8]), .one (.rows false [.int .u8]), .one (.rows false [.int .u8]), .one (.rows false [.int .u8]), .one (.rows false [.int .u8])]) ds → Facts (envL vK4Phi (nrmL (clsOf [.one (.pl (.int .i64)), .one (.rows false [.int .u8]), .one (.rows false [.int .u8]), .one (.rows false [.int .u8]), .one (.rows false [.int .u8]), .one (.rows false [.int .u8])]) ds)) (rng (-9223372036854775808) 9223372036854775807 (.var 0) ++ (rng 0 9223372036854775807 (.un .len (.var 1)) ++ (rng 0 9223372036854775807 (.un .len (.var 2)) ++ (rng 0 9223372036854775807 (.un .len (.var 3)) ++ (rng 0 9223372036854775807 (.un .len (.var 4)) ++ (rng 0 9223372036854775807 (.un .len (.var 5)) ++ ([]))))))) ∧ Sat vK4Phi vK4Tree (fun es => nrmL (clsOf [.one (.pl .bool)]) es = nrmL (clsOf [.one (.pl .bool)]) (vK4F ds)) (nrmL (clsOf [.one (.pl (.int .i64)), .one (.rows false [.int .u8]), .one (.rows false [.int .u8]), .one (.rows false [.int .u8]), .one (.rows false [.int .u8]), .one (.rows false [.int .u8])]) ds) := by
  intro ds hl hp
  obtain ⟨d0, d1, d2, d3, d4, d5, rfl⟩ := len6 hl
  obtain ⟨_, _, he, w0, hp⟩ := hp
  cases he
  have r0 : -9223372036854775808 ≤ d0.i ∧ d0.i ≤ 9223372036854775807 := wt_i w0 rfl rfl
  clear w0
  obtain ⟨_, _, he, w1, hp⟩ := hp
  cases he
  have b1 : ((d1.l.map DV.i).length : Int) ≤ 9223372036854775807 := by rw [List.length_map]; exact wt_len w1
  have v1 : ∀ v ∈ d1.l.map DV.i, 0 ≤ v ∧ v ≤ 255 := wt_ints w1 rfl rfl
  clear w1
  obtain ⟨_, _, he, w2, hp⟩ := hp
  cases he
  have b2 : ((d2.l.map DV.i).length : Int) ≤ 9223372036854775807 := by rw [List.length_map]; exact wt_len w2
  have v2 : ∀ v ∈ d2.l.map DV.i, 0 ≤ v ∧ v ≤ 255 := wt_ints w2 rfl rfl
  clear w2
  obtain ⟨_, _, he, w3, hp⟩ := hp
  cases he
  have b3 : ((d3.l.map DV.i).length : Int) ≤ 9223372036854775807 := by rw [List.length_map]; exact wt_len w3
  have v3 : ∀ v ∈ d3.l.map DV.i, 0 ≤ v ∧ v ≤ 255 := wt_ints w3 rfl rfl
  clear w3
  obtain ⟨_, _, he, w4, hp⟩ := hp
  cases he
  have b4 : ((d4.l.map DV.i).length : Int) ≤ 9223372036854775807 := by rw [List.length_map]; exact wt_len w4
  have v4 : ∀ v ∈ d4.l.map DV.i, 0 ≤ v ∧ v ≤ 255 := wt_ints w4 rfl rfl
  clear w4
  obtain ⟨_, _, he, w5, hp⟩ := hp
  cases he
  have b5 : ((d5.l.map DV.i).length : Int) ≤ 9223372036854775807 := by rw [List.length_map]; exact wt_len w5
  have v5 : ∀ v ∈ d5.l.map DV.i, 0 ≤ v ∧ v ≤ 255 := wt_ints w5 rfl rfl
  clear w5
  have hN : nrmL (clsOf [.one (.pl (.int .i64)), .one (.rows false [.int .u8]), .one (.rows false [.int .u8]), .one (.rows false [.int .u8]), .one (.rows false [.int .u8]), .one (.rows false [.int .u8])]) [d0, d1, d2, d3, d4, d5] = [.int d0.i, .list ((d1.l.map DV.i).map DV.int), .list ((d2.l.map DV.i).map DV.int), .list ((d3.l.map DV.i).map DV.int), .list ((d4.l.map DV.i).map DV.int), .list ((d5.l.map DV.i).map DV.int)] := by
    simp only [clsOf, Sh.cls, List.append_nil, List.cons_append, List.nil_append, nrmL, Cl.nrm, CK.nrm, map_Li]
  have hF : vK4F [d0, d1, d2, d3, d4, d5] = [.bool true] := rfl
  rw [hN, hF]
  clear hN hp hl hF
  generalize d0.i = x0 at r0 ⊢
  generalize d1.l.map DV.i = x1 at b1 v1 ⊢
  generalize d2.l.map DV.i = x2 at b2 v2 ⊢
  generalize d3.l.map DV.i = x3 at b3 v3 ⊢
  generalize d4.l.map DV.i = x4 at b4 v4 ⊢
  generalize d5.l.map DV.i = x5 at b5 v5 ⊢
  refine ⟨(rng_ok (e := .var 0) r0.1 r0.2 (rng_ok (e := .un .len (.var 1)) (Int.natCast_nonneg _) (by show ((x1.map _).length : Int) ≤ _; rw [List.length_map]; exact b1) (rng_ok (e := .un .len (.var 2)) (Int.natCast_nonneg _) (by show ((x2.map _).length : Int) ≤ _; rw [List.length_map]; exact b2) (rng_ok (e := .un .len (.var 3)) (Int.natCast_nonneg _) (by show ((x3.map _).length : Int) ≤ _; rw [List.length_map]; exact b3) (rng_ok (e := .un .len (.var 4)) (Int.natCast_nonneg _) (by show ((x4.map _).length : Int) ≤ _; rw [List.length_map]; exact b4) (rng_ok (e := .un .len (.var 5)) (Int.natCast_nonneg _) (by show ((x5.map _).length : Int) ≤ _; rw [List.length_map]; exact b5) (facts_nil _))))))), ?_⟩
  unfold vK4Tree
  simp only [Sat, clsOf, Sh.cls, List.append_nil, List.cons_append, List.nil_append, nrmL, Cl.nrm, CK.nrm, List.map_cons, List.map_nil, List.length_cons, List.length_nil, List.cons.injEq, DV.bool.injEq, DV.int.injEq, DV.list.injEq, DV.str.injEq, and_true, true_and, vK4N0, vK4N1, vK4N2, vK4N3, vK4N4, vK4N5, vK4N6, vK4N7, vK4N8, vK4N9, vK4N10, vK4N11, vK4N12, vK4N13, vK4N14, vK4N15, vK4N16, vK4N17, vK4N18, vK4N19, vK4N20, vK4N21, vK4N22, vK4N23, vK4N24, vK4N25, vK4N26, vK4N27, vK4N28, vK4N29, vK4N30, vK4N31, vK4N32, vK4N33, vK4N34, vK4N35, vK4N36, vK4N37, vK4N38, vK4N39, vK4N40, vK4N41, vK4N42, vK4N43, vK4N44, vK4N45, vK4N46, vK4N47, vK4N48, vK4N49, vK4N50, vK4N51, vK4N52, vK4N53, vK4N54, vK4N55, vK4N56, vK4N57, vK4N58, vK4N59, vK4N60, vK4N61, vK4N62, vK4N63, vK4N64, vK4N65, vK4N66, vK4N67, vK4N68, vK4N69, vK4N70, vK4N71, vK4N72, vK4N73, vK4N74, vK4N75]
  simp only [q_le, q_eq, q_eqs, q_eqb, q_and, q_or, q_not, q_bool, iff_true, iff_false, Bool.not_true, Bool.not_false, Bool.false_eq_true, Bool.true_eq_false, eq_self, Bool.not_not]
  refine ⟨fun _ => by simp [SE.den, evU, evB, envL, DV.i, DV.l, DV.b, lSane18F, lSane18E, vK4Phi], fun hl2 => ?_⟩
  have hl2 : (x5.length : Int) ≤ 200 := by simpa [SE.den, evU, evB, envL, DV.i, DV.l, DV.b] using hl2
  by_cases g0 : (x1.length : Int) ≤ 8
  rotate_left
  · exact .done ⟨fun h => by simp [SE.den, evU, evB, envL, DV.i, DV.l, DV.b, lSane18F, lSane18E, vK4Phi, g0], fun h => by simp [SE.den, evU, evB, envL, DV.i, DV.l, DV.b] at h⟩
  refine .step [.int 1] (by simp [SE.den, evU, evB, envL, DV.i, DV.l, DV.b, g0]) rfl ?_
  by_cases g1 : (x2.length : Int) ≤ 8
  rotate_left
  · exact .done ⟨fun h => by simp [SE.den, evU, evB, envL, DV.i, DV.l, DV.b, lSane18F, lSane18E, vK4Phi, g1], fun h => by simp [SE.den, evU, evB, envL, DV.i, DV.l, DV.b] at h⟩
  refine .step [.int 2] (by simp [SE.den, evU, evB, envL, DV.i, DV.l, DV.b, g1]) rfl ?_
  by_cases g2 : (x3.length : Int) ≤ 8
  rotate_left
  · exact .done ⟨fun h => by simp [SE.den, evU, evB, envL, DV.i, DV.l, DV.b, lSane18F, lSane18E, vK4Phi, g2], fun h => by simp [SE.den, evU, evB, envL, DV.i, DV.l, DV.b] at h⟩
  refine .step [.int 3] (by simp [SE.den, evU, evB, envL, DV.i, DV.l, DV.b, g2]) rfl ?_
  by_cases g3 : (x4.length : Int) ≤ 8
  rotate_left
  · exact .done ⟨fun h => by simp [SE.den, evU, evB, envL, DV.i, DV.l, DV.b, lSane18F, lSane18E, vK4Phi, g3], fun h => by simp [SE.den, evU, evB, envL, DV.i, DV.l, DV.b] at h⟩
  refine .step [.int 4] (by simp [SE.den, evU, evB, envL, DV.i, DV.l, DV.b, g3]) rfl ?_
  refine .done ⟨fun h => by simp [SE.den, evU, evB, envL, DV.i, DV.l, DV.b] at h, fun _ => ⟨rfl, ?_⟩⟩
  refine .step [.int 1, .list [.bool false, .bool false, .bool false, .bool false], .list [], .list [], .list []] (by simp [SE.den, evU, evB, envL, DV.i, DV.l, DV.b]) rfl ?_
  refine .step [.int 2, .list [.bool false, .bool false, .bool false, .bool false], .list [.bool false, .bool false, .bool false, .bool false], .list [], .list []] (by simp [SE.den, evU, evB, envL, DV.i, DV.l, DV.b]) rfl ?_
  refine .step [.int 3, .list [.bool false, .bool false, .bool false, .bool false], .list [.bool false, .bool false, .bool false, .bool false], .list [.bool false, .bool false, .bool false, .bool false], .list []] (by simp [SE.den, evU, evB, envL, DV.i, DV.l, DV.b]) rfl ?_
  refine .step [.int 4, .list [.bool false, .bool false, .bool false, .bool false], .list [.bool false, .bool false, .bool false, .bool false], .list [.bool false, .bool false, .bool false, .bool false], .list [.bool false, .bool false, .bool false, .bool false]] (by simp [SE.den, evU, evB, envL, DV.i, DV.l, DV.b]) rfl ?_
  refine .done ⟨fun h => by simp [SE.den, evU, evB, envL, DV.i, DV.l, DV.b] at h, fun _ => ⟨rfl, ?_⟩⟩
  simp only [List.cons_append, List.nil_append]
  let want : Nat → List Int := fun w => if w = 0 then x1 else if w = 1 then x2 else if w = 2 then x3 else if w = 3 then x4 else []
  refine rounds_inv (fun y => ∃ (t : Nat) (ins : Nat → List Bool) (logs : Nat → List Tib) (nexts : Nat → Nat) (m : List Int), y = [.int (t : Nat), .list ((ins 3).map .bool), .list ((ins 2).map .bool), .list ((ins 1).map .bool), .list ((ins 0).map .bool), .list ((logs 0).map encib), .list ((logs 1).map encib), .list ((logs 2).map encib), .list ((logs 3).map encib), .int (nexts 0 : Nat), .int (nexts 1 : Nat), .int (nexts 2 : Nat), .int (nexts 3 : Nat), .list (m.map .int)] ∧ t ≤ x5.length + 240 ∧ VkInv 4 want t ins logs nexts m) (fun y => 1000 - ((y[0]?).getD (DV.int 0)).i.toNat) ⟨0, _, _, _, _, rfl, Nat.zero_le _, vk_start 4 want⟩ ?_
  rintro y ⟨t, ins, logs, nexts, m, rfl, ht, hinv⟩
  have hti : (t : Int) ≤ x5.length + 240 := by omega
  have ht1 : IntKind.i64.wrap ((t : Int) + 1) = t + 1 := w64 (by omega) (by omega)
  have hln : IntKind.i64.wrap ((x5.length : Int) + 240) = x5.length + 240 := w64 (by omega) (by omega)
  have ht0 : (0 : Int) ≤ t := Int.natCast_nonneg _
  have hml : m.length = 28 := by obtain ⟨_, rfl, _⟩ := hinv; rw [vk_len]
  have qT := byte_at v5 t
  have uT : IntKind.i64.wrap (x5[t]?.getD 0) = x5[t]?.getD 0 := w64 (by omega) (by omega)
  have i0 : (ins 0).length = 4 ∧ (logs 0).length ≤ t ∧ nexts 0 ≤ x1.length := by obtain ⟨_, _, _, h⟩ := hinv; obtain ⟨a, b, c, _⟩ := h 0 (by decide); exact ⟨a, b, c⟩
  have q0 := byte_at v1 (nexts 0)
  have u0 : IntKind.i64.wrap (x1[nexts 0]?.getD 0) = x1[nexts 0]?.getD 0 := w64 (by omega) (by omega)
  have n0 : (0 : Int) ≤ nexts 0 := Int.natCast_nonneg _
  have nn0 : IntKind.i64.wrap ((nexts 0 : Int) + 1) = nexts 0 + 1 := w64 (by omega) (by omega)
  have k0 : kkB (x1[nexts 0]?.getD 0) < 4 := kk_lt q0.1
  have kk0 : (0 : Int) ≤ kkB (x1[nexts 0]?.getD 0) := Int.natCast_nonneg _
  have top0 := fun log => vk_top2 (n := 4) (w := 0) (by decide) (by decide) q0 (base := 20) (nn := 4) (ww := 0) rfl rfl rfl log
  have i1 : (ins 1).length = 4 ∧ (logs 1).length ≤ t ∧ nexts 1 ≤ x2.length := by obtain ⟨_, _, _, h⟩ := hinv; obtain ⟨a, b, c, _⟩ := h 1 (by decide); exact ⟨a, b, c⟩
  have q1 := byte_at v2 (nexts 1)
  have u1 : IntKind.i64.wrap (x2[nexts 1]?.getD 0) = x2[nexts 1]?.getD 0 := w64 (by omega) (by omega)
  have n1 : (0 : Int) ≤ nexts 1 := Int.natCast_nonneg _
  have nn1 : IntKind.i64.wrap ((nexts 1 : Int) + 1) = nexts 1 + 1 := w64 (by omega) (by omega)
  have k1 : kkB (x2[nexts 1]?.getD 0) < 4 := kk_lt q1.1
  have kk1 : (0 : Int) ≤ kkB (x2[nexts 1]?.getD 0) := Int.natCast_nonneg _
  have top1 := fun log => vk_top2 (n := 4) (w := 1) (by decide) (by decide) q1 (base := 20) (nn := 4) (ww := 1) rfl rfl rfl log
  have i2 : (ins 2).length = 4 ∧ (logs 2).length ≤ t ∧ nexts 2 ≤ x3.length := by obtain ⟨_, _, _, h⟩ := hinv; obtain ⟨a, b, c, _⟩ := h 2 (by decide); exact ⟨a, b, c⟩
  have q2 := byte_at v3 (nexts 2)
  have u2 : IntKind.i64.wrap (x3[nexts 2]?.getD 0) = x3[nexts 2]?.getD 0 := w64 (by omega) (by omega)
  have n2 : (0 : Int) ≤ nexts 2 := Int.natCast_nonneg _
  have nn2 : IntKind.i64.wrap ((nexts 2 : Int) + 1) = nexts 2 + 1 := w64 (by omega) (by omega)
  have k2 : kkB (x3[nexts 2]?.getD 0) < 4 := kk_lt q2.1
  have kk2 : (0 : Int) ≤ kkB (x3[nexts 2]?.getD 0) := Int.natCast_nonneg _
  have top2 := fun log => vk_top2 (n := 4) (w := 2) (by decide) (by decide) q2 (base := 20) (nn := 4) (ww := 2) rfl rfl rfl log
  have i3 : (ins 3).length = 4 ∧ (logs 3).length ≤ t ∧ nexts 3 ≤ x4.length := by obtain ⟨_, _, _, h⟩ := hinv; obtain ⟨a, b, c, _⟩ := h 3 (by decide); exact ⟨a, b, c⟩
  have q3 := byte_at v4 (nexts 3)
  have u3 : IntKind.i64.wrap (x4[nexts 3]?.getD 0) = x4[nexts 3]?.getD 0 := w64 (by omega) (by omega)
  have n3 : (0 : Int) ≤ nexts 3 := Int.natCast_nonneg _
  have nn3 : IntKind.i64.wrap ((nexts 3 : Int) + 1) = nexts 3 + 1 := w64 (by omega) (by omega)
  have k3 : kkB (x4[nexts 3]?.getD 0) < 4 := kk_lt q3.1
  have kk3 : (0 : Int) ≤ kkB (x4[nexts 3]?.getD 0) := Int.natCast_nonneg _
  have top3 := fun log => vk_top2 (n := 4) (w := 3) (by decide) (by decide) q3 (base := 20) (nn := 4) (ww := 3) rfl rfl rfl log
  simp only [Bool.not_true, Bool.not_false, Bool.true_eq_false, SE.den, evU, evT, ev_le, ev_eq, ev_eqs, ev_eqb, ev_slt, ev_and, ev_or, ev_add, ev_sub, ev_mul, ev_tdiv, ev_tmod, ev_band, ev_bor, ev_bxor, ev_bandn, ev_shl, ev_shr, ev_cat, ev_byte, ev_idx, ev_cons, ev_snoc, ev_app, ev_take, ev_drop, ev_stake, ev_sdrop, ev_rep, leB_q, eqB_q, eqsB_q, not_q, i_if, b_if, l_if, s_if, i_int, b_bool, s_str, l_list, envL, List.getElem?_cons_succ, List.getElem?_cons_zero, List.getElem?_nil, Option.getD_some, Option.getD_none, Int.toNat_natCast, Int.toNat_zero, Int.reduceToNat, List.length_map, get_Li, get_Lb, get_Ls, set_Li, inj_Li, inj_Lb, inj_Ls, rows_i, rows_b, rows_s, Int.zero_add, iff_true, iff_false, and_true, true_and, Bool.false_eq_true, eq_self, not_true_eq_false, not_false_eq_true, List.length_replicate, DV.int.injEq, DV.bool.injEq, DV.str.injEq, DV.list.injEq, List.cons.injEq, f_ib_0, rows_ib, inj_Lib, f_ib_1, rows_ib, inj_Lib, f_ii_0, rows_ii, inj_Lii, f_ii_1, rows_ii, inj_Lii, f_iii_0, rows_iii, inj_Liii, f_iii_1, rows_iii, inj_Liii, f_iii_2, rows_iii, inj_Liii, vK4Phi, lSane18F, lSane18E, rOfMF, rOfME, viNextF, viNextE, memDoF, memDoE, rRdF, rRdE, rWtF, rWtE, rBitF, rBitE, rIntsF, rIntsE, gi, gb, gs, gLi, gLu, gLb, gLs, dece_i, dece_b, dece_s, gLib, deces_ib, gLii, deces_ii, gLiii, deces_iii, nx_0, nx_1, nx_2, nx_3, nx_4, nx_5, nx_6, nx_7, nx_8, nx_9, nx_10, nx_11, nx_12, ht1, hln, uT, u0, top0, kk_eq q0, put_eq q0, nn0, u1, top1, kk_eq q1, put_eq q1, nn1, u2, top2, kk_eq q2, put_eq q2, nn2, u3, top3, kk_eq q3, put_eq q3, nn3]
  generalize hN0 : viM (putB (x1[nexts 0]?.getD 0)) (fun v => IntKind.i64.wrap (if putB (x1[nexts 0]?.getD 0) = true then withM v ((0 : Nat) : Int) else offM v ((0 : Nat) : Int))) ((cellK 4 (kkB (x1[nexts 0]?.getD 0)) : Nat) : Int) ((0 : Nat) : Int) (logs 0) = N0
  generalize hN1 : viM (putB (x2[nexts 1]?.getD 0)) (fun v => IntKind.i64.wrap (if putB (x2[nexts 1]?.getD 0) = true then withM v ((1 : Nat) : Int) else offM v ((1 : Nat) : Int))) ((cellK 4 (kkB (x2[nexts 1]?.getD 0)) : Nat) : Int) ((1 : Nat) : Int) (logs 1) = N1
  generalize hN2 : viM (putB (x3[nexts 2]?.getD 0)) (fun v => IntKind.i64.wrap (if putB (x3[nexts 2]?.getD 0) = true then withM v ((2 : Nat) : Int) else offM v ((2 : Nat) : Int))) ((cellK 4 (kkB (x3[nexts 2]?.getD 0)) : Nat) : Int) ((2 : Nat) : Int) (logs 2) = N2
  generalize hN3 : viM (putB (x4[nexts 3]?.getD 0)) (fun v => IntKind.i64.wrap (if putB (x4[nexts 3]?.getD 0) = true then withM v ((3 : Nat) : Int) else offM v ((3 : Nat) : Int))) ((cellK 4 (kkB (x4[nexts 3]?.getD 0)) : Nat) : Int) ((3 : Nat) : Int) (logs 3) = N3
  by_cases hT : (x5.length : Int) + 240 ≤ t
  · refine .inl ⟨fun h => absurd hT h, fun _ => ⟨rfl, ?_⟩⟩
    clear top0 top1 top2 top3
    have hz : List.replicate 28 (0 : Int) = vkP 4 (toldB 4 ins) 0 0 := (vkP_0 4 _).symm
    have hz' : [DV.int 0, DV.int 0, DV.int 0, DV.int 0, DV.int 0, DV.int 0, DV.int 0, DV.int 0, DV.int 0, DV.int 0, DV.int 0, DV.int 0, DV.int 0, DV.int 0, DV.int 0, DV.int 0, DV.int 0, DV.int 0, DV.int 0, DV.int 0, DV.int 0, DV.int 0, DV.int 0, DV.int 0, DV.int 0, DV.int 0, DV.int 0, DV.int 0] = (vkP 4 (toldB 4 ins) 0 0).map DV.int := by rw [← hz]; rfl
    rw [hz']
    have z0 : IntKind.i64.wrap 0 = 0 := w64 (by omega) (by omega)
    have z1 : IntKind.i64.wrap 1 = 1 := w64 (by omega) (by omega)
    have z2 : IntKind.i64.wrap 2 = 2 := w64 (by omega) (by omega)
    have z3 : IntKind.i64.wrap 3 = 3 := w64 (by omega) (by omega)
    have z4 : IntKind.i64.wrap 4 = 4 := w64 (by omega) (by omega)
    have p02 : placeM 20 2 0 4 2 = 22 := by decide
    have p03 : placeM 20 2 0 4 3 = 23 := by decide
    have p12 : placeM 20 2 1 4 2 = 26 := by decide
    have p13 : placeM 20 2 1 4 3 = 27 := by decide
    by_cases e0 : (x1.length : Int) ≤ nexts 0
    rotate_left
    · exact .done ⟨fun _ => by simp [SE.den, evU, evB, envL, DV.i, DV.l, DV.b, lSane18F, lSane18E, vK4Phi, e0], fun h => by simp [SE.den, evU, evB, envL, DV.i, DV.l, DV.b] at h⟩
    refine .step [.int 1, .list ((vkP 4 (toldB 4 ins) 1 0).map .int)] ?_ rfl ?_
    · refine ⟨fun _ => ?_, fun h => by simp [SE.den, evU, evB, envL, DV.i, DV.l, DV.b] at h⟩
      refine ⟨fun h => by simp [SE.den, evU, evB, envL, DV.i, DV.l, DV.b] at h, fun _ => ?_⟩
      refine ⟨fun h => by simp [SE.den, evU, evB, envL, DV.i, DV.l, DV.b] at h, fun _ => ?_⟩
      refine ⟨fun h => by simp [SE.den, evU, evB, envL, DV.i, DV.l, DV.b] at h, fun _ => ?_⟩
      refine ⟨fun _ => ?_, fun h => by simp [SE.den, evU, evB, envL, DV.i, DV.l, DV.b] at h⟩
      refine ⟨fun h => h e0, fun _ => ⟨rfl, ?_⟩⟩
      refine rounds_at 4 (fun k => [.int k, .list ((vkP 4 (toldB 4 ins) 0 k).map .int)]) rfl (fun _ => rfl) (fun k hk => ?_) ?_
      · have hlen := fun k => vkP_len 4 (toldB 4 ins) 0 k
        simp only [List.cons_append, List.nil_append, Bool.not_true, Bool.not_false, Bool.true_eq_false, SE.den, evU, evT, ev_le, ev_eq, ev_eqs, ev_eqb, ev_slt, ev_and, ev_or, ev_add, ev_sub, ev_mul, ev_tdiv, ev_tmod, ev_band, ev_bor, ev_bxor, ev_bandn, ev_shl, ev_shr, ev_cat, ev_byte, ev_idx, ev_cons, ev_snoc, ev_app, ev_take, ev_drop, ev_stake, ev_sdrop, ev_rep, leB_q, eqB_q, eqsB_q, not_q, i_if, b_if, l_if, s_if, i_int, b_bool, s_str, l_list, envL, List.getElem?_cons_succ, List.getElem?_cons_zero, List.getElem?_nil, Option.getD_some, Option.getD_none, Int.toNat_natCast, Int.toNat_zero, Int.reduceToNat, List.length_map, get_Li, get_Lb, get_Ls, set_Li, inj_Li, inj_Lb, inj_Ls, rows_i, rows_b, rows_s, Int.zero_add, iff_true, iff_false, and_true, true_and, Bool.false_eq_true, eq_self, not_true_eq_false, not_false_eq_true, List.length_replicate, DV.int.injEq, DV.bool.injEq, DV.str.injEq, DV.list.injEq, List.cons.injEq, f_ib_0, rows_ib, inj_Lib, f_ib_1, rows_ib, inj_Lib, f_ii_0, rows_ii, inj_Lii, f_ii_1, rows_ii, inj_Lii, f_iii_0, rows_iii, inj_Liii, f_iii_1, rows_iii, inj_Liii, f_iii_2, rows_iii, inj_Liii, hlen]
        match k, hk with
        | 0, _ =>
          have ht : toldB 4 ins 0 0 = (ins 0)[0]?.getD false := by simp [toldB]
          cases hc : (ins 0)[0]?.getD false with
          | false =>
            have hno := vkP_no (n := 4) (ht.trans hc)
            simp [i0.1, hc, z0, z1, z2, z3, z4, hno]
          | true =>
            obtain ⟨y1, y2, y3⟩ := vkP_yes (n := 4) (w := 0) (k := 0) (by decide) (by decide) (ht.trans hc)
            rw [show cellK 4 0 = 22 from rfl] at y1 y2 y3
            rw [show (2 : Int) ^ 0 = 1 from rfl] at y1
            have hw := w64 (n := (vkP 4 (toldB 4 ins) 0 0)[22]?.getD 0 + 1) (by omega) (by omega)
            simp [i0.1, hc, z0, z1, z2, z3, z4, p02, p03, p12, p13, hw, y1]
        | 1, _ =>
          have ht : toldB 4 ins 0 1 = (ins 0)[1]?.getD false := by simp [toldB]
          cases hc : (ins 0)[1]?.getD false with
          | false =>
            have hno := vkP_no (n := 4) (ht.trans hc)
            simp [i0.1, hc, z0, z1, z2, z3, z4, hno]
          | true =>
            obtain ⟨y1, y2, y3⟩ := vkP_yes (n := 4) (w := 0) (k := 1) (by decide) (by decide) (ht.trans hc)
            rw [show cellK 4 1 = 23 from rfl] at y1 y2 y3
            rw [show (2 : Int) ^ 0 = 1 from rfl] at y1
            have hw := w64 (n := (vkP 4 (toldB 4 ins) 0 1)[23]?.getD 0 + 1) (by omega) (by omega)
            simp [i0.1, hc, z0, z1, z2, z3, z4, p02, p03, p12, p13, hw, y1]
        | 2, _ =>
          have ht : toldB 4 ins 0 2 = (ins 0)[2]?.getD false := by simp [toldB]
          cases hc : (ins 0)[2]?.getD false with
          | false =>
            have hno := vkP_no (n := 4) (ht.trans hc)
            simp [i0.1, hc, z0, z1, z2, z3, z4, hno]
          | true =>
            obtain ⟨y1, y2, y3⟩ := vkP_yes (n := 4) (w := 0) (k := 2) (by decide) (by decide) (ht.trans hc)
            rw [show cellK 4 2 = 26 from rfl] at y1 y2 y3
            rw [show (2 : Int) ^ 0 = 1 from rfl] at y1
            have hw := w64 (n := (vkP 4 (toldB 4 ins) 0 2)[26]?.getD 0 + 1) (by omega) (by omega)
            simp [i0.1, hc, z0, z1, z2, z3, z4, p02, p03, p12, p13, hw, y1]
        | 3, _ =>
          have ht : toldB 4 ins 0 3 = (ins 0)[3]?.getD false := by simp [toldB]
          cases hc : (ins 0)[3]?.getD false with
          | false =>
            have hno := vkP_no (n := 4) (ht.trans hc)
            simp [i0.1, hc, z0, z1, z2, z3, z4, hno]
          | true =>
            obtain ⟨y1, y2, y3⟩ := vkP_yes (n := 4) (w := 0) (k := 3) (by decide) (by decide) (ht.trans hc)
            rw [show cellK 4 3 = 27 from rfl] at y1 y2 y3
            rw [show (2 : Int) ^ 0 = 1 from rfl] at y1
            have hw := w64 (n := (vkP 4 (toldB 4 ins) 0 3)[27]?.getD 0 + 1) (by omega) (by omega)
            simp [i0.1, hc, z0, z1, z2, z3, z4, p02, p03, p12, p13, hw, y1]
      · simp only [List.cons_append, List.nil_append, Bool.not_true, Bool.not_false, Bool.true_eq_false, SE.den, evU, evT, ev_le, ev_eq, ev_eqs, ev_eqb, ev_slt, ev_and, ev_or, ev_add, ev_sub, ev_mul, ev_tdiv, ev_tmod, ev_band, ev_bor, ev_bxor, ev_bandn, ev_shl, ev_shr, ev_cat, ev_byte, ev_idx, ev_cons, ev_snoc, ev_app, ev_take, ev_drop, ev_stake, ev_sdrop, ev_rep, leB_q, eqB_q, eqsB_q, not_q, i_if, b_if, l_if, s_if, i_int, b_bool, s_str, l_list, envL, List.getElem?_cons_succ, List.getElem?_cons_zero, List.getElem?_nil, Option.getD_some, Option.getD_none, Int.toNat_natCast, Int.toNat_zero, Int.reduceToNat, List.length_map, get_Li, get_Lb, get_Ls, set_Li, inj_Li, inj_Lb, inj_Ls, rows_i, rows_b, rows_s, Int.zero_add, iff_true, iff_false, and_true, true_and, Bool.false_eq_true, eq_self, not_true_eq_false, not_false_eq_true, List.length_replicate, DV.int.injEq, DV.bool.injEq, DV.str.injEq, DV.list.injEq, List.cons.injEq, f_ib_0, rows_ib, inj_Lib, f_ib_1, rows_ib, inj_Lib, f_ii_0, rows_ii, inj_Lii, f_ii_1, rows_ii, inj_Lii, f_iii_0, rows_iii, inj_Liii, f_iii_1, rows_iii, inj_Liii, f_iii_2, rows_iii, inj_Liii, vkP_next]
        simp
    by_cases e1 : (x2.length : Int) ≤ nexts 1
    rotate_left
    · exact .done ⟨fun _ => by simp [SE.den, evU, evB, envL, DV.i, DV.l, DV.b, lSane18F, lSane18E, vK4Phi, e1], fun h => by simp [SE.den, evU, evB, envL, DV.i, DV.l, DV.b] at h⟩
    refine .step [.int 2, .list ((vkP 4 (toldB 4 ins) 2 0).map .int)] ?_ rfl ?_
    · refine ⟨fun _ => ?_, fun h => by simp [SE.den, evU, evB, envL, DV.i, DV.l, DV.b] at h⟩
      refine ⟨fun h => by simp [SE.den, evU, evB, envL, DV.i, DV.l, DV.b] at h, fun _ => ?_⟩
      refine ⟨fun h => by simp [SE.den, evU, evB, envL, DV.i, DV.l, DV.b] at h, fun _ => ?_⟩
      refine ⟨fun _ => ?_, fun h => by simp [SE.den, evU, evB, envL, DV.i, DV.l, DV.b] at h⟩
      refine ⟨fun h => h e1, fun _ => ⟨rfl, ?_⟩⟩
      refine rounds_at 4 (fun k => [.int k, .list ((vkP 4 (toldB 4 ins) 1 k).map .int)]) rfl (fun _ => rfl) (fun k hk => ?_) ?_
      · have hlen := fun k => vkP_len 4 (toldB 4 ins) 1 k
        simp only [List.cons_append, List.nil_append, Bool.not_true, Bool.not_false, Bool.true_eq_false, SE.den, evU, evT, ev_le, ev_eq, ev_eqs, ev_eqb, ev_slt, ev_and, ev_or, ev_add, ev_sub, ev_mul, ev_tdiv, ev_tmod, ev_band, ev_bor, ev_bxor, ev_bandn, ev_shl, ev_shr, ev_cat, ev_byte, ev_idx, ev_cons, ev_snoc, ev_app, ev_take, ev_drop, ev_stake, ev_sdrop, ev_rep, leB_q, eqB_q, eqsB_q, not_q, i_if, b_if, l_if, s_if, i_int, b_bool, s_str, l_list, envL, List.getElem?_cons_succ, List.getElem?_cons_zero, List.getElem?_nil, Option.getD_some, Option.getD_none, Int.toNat_natCast, Int.toNat_zero, Int.reduceToNat, List.length_map, get_Li, get_Lb, get_Ls, set_Li, inj_Li, inj_Lb, inj_Ls, rows_i, rows_b, rows_s, Int.zero_add, iff_true, iff_false, and_true, true_and, Bool.false_eq_true, eq_self, not_true_eq_false, not_false_eq_true, List.length_replicate, DV.int.injEq, DV.bool.injEq, DV.str.injEq, DV.list.injEq, List.cons.injEq, f_ib_0, rows_ib, inj_Lib, f_ib_1, rows_ib, inj_Lib, f_ii_0, rows_ii, inj_Lii, f_ii_1, rows_ii, inj_Lii, f_iii_0, rows_iii, inj_Liii, f_iii_1, rows_iii, inj_Liii, f_iii_2, rows_iii, inj_Liii, hlen]
        match k, hk with
        | 0, _ =>
          have ht : toldB 4 ins 1 0 = (ins 1)[0]?.getD false := by simp [toldB]
          cases hc : (ins 1)[0]?.getD false with
          | false =>
            have hno := vkP_no (n := 4) (ht.trans hc)
            simp [i1.1, hc, z0, z1, z2, z3, z4, hno]
          | true =>
            obtain ⟨y1, y2, y3⟩ := vkP_yes (n := 4) (w := 1) (k := 0) (by decide) (by decide) (ht.trans hc)
            rw [show cellK 4 0 = 22 from rfl] at y1 y2 y3
            rw [show (2 : Int) ^ 1 = 2 from rfl] at y1
            have hw := w64 (n := (vkP 4 (toldB 4 ins) 1 0)[22]?.getD 0 + 2) (by omega) (by omega)
            simp [i1.1, hc, z0, z1, z2, z3, z4, p02, p03, p12, p13, hw, y1]
        | 1, _ =>
          have ht : toldB 4 ins 1 1 = (ins 1)[1]?.getD false := by simp [toldB]
          cases hc : (ins 1)[1]?.getD false with
          | false =>
            have hno := vkP_no (n := 4) (ht.trans hc)
            simp [i1.1, hc, z0, z1, z2, z3, z4, hno]
          | true =>
            obtain ⟨y1, y2, y3⟩ := vkP_yes (n := 4) (w := 1) (k := 1) (by decide) (by decide) (ht.trans hc)
            rw [show cellK 4 1 = 23 from rfl] at y1 y2 y3
            rw [show (2 : Int) ^ 1 = 2 from rfl] at y1
            have hw := w64 (n := (vkP 4 (toldB 4 ins) 1 1)[23]?.getD 0 + 2) (by omega) (by omega)
            simp [i1.1, hc, z0, z1, z2, z3, z4, p02, p03, p12, p13, hw, y1]
        | 2, _ =>
          have ht : toldB 4 ins 1 2 = (ins 1)[2]?.getD false := by simp [toldB]
          cases hc : (ins 1)[2]?.getD false with
          | false =>
            have hno := vkP_no (n := 4) (ht.trans hc)
            simp [i1.1, hc, z0, z1, z2, z3, z4, hno]
          | true =>
            obtain ⟨y1, y2, y3⟩ := vkP_yes (n := 4) (w := 1) (k := 2) (by decide) (by decide) (ht.trans hc)
            rw [show cellK 4 2 = 26 from rfl] at y1 y2 y3
            rw [show (2 : Int) ^ 1 = 2 from rfl] at y1
            have hw := w64 (n := (vkP 4 (toldB 4 ins) 1 2)[26]?.getD 0 + 2) (by omega) (by omega)
            simp [i1.1, hc, z0, z1, z2, z3, z4, p02, p03, p12, p13, hw, y1]
        | 3, _ =>
          have ht : toldB 4 ins 1 3 = (ins 1)[3]?.getD false := by simp [toldB]
          cases hc : (ins 1)[3]?.getD false with
          | false =>
            have hno := vkP_no (n := 4) (ht.trans hc)
            simp [i1.1, hc, z0, z1, z2, z3, z4, hno]
          | true =>
            obtain ⟨y1, y2, y3⟩ := vkP_yes (n := 4) (w := 1) (k := 3) (by decide) (by decide) (ht.trans hc)
            rw [show cellK 4 3 = 27 from rfl] at y1 y2 y3
            rw [show (2 : Int) ^ 1 = 2 from rfl] at y1
            have hw := w64 (n := (vkP 4 (toldB 4 ins) 1 3)[27]?.getD 0 + 2) (by omega) (by omega)
            simp [i1.1, hc, z0, z1, z2, z3, z4, p02, p03, p12, p13, hw, y1]
      · simp only [List.cons_append, List.nil_append, Bool.not_true, Bool.not_false, Bool.true_eq_false, SE.den, evU, evT, ev_le, ev_eq, ev_eqs, ev_eqb, ev_slt, ev_and, ev_or, ev_add, ev_sub, ev_mul, ev_tdiv, ev_tmod, ev_band, ev_bor, ev_bxor, ev_bandn, ev_shl, ev_shr, ev_cat, ev_byte, ev_idx, ev_cons, ev_snoc, ev_app, ev_take, ev_drop, ev_stake, ev_sdrop, ev_rep, leB_q, eqB_q, eqsB_q, not_q, i_if, b_if, l_if, s_if, i_int, b_bool, s_str, l_list, envL, List.getElem?_cons_succ, List.getElem?_cons_zero, List.getElem?_nil, Option.getD_some, Option.getD_none, Int.toNat_natCast, Int.toNat_zero, Int.reduceToNat, List.length_map, get_Li, get_Lb, get_Ls, set_Li, inj_Li, inj_Lb, inj_Ls, rows_i, rows_b, rows_s, Int.zero_add, iff_true, iff_false, and_true, true_and, Bool.false_eq_true, eq_self, not_true_eq_false, not_false_eq_true, List.length_replicate, DV.int.injEq, DV.bool.injEq, DV.str.injEq, DV.list.injEq, List.cons.injEq, f_ib_0, rows_ib, inj_Lib, f_ib_1, rows_ib, inj_Lib, f_ii_0, rows_ii, inj_Lii, f_ii_1, rows_ii, inj_Lii, f_iii_0, rows_iii, inj_Liii, f_iii_1, rows_iii, inj_Liii, f_iii_2, rows_iii, inj_Liii, vkP_next]
        simp
    by_cases e2 : (x3.length : Int) ≤ nexts 2
    rotate_left
    · exact .done ⟨fun _ => by simp [SE.den, evU, evB, envL, DV.i, DV.l, DV.b, lSane18F, lSane18E, vK4Phi, e2], fun h => by simp [SE.den, evU, evB, envL, DV.i, DV.l, DV.b] at h⟩
    refine .step [.int 3, .list ((vkP 4 (toldB 4 ins) 3 0).map .int)] ?_ rfl ?_
    · refine ⟨fun _ => ?_, fun h => by simp [SE.den, evU, evB, envL, DV.i, DV.l, DV.b] at h⟩
      refine ⟨fun h => by simp [SE.den, evU, evB, envL, DV.i, DV.l, DV.b] at h, fun _ => ?_⟩
      refine ⟨fun _ => ?_, fun h => by simp [SE.den, evU, evB, envL, DV.i, DV.l, DV.b] at h⟩
      refine ⟨fun h => h e2, fun _ => ⟨rfl, ?_⟩⟩
      refine rounds_at 4 (fun k => [.int k, .list ((vkP 4 (toldB 4 ins) 2 k).map .int)]) rfl (fun _ => rfl) (fun k hk => ?_) ?_
      · have hlen := fun k => vkP_len 4 (toldB 4 ins) 2 k
        simp only [List.cons_append, List.nil_append, Bool.not_true, Bool.not_false, Bool.true_eq_false, SE.den, evU, evT, ev_le, ev_eq, ev_eqs, ev_eqb, ev_slt, ev_and, ev_or, ev_add, ev_sub, ev_mul, ev_tdiv, ev_tmod, ev_band, ev_bor, ev_bxor, ev_bandn, ev_shl, ev_shr, ev_cat, ev_byte, ev_idx, ev_cons, ev_snoc, ev_app, ev_take, ev_drop, ev_stake, ev_sdrop, ev_rep, leB_q, eqB_q, eqsB_q, not_q, i_if, b_if, l_if, s_if, i_int, b_bool, s_str, l_list, envL, List.getElem?_cons_succ, List.getElem?_cons_zero, List.getElem?_nil, Option.getD_some, Option.getD_none, Int.toNat_natCast, Int.toNat_zero, Int.reduceToNat, List.length_map, get_Li, get_Lb, get_Ls, set_Li, inj_Li, inj_Lb, inj_Ls, rows_i, rows_b, rows_s, Int.zero_add, iff_true, iff_false, and_true, true_and, Bool.false_eq_true, eq_self, not_true_eq_false, not_false_eq_true, List.length_replicate, DV.int.injEq, DV.bool.injEq, DV.str.injEq, DV.list.injEq, List.cons.injEq, f_ib_0, rows_ib, inj_Lib, f_ib_1, rows_ib, inj_Lib, f_ii_0, rows_ii, inj_Lii, f_ii_1, rows_ii, inj_Lii, f_iii_0, rows_iii, inj_Liii, f_iii_1, rows_iii, inj_Liii, f_iii_2, rows_iii, inj_Liii, hlen]
        match k, hk with
        | 0, _ =>
          have ht : toldB 4 ins 2 0 = (ins 2)[0]?.getD false := by simp [toldB]
          cases hc : (ins 2)[0]?.getD false with
          | false =>
            have hno := vkP_no (n := 4) (ht.trans hc)
            simp [i2.1, hc, z0, z1, z2, z3, z4, hno]
          | true =>
            obtain ⟨y1, y2, y3⟩ := vkP_yes (n := 4) (w := 2) (k := 0) (by decide) (by decide) (ht.trans hc)
            rw [show cellK 4 0 = 22 from rfl] at y1 y2 y3
            rw [show (2 : Int) ^ 2 = 4 from rfl] at y1
            have hw := w64 (n := (vkP 4 (toldB 4 ins) 2 0)[22]?.getD 0 + 4) (by omega) (by omega)
            simp [i2.1, hc, z0, z1, z2, z3, z4, p02, p03, p12, p13, hw, y1]
        | 1, _ =>
          have ht : toldB 4 ins 2 1 = (ins 2)[1]?.getD false := by simp [toldB]
          cases hc : (ins 2)[1]?.getD false with
          | false =>
            have hno := vkP_no (n := 4) (ht.trans hc)
            simp [i2.1, hc, z0, z1, z2, z3, z4, hno]
          | true =>
            obtain ⟨y1, y2, y3⟩ := vkP_yes (n := 4) (w := 2) (k := 1) (by decide) (by decide) (ht.trans hc)
            rw [show cellK 4 1 = 23 from rfl] at y1 y2 y3
            rw [show (2 : Int) ^ 2 = 4 from rfl] at y1
            have hw := w64 (n := (vkP 4 (toldB 4 ins) 2 1)[23]?.getD 0 + 4) (by omega) (by omega)
            simp [i2.1, hc, z0, z1, z2, z3, z4, p02, p03, p12, p13, hw, y1]
        | 2, _ =>
          have ht : toldB 4 ins 2 2 = (ins 2)[2]?.getD false := by simp [toldB]
          cases hc : (ins 2)[2]?.getD false with
          | false =>
            have hno := vkP_no (n := 4) (ht.trans hc)
            simp [i2.1, hc, z0, z1, z2, z3, z4, hno]
          | true =>
            obtain ⟨y1, y2, y3⟩ := vkP_yes (n := 4) (w := 2) (k := 2) (by decide) (by decide) (ht.trans hc)
            rw [show cellK 4 2 = 26 from rfl] at y1 y2 y3
            rw [show (2 : Int) ^ 2 = 4 from rfl] at y1
            have hw := w64 (n := (vkP 4 (toldB 4 ins) 2 2)[26]?.getD 0 + 4) (by omega) (by omega)
            simp [i2.1, hc, z0, z1, z2, z3, z4, p02, p03, p12, p13, hw, y1]
        | 3, _ =>
          have ht : toldB 4 ins 2 3 = (ins 2)[3]?.getD false := by simp [toldB]
          cases hc : (ins 2)[3]?.getD false with
          | false =>
            have hno := vkP_no (n := 4) (ht.trans hc)
            simp [i2.1, hc, z0, z1, z2, z3, z4, hno]
          | true =>
            obtain ⟨y1, y2, y3⟩ := vkP_yes (n := 4) (w := 2) (k := 3) (by decide) (by decide) (ht.trans hc)
            rw [show cellK 4 3 = 27 from rfl] at y1 y2 y3
            rw [show (2 : Int) ^ 2 = 4 from rfl] at y1
            have hw := w64 (n := (vkP 4 (toldB 4 ins) 2 3)[27]?.getD 0 + 4) (by omega) (by omega)
            simp [i2.1, hc, z0, z1, z2, z3, z4, p02, p03, p12, p13, hw, y1]
      · simp only [List.cons_append, List.nil_append, Bool.not_true, Bool.not_false, Bool.true_eq_false, SE.den, evU, evT, ev_le, ev_eq, ev_eqs, ev_eqb, ev_slt, ev_and, ev_or, ev_add, ev_sub, ev_mul, ev_tdiv, ev_tmod, ev_band, ev_bor, ev_bxor, ev_bandn, ev_shl, ev_shr, ev_cat, ev_byte, ev_idx, ev_cons, ev_snoc, ev_app, ev_take, ev_drop, ev_stake, ev_sdrop, ev_rep, leB_q, eqB_q, eqsB_q, not_q, i_if, b_if, l_if, s_if, i_int, b_bool, s_str, l_list, envL, List.getElem?_cons_succ, List.getElem?_cons_zero, List.getElem?_nil, Option.getD_some, Option.getD_none, Int.toNat_natCast, Int.toNat_zero, Int.reduceToNat, List.length_map, get_Li, get_Lb, get_Ls, set_Li, inj_Li, inj_Lb, inj_Ls, rows_i, rows_b, rows_s, Int.zero_add, iff_true, iff_false, and_true, true_and, Bool.false_eq_true, eq_self, not_true_eq_false, not_false_eq_true, List.length_replicate, DV.int.injEq, DV.bool.injEq, DV.str.injEq, DV.list.injEq, List.cons.injEq, f_ib_0, rows_ib, inj_Lib, f_ib_1, rows_ib, inj_Lib, f_ii_0, rows_ii, inj_Lii, f_ii_1, rows_ii, inj_Lii, f_iii_0, rows_iii, inj_Liii, f_iii_1, rows_iii, inj_Liii, f_iii_2, rows_iii, inj_Liii, vkP_next]
        simp
    by_cases e3 : (x4.length : Int) ≤ nexts 3
    rotate_left
    · exact .done ⟨fun _ => by simp [SE.den, evU, evB, envL, DV.i, DV.l, DV.b, lSane18F, lSane18E, vK4Phi, e3], fun h => by simp [SE.den, evU, evB, envL, DV.i, DV.l, DV.b] at h⟩
    refine .step [.int 4, .list ((vkP 4 (toldB 4 ins) 4 0).map .int)] ?_ rfl ?_
    · refine ⟨fun _ => ?_, fun h => by simp [SE.den, evU, evB, envL, DV.i, DV.l, DV.b] at h⟩
      refine ⟨fun _ => ?_, fun h => by simp [SE.den, evU, evB, envL, DV.i, DV.l, DV.b] at h⟩
      refine ⟨fun h => h e3, fun _ => ⟨rfl, ?_⟩⟩
      refine rounds_at 4 (fun k => [.int k, .list ((vkP 4 (toldB 4 ins) 3 k).map .int)]) rfl (fun _ => rfl) (fun k hk => ?_) ?_
      · have hlen := fun k => vkP_len 4 (toldB 4 ins) 3 k
        simp only [List.cons_append, List.nil_append, Bool.not_true, Bool.not_false, Bool.true_eq_false, SE.den, evU, evT, ev_le, ev_eq, ev_eqs, ev_eqb, ev_slt, ev_and, ev_or, ev_add, ev_sub, ev_mul, ev_tdiv, ev_tmod, ev_band, ev_bor, ev_bxor, ev_bandn, ev_shl, ev_shr, ev_cat, ev_byte, ev_idx, ev_cons, ev_snoc, ev_app, ev_take, ev_drop, ev_stake, ev_sdrop, ev_rep, leB_q, eqB_q, eqsB_q, not_q, i_if, b_if, l_if, s_if, i_int, b_bool, s_str, l_list, envL, List.getElem?_cons_succ, List.getElem?_cons_zero, List.getElem?_nil, Option.getD_some, Option.getD_none, Int.toNat_natCast, Int.toNat_zero, Int.reduceToNat, List.length_map, get_Li, get_Lb, get_Ls, set_Li, inj_Li, inj_Lb, inj_Ls, rows_i, rows_b, rows_s, Int.zero_add, iff_true, iff_false, and_true, true_and, Bool.false_eq_true, eq_self, not_true_eq_false, not_false_eq_true, List.length_replicate, DV.int.injEq, DV.bool.injEq, DV.str.injEq, DV.list.injEq, List.cons.injEq, f_ib_0, rows_ib, inj_Lib, f_ib_1, rows_ib, inj_Lib, f_ii_0, rows_ii, inj_Lii, f_ii_1, rows_ii, inj_Lii, f_iii_0, rows_iii, inj_Liii, f_iii_1, rows_iii, inj_Liii, f_iii_2, rows_iii, inj_Liii, hlen]
        match k, hk with
        | 0, _ =>
          have ht : toldB 4 ins 3 0 = (ins 3)[0]?.getD false := by simp [toldB]
          cases hc : (ins 3)[0]?.getD false with
          | false =>
            have hno := vkP_no (n := 4) (ht.trans hc)
            simp [i3.1, hc, z0, z1, z2, z3, z4, hno]
          | true =>
            obtain ⟨y1, y2, y3⟩ := vkP_yes (n := 4) (w := 3) (k := 0) (by decide) (by decide) (ht.trans hc)
            rw [show cellK 4 0 = 22 from rfl] at y1 y2 y3
            rw [show (2 : Int) ^ 3 = 8 from rfl] at y1
            have hw := w64 (n := (vkP 4 (toldB 4 ins) 3 0)[22]?.getD 0 + 8) (by omega) (by omega)
            simp [i3.1, hc, z0, z1, z2, z3, z4, p02, p03, p12, p13, hw, y1]
        | 1, _ =>
          have ht : toldB 4 ins 3 1 = (ins 3)[1]?.getD false := by simp [toldB]
          cases hc : (ins 3)[1]?.getD false with
          | false =>
            have hno := vkP_no (n := 4) (ht.trans hc)
            simp [i3.1, hc, z0, z1, z2, z3, z4, hno]
          | true =>
            obtain ⟨y1, y2, y3⟩ := vkP_yes (n := 4) (w := 3) (k := 1) (by decide) (by decide) (ht.trans hc)
            rw [show cellK 4 1 = 23 from rfl] at y1 y2 y3
            rw [show (2 : Int) ^ 3 = 8 from rfl] at y1
            have hw := w64 (n := (vkP 4 (toldB 4 ins) 3 1)[23]?.getD 0 + 8) (by omega) (by omega)
            simp [i3.1, hc, z0, z1, z2, z3, z4, p02, p03, p12, p13, hw, y1]
        | 2, _ =>
          have ht : toldB 4 ins 3 2 = (ins 3)[2]?.getD false := by simp [toldB]
          cases hc : (ins 3)[2]?.getD false with
          | false =>
            have hno := vkP_no (n := 4) (ht.trans hc)
            simp [i3.1, hc, z0, z1, z2, z3, z4, hno]
          | true =>
            obtain ⟨y1, y2, y3⟩ := vkP_yes (n := 4) (w := 3) (k := 2) (by decide) (by decide) (ht.trans hc)
            rw [show cellK 4 2 = 26 from rfl] at y1 y2 y3
            rw [show (2 : Int) ^ 3 = 8 from rfl] at y1
            have hw := w64 (n := (vkP 4 (toldB 4 ins) 3 2)[26]?.getD 0 + 8) (by omega) (by omega)
            simp [i3.1, hc, z0, z1, z2, z3, z4, p02, p03, p12, p13, hw, y1]
        | 3, _ =>
          have ht : toldB 4 ins 3 3 = (ins 3)[3]?.getD false := by simp [toldB]
          cases hc : (ins 3)[3]?.getD false with
          | false =>
            have hno := vkP_no (n := 4) (ht.trans hc)
            simp [i3.1, hc, z0, z1, z2, z3, z4, hno]
          | true =>
            obtain ⟨y1, y2, y3⟩ := vkP_yes (n := 4) (w := 3) (k := 3) (by decide) (by decide) (ht.trans hc)
            rw [show cellK 4 3 = 27 from rfl] at y1 y2 y3
            rw [show (2 : Int) ^ 3 = 8 from rfl] at y1
            have hw := w64 (n := (vkP 4 (toldB 4 ins) 3 3)[27]?.getD 0 + 8) (by omega) (by omega)
            simp [i3.1, hc, z0, z1, z2, z3, z4, p02, p03, p12, p13, hw, y1]
      · simp only [List.cons_append, List.nil_append, Bool.not_true, Bool.not_false, Bool.true_eq_false, SE.den, evU, evT, ev_le, ev_eq, ev_eqs, ev_eqb, ev_slt, ev_and, ev_or, ev_add, ev_sub, ev_mul, ev_tdiv, ev_tmod, ev_band, ev_bor, ev_bxor, ev_bandn, ev_shl, ev_shr, ev_cat, ev_byte, ev_idx, ev_cons, ev_snoc, ev_app, ev_take, ev_drop, ev_stake, ev_sdrop, ev_rep, leB_q, eqB_q, eqsB_q, not_q, i_if, b_if, l_if, s_if, i_int, b_bool, s_str, l_list, envL, List.getElem?_cons_succ, List.getElem?_cons_zero, List.getElem?_nil, Option.getD_some, Option.getD_none, Int.toNat_natCast, Int.toNat_zero, Int.reduceToNat, List.length_map, get_Li, get_Lb, get_Ls, set_Li, inj_Li, inj_Lb, inj_Ls, rows_i, rows_b, rows_s, Int.zero_add, iff_true, iff_false, and_true, true_and, Bool.false_eq_true, eq_self, not_true_eq_false, not_false_eq_true, List.length_replicate, DV.int.injEq, DV.bool.injEq, DV.str.injEq, DV.list.injEq, List.cons.injEq, f_ib_0, rows_ib, inj_Lib, f_ib_1, rows_ib, inj_Lib, f_ii_0, rows_ii, inj_Lii, f_ii_1, rows_ii, inj_Lii, f_iii_0, rows_iii, inj_Liii, f_iii_1, rows_iii, inj_Liii, f_iii_2, rows_iii, inj_Liii, vkP_next]
        simp
    refine .done ⟨fun h => by simp [SE.den, evU, evB, envL, DV.i, DV.l, DV.b] at h, fun _ => ?_⟩
    have hm := vk_end hinv (fun w hw => by
      match w, hw with
      | 0, _ => show ¬ nexts 0 < x1.length; omega
      | 1, _ => show ¬ nexts 1 < x2.length; omega
      | 2, _ => show ¬ nexts 2 < x3.length; omega
      | 3, _ => show ¬ nexts 3 < x4.length; omega
    )
    simp only [List.cons_append, List.nil_append, Bool.not_true, Bool.not_false, Bool.true_eq_false, SE.den, evU, evT, ev_le, ev_eq, ev_eqs, ev_eqb, ev_slt, ev_and, ev_or, ev_add, ev_sub, ev_mul, ev_tdiv, ev_tmod, ev_band, ev_bor, ev_bxor, ev_bandn, ev_shl, ev_shr, ev_cat, ev_byte, ev_idx, ev_cons, ev_snoc, ev_app, ev_take, ev_drop, ev_stake, ev_sdrop, ev_rep, leB_q, eqB_q, eqsB_q, not_q, i_if, b_if, l_if, s_if, i_int, b_bool, s_str, l_list, envL, List.getElem?_cons_succ, List.getElem?_cons_zero, List.getElem?_nil, Option.getD_some, Option.getD_none, Int.toNat_natCast, Int.toNat_zero, Int.reduceToNat, List.length_map, get_Li, get_Lb, get_Ls, set_Li, inj_Li, inj_Lb, inj_Ls, rows_i, rows_b, rows_s, Int.zero_add, iff_true, iff_false, and_true, true_and, Bool.false_eq_true, eq_self, not_true_eq_false, not_false_eq_true, List.length_replicate, DV.int.injEq, DV.bool.injEq, DV.str.injEq, DV.list.injEq, List.cons.injEq, f_ib_0, rows_ib, inj_Lib, f_ib_1, rows_ib, inj_Lib, f_ii_0, rows_ii, inj_Lii, f_ii_1, rows_ii, inj_Lii, f_iii_0, rows_iii, inj_Liii, f_iii_1, rows_iii, inj_Liii, f_iii_2, rows_iii, inj_Liii, vK4Phi, lSane18F, lSane18E, rOfMF, rOfME, viNextF, viNextE, memDoF, memDoE, rRdF, rRdE, rWtF, rWtE, rBitF, rBitE, rIntsF, rIntsE, gi, gb, gs, gLi, gLu, gLb, gLs, dece_i, dece_b, dece_s, gLib, deces_ib, gLii, deces_ii, gLiii, deces_iii, vkP_end]
    have ht2 : List.map DV.i (List.take 28 (List.drop 0 (List.map DV.int (vkMem 4 (toldB 4 ins))))) = vkMem 4 (toldB 4 ins) := by
      rw [List.drop_zero, List.take_of_length_le (by simp [vk_len]), List.map_map]
      exact List.map_id _
    rw [ht2]
    simp [vk_len, ← hm, hml]
  · refine .inr ?_
    by_cases hlt : (x5.length : Int) ≤ t
    · have hw : (t : Int).tmod 4 = 0 ∨ (t : Int).tmod 4 = 1 ∨ (t : Int).tmod 4 = 2 ∨ (t : Int).tmod 4 = 3 := by rw [Int.tmod_eq_emod_of_nonneg (by omega)]; omega
      rcases hw with hw | hw | hw | hw
      · by_cases e : (x1.length : Int) ≤ nexts 0
        · refine ⟨[.int (t + 1 : Nat), .list ((ins 3).map .bool), .list ((ins 2).map .bool), .list ((ins 1).map .bool), .list ((ins 0).map .bool), .list ((logs 0).map encib), .list ((logs 1).map encib), .list ((logs 2).map encib), .list ((logs 3).map encib), .int (nexts 0 : Nat), .int (nexts 1 : Nat), .int (nexts 2 : Nat), .int (nexts 3 : Nat), .list (m.map .int)], ?_, rfl, ⟨t + 1, ins, logs, nexts, m, rfl, by omega, vk_skip hinv⟩, ?_⟩
          · simp [hT, hlt, hw, e]
          · show 1000 - ((t + 1 : Nat) : Int).toNat < 1000 - ((t : Nat) : Int).toNat; omega
        · have hwant : ∀ b ∈ want 0, 0 ≤ b ∧ b ≤ 255 := v1
          have hlw : nexts 0 < (want 0).length := by show nexts 0 < x1.length; omega
          rcases vk_step (n := 4) (w := 0) (by decide) (by decide) hwant hinv hlw (b := x1[nexts 0]?.getD 0) rfl (fun v => rfl) hN0 with ⟨hd, he, hi, hinv'⟩ | ⟨hd, r, hr, hinv'⟩
          · refine ⟨[.int (t + 1 : Nat), .list (((upd ins 0 ((ins 0).set (kkB (x1[nexts 0]?.getD 0)) (putB (x1[nexts 0]?.getD 0)))) 3).map .bool), .list (((upd ins 0 ((ins 0).set (kkB (x1[nexts 0]?.getD 0)) (putB (x1[nexts 0]?.getD 0)))) 2).map .bool), .list (((upd ins 0 ((ins 0).set (kkB (x1[nexts 0]?.getD 0)) (putB (x1[nexts 0]?.getD 0)))) 1).map .bool), .list (((upd ins 0 ((ins 0).set (kkB (x1[nexts 0]?.getD 0)) (putB (x1[nexts 0]?.getD 0)))) 0).map .bool), .list (((upd logs 0 []) 0).map encib), .list (((upd logs 0 []) 1).map encib), .list (((upd logs 0 []) 2).map encib), .list (((upd logs 0 []) 3).map encib), .int ((upd nexts 0 (nexts 0 + 1)) 0 : Nat), .int ((upd nexts 0 (nexts 0 + 1)) 1 : Nat), .int ((upd nexts 0 (nexts 0 + 1)) 2 : Nat), .int ((upd nexts 0 (nexts 0 + 1)) 3 : Nat), .list (m.map .int)], ?_, rfl, ⟨t + 1, _, _, _, m, rfl, by omega, hinv'⟩, ?_⟩
            · have hx : (decide ((ins 0)[kkB (x1[nexts 0]?.getD 0)]?.getD false ≠ putB (x1[nexts 0]?.getD 0))) = !((ins 0)[kkB (x1[nexts 0]?.getD 0)]?.getD false == putB (x1[nexts 0]?.getD 0)) := by cases (ins 0)[kkB (x1[nexts 0]?.getD 0)]?.getD false <;> cases putB (x1[nexts 0]?.getD 0) <;> rfl
              rw [hx] at hi
              have l1 : ((logs 0).length : Int) ≤ 1000000 := by omega
              have l2 : ¬ (4 : Int) ≤ kkB (x1[nexts 0]?.getD 0) := by omega
              have l3 : ¬ ((ins 0).length : Int) ≤ kkB (x1[nexts 0]?.getD 0) := by omega
              simp [hT, hlt, hw, e, hd, he, hi, l1, l2, l3, upd, List.map_set]
            · show 1000 - ((t + 1 : Nat) : Int).toNat < 1000 - ((t : Nat) : Int).toNat; omega
          · refine ⟨[.int (t + 1 : Nat), .list ((ins 3).map .bool), .list ((ins 2).map .bool), .list ((ins 1).map .bool), .list ((ins 0).map .bool), .list (((upd logs 0 (logs 0 ++ [r])) 0).map encib), .list (((upd logs 0 (logs 0 ++ [r])) 1).map encib), .list (((upd logs 0 (logs 0 ++ [r])) 2).map encib), .list (((upd logs 0 (logs 0 ++ [r])) 3).map encib), .int (nexts 0 : Nat), .int (nexts 1 : Nat), .int (nexts 2 : Nat), .int (nexts 3 : Nat), .list ((doM m N0.k N0.c N0.o N0.n N0.s).1.map .int)], ?_, rfl, ⟨t + 1, _, _, _, _, rfl, by omega, hinv'⟩, ?_⟩
            · have l1 : ((logs 0).length : Int) ≤ 1000000 := by omega
              have l4 : (m.length : Int) ≤ 1000000 := by omega
              have hr1 : (doM m N0.k N0.c N0.o N0.n N0.s).2.1 = r := by rw [hr]
              have hr2 : (doM m N0.k N0.c N0.o N0.n N0.s).2.2 = 0 := by rw [hr]
              simp [hT, hlt, hw, e, hd, l1, l4, hr1, hr2, upd, encib]
            · show 1000 - ((t + 1 : Nat) : Int).toNat < 1000 - ((t : Nat) : Int).toNat; omega
      · by_cases e : (x2.length : Int) ≤ nexts 1
        · refine ⟨[.int (t + 1 : Nat), .list ((ins 3).map .bool), .list ((ins 2).map .bool), .list ((ins 1).map .bool), .list ((ins 0).map .bool), .list ((logs 0).map encib), .list ((logs 1).map encib), .list ((logs 2).map encib), .list ((logs 3).map encib), .int (nexts 0 : Nat), .int (nexts 1 : Nat), .int (nexts 2 : Nat), .int (nexts 3 : Nat), .list (m.map .int)], ?_, rfl, ⟨t + 1, ins, logs, nexts, m, rfl, by omega, vk_skip hinv⟩, ?_⟩
          · simp [hT, hlt, hw, e]
          · show 1000 - ((t + 1 : Nat) : Int).toNat < 1000 - ((t : Nat) : Int).toNat; omega
        · have hwant : ∀ b ∈ want 1, 0 ≤ b ∧ b ≤ 255 := v2
          have hlw : nexts 1 < (want 1).length := by show nexts 1 < x2.length; omega
          rcases vk_step (n := 4) (w := 1) (by decide) (by decide) hwant hinv hlw (b := x2[nexts 1]?.getD 0) rfl (fun v => rfl) hN1 with ⟨hd, he, hi, hinv'⟩ | ⟨hd, r, hr, hinv'⟩
          · refine ⟨[.int (t + 1 : Nat), .list (((upd ins 1 ((ins 1).set (kkB (x2[nexts 1]?.getD 0)) (putB (x2[nexts 1]?.getD 0)))) 3).map .bool), .list (((upd ins 1 ((ins 1).set (kkB (x2[nexts 1]?.getD 0)) (putB (x2[nexts 1]?.getD 0)))) 2).map .bool), .list (((upd ins 1 ((ins 1).set (kkB (x2[nexts 1]?.getD 0)) (putB (x2[nexts 1]?.getD 0)))) 1).map .bool), .list (((upd ins 1 ((ins 1).set (kkB (x2[nexts 1]?.getD 0)) (putB (x2[nexts 1]?.getD 0)))) 0).map .bool), .list (((upd logs 1 []) 0).map encib), .list (((upd logs 1 []) 1).map encib), .list (((upd logs 1 []) 2).map encib), .list (((upd logs 1 []) 3).map encib), .int ((upd nexts 1 (nexts 1 + 1)) 0 : Nat), .int ((upd nexts 1 (nexts 1 + 1)) 1 : Nat), .int ((upd nexts 1 (nexts 1 + 1)) 2 : Nat), .int ((upd nexts 1 (nexts 1 + 1)) 3 : Nat), .list (m.map .int)], ?_, rfl, ⟨t + 1, _, _, _, m, rfl, by omega, hinv'⟩, ?_⟩
            · have hx : (decide ((ins 1)[kkB (x2[nexts 1]?.getD 0)]?.getD false ≠ putB (x2[nexts 1]?.getD 0))) = !((ins 1)[kkB (x2[nexts 1]?.getD 0)]?.getD false == putB (x2[nexts 1]?.getD 0)) := by cases (ins 1)[kkB (x2[nexts 1]?.getD 0)]?.getD false <;> cases putB (x2[nexts 1]?.getD 0) <;> rfl
              rw [hx] at hi
              have l1 : ((logs 1).length : Int) ≤ 1000000 := by omega
              have l2 : ¬ (4 : Int) ≤ kkB (x2[nexts 1]?.getD 0) := by omega
              have l3 : ¬ ((ins 1).length : Int) ≤ kkB (x2[nexts 1]?.getD 0) := by omega
              simp [hT, hlt, hw, e, hd, he, hi, l1, l2, l3, upd, List.map_set]
            · show 1000 - ((t + 1 : Nat) : Int).toNat < 1000 - ((t : Nat) : Int).toNat; omega
          · refine ⟨[.int (t + 1 : Nat), .list ((ins 3).map .bool), .list ((ins 2).map .bool), .list ((ins 1).map .bool), .list ((ins 0).map .bool), .list (((upd logs 1 (logs 1 ++ [r])) 0).map encib), .list (((upd logs 1 (logs 1 ++ [r])) 1).map encib), .list (((upd logs 1 (logs 1 ++ [r])) 2).map encib), .list (((upd logs 1 (logs 1 ++ [r])) 3).map encib), .int (nexts 0 : Nat), .int (nexts 1 : Nat), .int (nexts 2 : Nat), .int (nexts 3 : Nat), .list ((doM m N1.k N1.c N1.o N1.n N1.s).1.map .int)], ?_, rfl, ⟨t + 1, _, _, _, _, rfl, by omega, hinv'⟩, ?_⟩
            · have l1 : ((logs 1).length : Int) ≤ 1000000 := by omega
              have l4 : (m.length : Int) ≤ 1000000 := by omega
              have hr1 : (doM m N1.k N1.c N1.o N1.n N1.s).2.1 = r := by rw [hr]
              have hr2 : (doM m N1.k N1.c N1.o N1.n N1.s).2.2 = 0 := by rw [hr]
              simp [hT, hlt, hw, e, hd, l1, l4, hr1, hr2, upd, encib]
            · show 1000 - ((t + 1 : Nat) : Int).toNat < 1000 - ((t : Nat) : Int).toNat; omega
      · by_cases e : (x3.length : Int) ≤ nexts 2
        · refine ⟨[.int (t + 1 : Nat), .list ((ins 3).map .bool), .list ((ins 2).map .bool), .list ((ins 1).map .bool), .list ((ins 0).map .bool), .list ((logs 0).map encib), .list ((logs 1).map encib), .list ((logs 2).map encib), .list ((logs 3).map encib), .int (nexts 0 : Nat), .int (nexts 1 : Nat), .int (nexts 2 : Nat), .int (nexts 3 : Nat), .list (m.map .int)], ?_, rfl, ⟨t + 1, ins, logs, nexts, m, rfl, by omega, vk_skip hinv⟩, ?_⟩
          · simp [hT, hlt, hw, e]
          · show 1000 - ((t + 1 : Nat) : Int).toNat < 1000 - ((t : Nat) : Int).toNat; omega
        · have hwant : ∀ b ∈ want 2, 0 ≤ b ∧ b ≤ 255 := v3
          have hlw : nexts 2 < (want 2).length := by show nexts 2 < x3.length; omega
          rcases vk_step (n := 4) (w := 2) (by decide) (by decide) hwant hinv hlw (b := x3[nexts 2]?.getD 0) rfl (fun v => rfl) hN2 with ⟨hd, he, hi, hinv'⟩ | ⟨hd, r, hr, hinv'⟩
          · refine ⟨[.int (t + 1 : Nat), .list (((upd ins 2 ((ins 2).set (kkB (x3[nexts 2]?.getD 0)) (putB (x3[nexts 2]?.getD 0)))) 3).map .bool), .list (((upd ins 2 ((ins 2).set (kkB (x3[nexts 2]?.getD 0)) (putB (x3[nexts 2]?.getD 0)))) 2).map .bool), .list (((upd ins 2 ((ins 2).set (kkB (x3[nexts 2]?.getD 0)) (putB (x3[nexts 2]?.getD 0)))) 1).map .bool), .list (((upd ins 2 ((ins 2).set (kkB (x3[nexts 2]?.getD 0)) (putB (x3[nexts 2]?.getD 0)))) 0).map .bool), .list (((upd logs 2 []) 0).map encib), .list (((upd logs 2 []) 1).map encib), .list (((upd logs 2 []) 2).map encib), .list (((upd logs 2 []) 3).map encib), .int ((upd nexts 2 (nexts 2 + 1)) 0 : Nat), .int ((upd nexts 2 (nexts 2 + 1)) 1 : Nat), .int ((upd nexts 2 (nexts 2 + 1)) 2 : Nat), .int ((upd nexts 2 (nexts 2 + 1)) 3 : Nat), .list (m.map .int)], ?_, rfl, ⟨t + 1, _, _, _, m, rfl, by omega, hinv'⟩, ?_⟩
            · have hx : (decide ((ins 2)[kkB (x3[nexts 2]?.getD 0)]?.getD false ≠ putB (x3[nexts 2]?.getD 0))) = !((ins 2)[kkB (x3[nexts 2]?.getD 0)]?.getD false == putB (x3[nexts 2]?.getD 0)) := by cases (ins 2)[kkB (x3[nexts 2]?.getD 0)]?.getD false <;> cases putB (x3[nexts 2]?.getD 0) <;> rfl
              rw [hx] at hi
              have l1 : ((logs 2).length : Int) ≤ 1000000 := by omega
              have l2 : ¬ (4 : Int) ≤ kkB (x3[nexts 2]?.getD 0) := by omega
              have l3 : ¬ ((ins 2).length : Int) ≤ kkB (x3[nexts 2]?.getD 0) := by omega
              simp [hT, hlt, hw, e, hd, he, hi, l1, l2, l3, upd, List.map_set]
            · show 1000 - ((t + 1 : Nat) : Int).toNat < 1000 - ((t : Nat) : Int).toNat; omega
          · refine ⟨[.int (t + 1 : Nat), .list ((ins 3).map .bool), .list ((ins 2).map .bool), .list ((ins 1).map .bool), .list ((ins 0).map .bool), .list (((upd logs 2 (logs 2 ++ [r])) 0).map encib), .list (((upd logs 2 (logs 2 ++ [r])) 1).map encib), .list (((upd logs 2 (logs 2 ++ [r])) 2).map encib), .list (((upd logs 2 (logs 2 ++ [r])) 3).map encib), .int (nexts 0 : Nat), .int (nexts 1 : Nat), .int (nexts 2 : Nat), .int (nexts 3 : Nat), .list ((doM m N2.k N2.c N2.o N2.n N2.s).1.map .int)], ?_, rfl, ⟨t + 1, _, _, _, _, rfl, by omega, hinv'⟩, ?_⟩
            · have l1 : ((logs 2).length : Int) ≤ 1000000 := by omega
              have l4 : (m.length : Int) ≤ 1000000 := by omega
              have hr1 : (doM m N2.k N2.c N2.o N2.n N2.s).2.1 = r := by rw [hr]
              have hr2 : (doM m N2.k N2.c N2.o N2.n N2.s).2.2 = 0 := by rw [hr]
              simp [hT, hlt, hw, e, hd, l1, l4, hr1, hr2, upd, encib]
            · show 1000 - ((t + 1 : Nat) : Int).toNat < 1000 - ((t : Nat) : Int).toNat; omega
      · by_cases e : (x4.length : Int) ≤ nexts 3
        · refine ⟨[.int (t + 1 : Nat), .list ((ins 3).map .bool), .list ((ins 2).map .bool), .list ((ins 1).map .bool), .list ((ins 0).map .bool), .list ((logs 0).map encib), .list ((logs 1).map encib), .list ((logs 2).map encib), .list ((logs 3).map encib), .int (nexts 0 : Nat), .int (nexts 1 : Nat), .int (nexts 2 : Nat), .int (nexts 3 : Nat), .list (m.map .int)], ?_, rfl, ⟨t + 1, ins, logs, nexts, m, rfl, by omega, vk_skip hinv⟩, ?_⟩
          · simp [hT, hlt, hw, e]
          · show 1000 - ((t + 1 : Nat) : Int).toNat < 1000 - ((t : Nat) : Int).toNat; omega
        · have hwant : ∀ b ∈ want 3, 0 ≤ b ∧ b ≤ 255 := v4
          have hlw : nexts 3 < (want 3).length := by show nexts 3 < x4.length; omega
          rcases vk_step (n := 4) (w := 3) (by decide) (by decide) hwant hinv hlw (b := x4[nexts 3]?.getD 0) rfl (fun v => rfl) hN3 with ⟨hd, he, hi, hinv'⟩ | ⟨hd, r, hr, hinv'⟩
          · refine ⟨[.int (t + 1 : Nat), .list (((upd ins 3 ((ins 3).set (kkB (x4[nexts 3]?.getD 0)) (putB (x4[nexts 3]?.getD 0)))) 3).map .bool), .list (((upd ins 3 ((ins 3).set (kkB (x4[nexts 3]?.getD 0)) (putB (x4[nexts 3]?.getD 0)))) 2).map .bool), .list (((upd ins 3 ((ins 3).set (kkB (x4[nexts 3]?.getD 0)) (putB (x4[nexts 3]?.getD 0)))) 1).map .bool), .list (((upd ins 3 ((ins 3).set (kkB (x4[nexts 3]?.getD 0)) (putB (x4[nexts 3]?.getD 0)))) 0).map .bool), .list (((upd logs 3 []) 0).map encib), .list (((upd logs 3 []) 1).map encib), .list (((upd logs 3 []) 2).map encib), .list (((upd logs 3 []) 3).map encib), .int ((upd nexts 3 (nexts 3 + 1)) 0 : Nat), .int ((upd nexts 3 (nexts 3 + 1)) 1 : Nat), .int ((upd nexts 3 (nexts 3 + 1)) 2 : Nat), .int ((upd nexts 3 (nexts 3 + 1)) 3 : Nat), .list (m.map .int)], ?_, rfl, ⟨t + 1, _, _, _, m, rfl, by omega, hinv'⟩, ?_⟩
            · have hx : (decide ((ins 3)[kkB (x4[nexts 3]?.getD 0)]?.getD false ≠ putB (x4[nexts 3]?.getD 0))) = !((ins 3)[kkB (x4[nexts 3]?.getD 0)]?.getD false == putB (x4[nexts 3]?.getD 0)) := by cases (ins 3)[kkB (x4[nexts 3]?.getD 0)]?.getD false <;> cases putB (x4[nexts 3]?.getD 0) <;> rfl
              rw [hx] at hi
              have l1 : ((logs 3).length : Int) ≤ 1000000 := by omega
              have l2 : ¬ (4 : Int) ≤ kkB (x4[nexts 3]?.getD 0) := by omega
              have l3 : ¬ ((ins 3).length : Int) ≤ kkB (x4[nexts 3]?.getD 0) := by omega
              simp [hT, hlt, hw, e, hd, he, hi, l1, l2, l3, upd, List.map_set]
            · show 1000 - ((t + 1 : Nat) : Int).toNat < 1000 - ((t : Nat) : Int).toNat; omega
          · refine ⟨[.int (t + 1 : Nat), .list ((ins 3).map .bool), .list ((ins 2).map .bool), .list ((ins 1).map .bool), .list ((ins 0).map .bool), .list (((upd logs 3 (logs 3 ++ [r])) 0).map encib), .list (((upd logs 3 (logs 3 ++ [r])) 1).map encib), .list (((upd logs 3 (logs 3 ++ [r])) 2).map encib), .list (((upd logs 3 (logs 3 ++ [r])) 3).map encib), .int (nexts 0 : Nat), .int (nexts 1 : Nat), .int (nexts 2 : Nat), .int (nexts 3 : Nat), .list ((doM m N3.k N3.c N3.o N3.n N3.s).1.map .int)], ?_, rfl, ⟨t + 1, _, _, _, _, rfl, by omega, hinv'⟩, ?_⟩
            · have l1 : ((logs 3).length : Int) ≤ 1000000 := by omega
              have l4 : (m.length : Int) ≤ 1000000 := by omega
              have hr1 : (doM m N3.k N3.c N3.o N3.n N3.s).2.1 = r := by rw [hr]
              have hr2 : (doM m N3.k N3.c N3.o N3.n N3.s).2.2 = 0 := by rw [hr]
              simp [hT, hlt, hw, e, hd, l1, l4, hr1, hr2, upd, encib]
            · show 1000 - ((t + 1 : Nat) : Int).toNat < 1000 - ((t : Nat) : Int).toNat; omega
    · have hw : (x5[t]?.getD 0).tmod 4 = 0 ∨ (x5[t]?.getD 0).tmod 4 = 1 ∨ (x5[t]?.getD 0).tmod 4 = 2 ∨ (x5[t]?.getD 0).tmod 4 = 3 := by rw [Int.tmod_eq_emod_of_nonneg (by omega)]; omega
      rcases hw with hw | hw | hw | hw
      · by_cases e : (x1.length : Int) ≤ nexts 0
        · refine ⟨[.int (t + 1 : Nat), .list ((ins 3).map .bool), .list ((ins 2).map .bool), .list ((ins 1).map .bool), .list ((ins 0).map .bool), .list ((logs 0).map encib), .list ((logs 1).map encib), .list ((logs 2).map encib), .list ((logs 3).map encib), .int (nexts 0 : Nat), .int (nexts 1 : Nat), .int (nexts 2 : Nat), .int (nexts 3 : Nat), .list (m.map .int)], ?_, rfl, ⟨t + 1, ins, logs, nexts, m, rfl, by omega, vk_skip hinv⟩, ?_⟩
          · simp [hT, hlt, hw, e]
          · show 1000 - ((t + 1 : Nat) : Int).toNat < 1000 - ((t : Nat) : Int).toNat; omega
        · have hwant : ∀ b ∈ want 0, 0 ≤ b ∧ b ≤ 255 := v1
          have hlw : nexts 0 < (want 0).length := by show nexts 0 < x1.length; omega
          rcases vk_step (n := 4) (w := 0) (by decide) (by decide) hwant hinv hlw (b := x1[nexts 0]?.getD 0) rfl (fun v => rfl) hN0 with ⟨hd, he, hi, hinv'⟩ | ⟨hd, r, hr, hinv'⟩
          · refine ⟨[.int (t + 1 : Nat), .list (((upd ins 0 ((ins 0).set (kkB (x1[nexts 0]?.getD 0)) (putB (x1[nexts 0]?.getD 0)))) 3).map .bool), .list (((upd ins 0 ((ins 0).set (kkB (x1[nexts 0]?.getD 0)) (putB (x1[nexts 0]?.getD 0)))) 2).map .bool), .list (((upd ins 0 ((ins 0).set (kkB (x1[nexts 0]?.getD 0)) (putB (x1[nexts 0]?.getD 0)))) 1).map .bool), .list (((upd ins 0 ((ins 0).set (kkB (x1[nexts 0]?.getD 0)) (putB (x1[nexts 0]?.getD 0)))) 0).map .bool), .list (((upd logs 0 []) 0).map encib), .list (((upd logs 0 []) 1).map encib), .list (((upd logs 0 []) 2).map encib), .list (((upd logs 0 []) 3).map encib), .int ((upd nexts 0 (nexts 0 + 1)) 0 : Nat), .int ((upd nexts 0 (nexts 0 + 1)) 1 : Nat), .int ((upd nexts 0 (nexts 0 + 1)) 2 : Nat), .int ((upd nexts 0 (nexts 0 + 1)) 3 : Nat), .list (m.map .int)], ?_, rfl, ⟨t + 1, _, _, _, m, rfl, by omega, hinv'⟩, ?_⟩
            · have hx : (decide ((ins 0)[kkB (x1[nexts 0]?.getD 0)]?.getD false ≠ putB (x1[nexts 0]?.getD 0))) = !((ins 0)[kkB (x1[nexts 0]?.getD 0)]?.getD false == putB (x1[nexts 0]?.getD 0)) := by cases (ins 0)[kkB (x1[nexts 0]?.getD 0)]?.getD false <;> cases putB (x1[nexts 0]?.getD 0) <;> rfl
              rw [hx] at hi
              have l1 : ((logs 0).length : Int) ≤ 1000000 := by omega
              have l2 : ¬ (4 : Int) ≤ kkB (x1[nexts 0]?.getD 0) := by omega
              have l3 : ¬ ((ins 0).length : Int) ≤ kkB (x1[nexts 0]?.getD 0) := by omega
              simp [hT, hlt, hw, e, hd, he, hi, l1, l2, l3, upd, List.map_set]
            · show 1000 - ((t + 1 : Nat) : Int).toNat < 1000 - ((t : Nat) : Int).toNat; omega
          · refine ⟨[.int (t + 1 : Nat), .list ((ins 3).map .bool), .list ((ins 2).map .bool), .list ((ins 1).map .bool), .list ((ins 0).map .bool), .list (((upd logs 0 (logs 0 ++ [r])) 0).map encib), .list (((upd logs 0 (logs 0 ++ [r])) 1).map encib), .list (((upd logs 0 (logs 0 ++ [r])) 2).map encib), .list (((upd logs 0 (logs 0 ++ [r])) 3).map encib), .int (nexts 0 : Nat), .int (nexts 1 : Nat), .int (nexts 2 : Nat), .int (nexts 3 : Nat), .list ((doM m N0.k N0.c N0.o N0.n N0.s).1.map .int)], ?_, rfl, ⟨t + 1, _, _, _, _, rfl, by omega, hinv'⟩, ?_⟩
            · have l1 : ((logs 0).length : Int) ≤ 1000000 := by omega
              have l4 : (m.length : Int) ≤ 1000000 := by omega
              have hr1 : (doM m N0.k N0.c N0.o N0.n N0.s).2.1 = r := by rw [hr]
              have hr2 : (doM m N0.k N0.c N0.o N0.n N0.s).2.2 = 0 := by rw [hr]
              simp [hT, hlt, hw, e, hd, l1, l4, hr1, hr2, upd, encib]
            · show 1000 - ((t + 1 : Nat) : Int).toNat < 1000 - ((t : Nat) : Int).toNat; omega
      · by_cases e : (x2.length : Int) ≤ nexts 1
        · refine ⟨[.int (t + 1 : Nat), .list ((ins 3).map .bool), .list ((ins 2).map .bool), .list ((ins 1).map .bool), .list ((ins 0).map .bool), .list ((logs 0).map encib), .list ((logs 1).map encib), .list ((logs 2).map encib), .list ((logs 3).map encib), .int (nexts 0 : Nat), .int (nexts 1 : Nat), .int (nexts 2 : Nat), .int (nexts 3 : Nat), .list (m.map .int)], ?_, rfl, ⟨t + 1, ins, logs, nexts, m, rfl, by omega, vk_skip hinv⟩, ?_⟩
          · simp [hT, hlt, hw, e]
          · show 1000 - ((t + 1 : Nat) : Int).toNat < 1000 - ((t : Nat) : Int).toNat; omega
        · have hwant : ∀ b ∈ want 1, 0 ≤ b ∧ b ≤ 255 := v2
          have hlw : nexts 1 < (want 1).length := by show nexts 1 < x2.length; omega
          rcases vk_step (n := 4) (w := 1) (by decide) (by decide) hwant hinv hlw (b := x2[nexts 1]?.getD 0) rfl (fun v => rfl) hN1 with ⟨hd, he, hi, hinv'⟩ | ⟨hd, r, hr, hinv'⟩
          · refine ⟨[.int (t + 1 : Nat), .list (((upd ins 1 ((ins 1).set (kkB (x2[nexts 1]?.getD 0)) (putB (x2[nexts 1]?.getD 0)))) 3).map .bool), .list (((upd ins 1 ((ins 1).set (kkB (x2[nexts 1]?.getD 0)) (putB (x2[nexts 1]?.getD 0)))) 2).map .bool), .list (((upd ins 1 ((ins 1).set (kkB (x2[nexts 1]?.getD 0)) (putB (x2[nexts 1]?.getD 0)))) 1).map .bool), .list (((upd ins 1 ((ins 1).set (kkB (x2[nexts 1]?.getD 0)) (putB (x2[nexts 1]?.getD 0)))) 0).map .bool), .list (((upd logs 1 []) 0).map encib), .list (((upd logs 1 []) 1).map encib), .list (((upd logs 1 []) 2).map encib), .list (((upd logs 1 []) 3).map encib), .int ((upd nexts 1 (nexts 1 + 1)) 0 : Nat), .int ((upd nexts 1 (nexts 1 + 1)) 1 : Nat), .int ((upd nexts 1 (nexts 1 + 1)) 2 : Nat), .int ((upd nexts 1 (nexts 1 + 1)) 3 : Nat), .list (m.map .int)], ?_, rfl, ⟨t + 1, _, _, _, m, rfl, by omega, hinv'⟩, ?_⟩
            · have hx : (decide ((ins 1)[kkB (x2[nexts 1]?.getD 0)]?.getD false ≠ putB (x2[nexts 1]?.getD 0))) = !((ins 1)[kkB (x2[nexts 1]?.getD 0)]?.getD false == putB (x2[nexts 1]?.getD 0)) := by cases (ins 1)[kkB (x2[nexts 1]?.getD 0)]?.getD false <;> cases putB (x2[nexts 1]?.getD 0) <;> rfl
              rw [hx] at hi
              have l1 : ((logs 1).length : Int) ≤ 1000000 := by omega
              have l2 : ¬ (4 : Int) ≤ kkB (x2[nexts 1]?.getD 0) := by omega
              have l3 : ¬ ((ins 1).length : Int) ≤ kkB (x2[nexts 1]?.getD 0) := by omega
              simp [hT, hlt, hw, e, hd, he, hi, l1, l2, l3, upd, List.map_set]
            · show 1000 - ((t + 1 : Nat) : Int).toNat < 1000 - ((t : Nat) : Int).toNat; omega
          · refine ⟨[.int (t + 1 : Nat), .list ((ins 3).map .bool), .list ((ins 2).map .bool), .list ((ins 1).map .bool), .list ((ins 0).map .bool), .list (((upd logs 1 (logs 1 ++ [r])) 0).map encib), .list (((upd logs 1 (logs 1 ++ [r])) 1).map encib), .list (((upd logs 1 (logs 1 ++ [r])) 2).map encib), .list (((upd logs 1 (logs 1 ++ [r])) 3).map encib), .int (nexts 0 : Nat), .int (nexts 1 : Nat), .int (nexts 2 : Nat), .int (nexts 3 : Nat), .list ((doM m N1.k N1.c N1.o N1.n N1.s).1.map .int)], ?_, rfl, ⟨t + 1, _, _, _, _, rfl, by omega, hinv'⟩, ?_⟩
            · have l1 : ((logs 1).length : Int) ≤ 1000000 := by omega
              have l4 : (m.length : Int) ≤ 1000000 := by omega
              have hr1 : (doM m N1.k N1.c N1.o N1.n N1.s).2.1 = r := by rw [hr]
              have hr2 : (doM m N1.k N1.c N1.o N1.n N1.s).2.2 = 0 := by rw [hr]
              simp [hT, hlt, hw, e, hd, l1, l4, hr1, hr2, upd, encib]
            · show 1000 - ((t + 1 : Nat) : Int).toNat < 1000 - ((t : Nat) : Int).toNat; omega
      · by_cases e : (x3.length : Int) ≤ nexts 2
        · refine ⟨[.int (t + 1 : Nat), .list ((ins 3).map .bool), .list ((ins 2).map .bool), .list ((ins 1).map .bool), .list ((ins 0).map .bool), .list ((logs 0).map encib), .list ((logs 1).map encib), .list ((logs 2).map encib), .list ((logs 3).map encib), .int (nexts 0 : Nat), .int (nexts 1 : Nat), .int (nexts 2 : Nat), .int (nexts 3 : Nat), .list (m.map .int)], ?_, rfl, ⟨t + 1, ins, logs, nexts, m, rfl, by omega, vk_skip hinv⟩, ?_⟩
          · simp [hT, hlt, hw, e]
          · show 1000 - ((t + 1 : Nat) : Int).toNat < 1000 - ((t : Nat) : Int).toNat; omega
        · have hwant : ∀ b ∈ want 2, 0 ≤ b ∧ b ≤ 255 := v3
          have hlw : nexts 2 < (want 2).length := by show nexts 2 < x3.length; omega
          rcases vk_step (n := 4) (w := 2) (by decide) (by decide) hwant hinv hlw (b := x3[nexts 2]?.getD 0) rfl (fun v => rfl) hN2 with ⟨hd, he, hi, hinv'⟩ | ⟨hd, r, hr, hinv'⟩
          · refine ⟨[.int (t + 1 : Nat), .list (((upd ins 2 ((ins 2).set (kkB (x3[nexts 2]?.getD 0)) (putB (x3[nexts 2]?.getD 0)))) 3).map .bool), .list (((upd ins 2 ((ins 2).set (kkB (x3[nexts 2]?.getD 0)) (putB (x3[nexts 2]?.getD 0)))) 2).map .bool), .list (((upd ins 2 ((ins 2).set (kkB (x3[nexts 2]?.getD 0)) (putB (x3[nexts 2]?.getD 0)))) 1).map .bool), .list (((upd ins 2 ((ins 2).set (kkB (x3[nexts 2]?.getD 0)) (putB (x3[nexts 2]?.getD 0)))) 0).map .bool), .list (((upd logs 2 []) 0).map encib), .list (((upd logs 2 []) 1).map encib), .list (((upd logs 2 []) 2).map encib), .list (((upd logs 2 []) 3).map encib), .int ((upd nexts 2 (nexts 2 + 1)) 0 : Nat), .int ((upd nexts 2 (nexts 2 + 1)) 1 : Nat), .int ((upd nexts 2 (nexts 2 + 1)) 2 : Nat), .int ((upd nexts 2 (nexts 2 + 1)) 3 : Nat), .list (m.map .int)], ?_, rfl, ⟨t + 1, _, _, _, m, rfl, by omega, hinv'⟩, ?_⟩
            · have hx : (decide ((ins 2)[kkB (x3[nexts 2]?.getD 0)]?.getD false ≠ putB (x3[nexts 2]?.getD 0))) = !((ins 2)[kkB (x3[nexts 2]?.getD 0)]?.getD false == putB (x3[nexts 2]?.getD 0)) := by cases (ins 2)[kkB (x3[nexts 2]?.getD 0)]?.getD false <;> cases putB (x3[nexts 2]?.getD 0) <;> rfl
              rw [hx] at hi
              have l1 : ((logs 2).length : Int) ≤ 1000000 := by omega
              have l2 : ¬ (4 : Int) ≤ kkB (x3[nexts 2]?.getD 0) := by omega
              have l3 : ¬ ((ins 2).length : Int) ≤ kkB (x3[nexts 2]?.getD 0) := by omega
              simp [hT, hlt, hw, e, hd, he, hi, l1, l2, l3, upd, List.map_set]
            · show 1000 - ((t + 1 : Nat) : Int).toNat < 1000 - ((t : Nat) : Int).toNat; omega
          · refine ⟨[.int (t + 1 : Nat), .list ((ins 3).map .bool), .list ((ins 2).map .bool), .list ((ins 1).map .bool), .list ((ins 0).map .bool), .list (((upd logs 2 (logs 2 ++ [r])) 0).map encib), .list (((upd logs 2 (logs 2 ++ [r])) 1).map encib), .list (((upd logs 2 (logs 2 ++ [r])) 2).map encib), .list (((upd logs 2 (logs 2 ++ [r])) 3).map encib), .int (nexts 0 : Nat), .int (nexts 1 : Nat), .int (nexts 2 : Nat), .int (nexts 3 : Nat), .list ((doM m N2.k N2.c N2.o N2.n N2.s).1.map .int)], ?_, rfl, ⟨t + 1, _, _, _, _, rfl, by omega, hinv'⟩, ?_⟩
            · have l1 : ((logs 2).length : Int) ≤ 1000000 := by omega
              have l4 : (m.length : Int) ≤ 1000000 := by omega
              have hr1 : (doM m N2.k N2.c N2.o N2.n N2.s).2.1 = r := by rw [hr]
              have hr2 : (doM m N2.k N2.c N2.o N2.n N2.s).2.2 = 0 := by rw [hr]
              simp [hT, hlt, hw, e, hd, l1, l4, hr1, hr2, upd, encib]
            · show 1000 - ((t + 1 : Nat) : Int).toNat < 1000 - ((t : Nat) : Int).toNat; omega
      · by_cases e : (x4.length : Int) ≤ nexts 3
        · refine ⟨[.int (t + 1 : Nat), .list ((ins 3).map .bool), .list ((ins 2).map .bool), .list ((ins 1).map .bool), .list ((ins 0).map .bool), .list ((logs 0).map encib), .list ((logs 1).map encib), .list ((logs 2).map encib), .list ((logs 3).map encib), .int (nexts 0 : Nat), .int (nexts 1 : Nat), .int (nexts 2 : Nat), .int (nexts 3 : Nat), .list (m.map .int)], ?_, rfl, ⟨t + 1, ins, logs, nexts, m, rfl, by omega, vk_skip hinv⟩, ?_⟩
          · simp [hT, hlt, hw, e]
          · show 1000 - ((t + 1 : Nat) : Int).toNat < 1000 - ((t : Nat) : Int).toNat; omega
        · have hwant : ∀ b ∈ want 3, 0 ≤ b ∧ b ≤ 255 := v4
          have hlw : nexts 3 < (want 3).length := by show nexts 3 < x4.length; omega
          rcases vk_step (n := 4) (w := 3) (by decide) (by decide) hwant hinv hlw (b := x4[nexts 3]?.getD 0) rfl (fun v => rfl) hN3 with ⟨hd, he, hi, hinv'⟩ | ⟨hd, r, hr, hinv'⟩
          · refine ⟨[.int (t + 1 : Nat), .list (((upd ins 3 ((ins 3).set (kkB (x4[nexts 3]?.getD 0)) (putB (x4[nexts 3]?.getD 0)))) 3).map .bool), .list (((upd ins 3 ((ins 3).set (kkB (x4[nexts 3]?.getD 0)) (putB (x4[nexts 3]?.getD 0)))) 2).map .bool), .list (((upd ins 3 ((ins 3).set (kkB (x4[nexts 3]?.getD 0)) (putB (x4[nexts 3]?.getD 0)))) 1).map .bool), .list (((upd ins 3 ((ins 3).set (kkB (x4[nexts 3]?.getD 0)) (putB (x4[nexts 3]?.getD 0)))) 0).map .bool), .list (((upd logs 3 []) 0).map encib), .list (((upd logs 3 []) 1).map encib), .list (((upd logs 3 []) 2).map encib), .list (((upd logs 3 []) 3).map encib), .int ((upd nexts 3 (nexts 3 + 1)) 0 : Nat), .int ((upd nexts 3 (nexts 3 + 1)) 1 : Nat), .int ((upd nexts 3 (nexts 3 + 1)) 2 : Nat), .int ((upd nexts 3 (nexts 3 + 1)) 3 : Nat), .list (m.map .int)], ?_, rfl, ⟨t + 1, _, _, _, m, rfl, by omega, hinv'⟩, ?_⟩
            · have hx : (decide ((ins 3)[kkB (x4[nexts 3]?.getD 0)]?.getD false ≠ putB (x4[nexts 3]?.getD 0))) = !((ins 3)[kkB (x4[nexts 3]?.getD 0)]?.getD false == putB (x4[nexts 3]?.getD 0)) := by cases (ins 3)[kkB (x4[nexts 3]?.getD 0)]?.getD false <;> cases putB (x4[nexts 3]?.getD 0) <;> rfl
              rw [hx] at hi
              have l1 : ((logs 3).length : Int) ≤ 1000000 := by omega
              have l2 : ¬ (4 : Int) ≤ kkB (x4[nexts 3]?.getD 0) := by omega
              have l3 : ¬ ((ins 3).length : Int) ≤ kkB (x4[nexts 3]?.getD 0) := by omega
              simp [hT, hlt, hw, e, hd, he, hi, l1, l2, l3, upd, List.map_set]
            · show 1000 - ((t + 1 : Nat) : Int).toNat < 1000 - ((t : Nat) : Int).toNat; omega
          · refine ⟨[.int (t + 1 : Nat), .list ((ins 3).map .bool), .list ((ins 2).map .bool), .list ((ins 1).map .bool), .list ((ins 0).map .bool), .list (((upd logs 3 (logs 3 ++ [r])) 0).map encib), .list (((upd logs 3 (logs 3 ++ [r])) 1).map encib), .list (((upd logs 3 (logs 3 ++ [r])) 2).map encib), .list (((upd logs 3 (logs 3 ++ [r])) 3).map encib), .int (nexts 0 : Nat), .int (nexts 1 : Nat), .int (nexts 2 : Nat), .int (nexts 3 : Nat), .list ((doM m N3.k N3.c N3.o N3.n N3.s).1.map .int)], ?_, rfl, ⟨t + 1, _, _, _, _, rfl, by omega, hinv'⟩, ?_⟩
            · have l1 : ((logs 3).length : Int) ≤ 1000000 := by omega
              have l4 : (m.length : Int) ≤ 1000000 := by omega
              have hr1 : (doM m N3.k N3.c N3.o N3.n N3.s).2.1 = r := by rw [hr]
              have hr2 : (doM m N3.k N3.c N3.o N3.n N3.s).2.2 = 0 := by rw [hr]
              simp [hT, hlt, hw, e, hd, l1, l4, hr1, hr2, upd, encib]
            · show 1000 - ((t + 1 : Nat) : Int).toNat < 1000 - ((t : Nat) : Int).toNat; omega
theorem vK4_piece {w : World} {va vs us : List Value} {ds : List DV} {gs : List GI} (hgrp : Grp ([.one (.nest [.int .u8] 4), .one (.rows [.int .u8])].map NSh.sh) va vs) (hlk : Link w (nisOf [.one (.nest [.int .u8] 4), .one (.rows [.int .u8])]) vs us gs) (hrd : Reads w (flatN (nisOf [.one (.nest [.int .u8] 4), .one (.rows [.int .u8])])) us ds gs) (hw : Wts (flatN (nisOf [.one (.nest [.int .u8] 4), .one (.rows [.int .u8])])) ds) :
    Calls Try.prog 3 va.toArray w fun e w' => e = .returned (.bool true) ∧ Go.RowKit.Below w.heap.size w w' :=
  law_nest (X := ⟨Try.prog, vK4Sm, vK4La, true⟩) mo_nil (by decide +kernel) (Checked.mixed Try.checked) vK4S (by decide +kernel) vK4T (by decide +kernel) (vK4_main ds (reads_len hrd).2.1 hw) hgrp hlk hrd
end Go.Proofs.Ytgimbkpfhdodgaa
