/- VisibleKeepsBits for 1 threads: a piece. No condition. -/
import Derived.Test.YtgimbkpfhdodgaaVK1T
namespace Go.Proofs.Ytgimbkpfhdodgaa
set_option linter.unusedVariables false
set_option linter.unusedSimpArgs false
set_option maxRecDepth 100000

set_option maxHeartbeats 8000000 in
theorem vK1_main : ∀ ds, ds.length = (clsOf [.one (.pl (.int .i64)), .one (.rows false [.int .u8]), .one (.rows false [.int .u8])]).length → Wts (clsOf [.one (.pl (.int .i64)), .one (.rows false [.int .u8]), .one (.rows false [.int .u8])]) ds → Facts (envL vK1Phi (nrmL (clsOf [.one (.pl (.int .i64)), .one (.rows false [.int .u8]), .one (.rows false [.int .u8])]) ds)) (rng (-9223372036854775808) 9223372036854775807 (.var 0) ++ (rng 0 9223372036854775807 (.un .len (.var 1)) ++ (rng 0 9223372036854775807 (.un .len (.var 2)) ++ ([])))) ∧ Sat vK1Phi vK1Tree (fun es => nrmL (clsOf [.one (.pl .bool)]) es = nrmL (clsOf [.one (.pl .bool)]) (vK1F ds)) (nrmL (clsOf [.one (.pl (.int .i64)), .one (.rows false [.int .u8]), .one (.rows false [.int .u8])]) ds) := by
  intro ds hl hp
  obtain ⟨d0, d1, d2, rfl⟩ := len3 hl
  obtain ⟨_, _, he, w0, hp⟩ := hp
  cases he
  have r0 : -9223372036854775808 ≤ d0.i ∧ d0.i ≤ 9223372036854775807 := wt_i w0 rfl rfl
  clear w0
  obtain ⟨_, _, he, w1, hp⟩ := hp
  cases he
  have b1 : ((d1.l.map DV.i).length : Int) ≤ 9223372036854775807 := by rw [List.length_map]; exact wt_len w1
  have v1 : ∀ v ∈ d1.l.map DV.i, 0 ≤ v ∧ v ≤ 255 := wt_ints w1 rfl rfl
  clear w1
  obtain ⟨_, _, he, w2, hp⟩ := hp
  cases he
  have b2 : ((d2.l.map DV.i).length : Int) ≤ 9223372036854775807 := by rw [List.length_map]; exact wt_len w2
  have v2 : ∀ v ∈ d2.l.map DV.i, 0 ≤ v ∧ v ≤ 255 := wt_ints w2 rfl rfl
  clear w2
  have hN : nrmL (clsOf [.one (.pl (.int .i64)), .one (.rows false [.int .u8]), .one (.rows false [.int .u8])]) [d0, d1, d2] = [.int d0.i, .list ((d1.l.map DV.i).map DV.int), .list ((d2.l.map DV.i).map DV.int)] := by
    simp only [clsOf, Sh.cls, List.append_nil, List.cons_append, List.nil_append, nrmL, Cl.nrm, CK.nrm, map_Li]
  have hF : vK1F [d0, d1, d2] = [.bool true] := rfl
  rw [hN, hF]
  clear hN hp hl hF
  generalize d0.i = x0 at r0 ⊢
  generalize d1.l.map DV.i = x1 at b1 v1 ⊢
  generalize d2.l.map DV.i = x2 at b2 v2 ⊢
  refine ⟨(rng_ok (e := .var 0) r0.1 r0.2 (rng_ok (e := .un .len (.var 1)) (Int.natCast_nonneg _) (by show ((x1.map _).length : Int) ≤ _; rw [List.length_map]; exact b1) (rng_ok (e := .un .len (.var 2)) (Int.natCast_nonneg _) (by show ((x2.map _).length : Int) ≤ _; rw [List.length_map]; exact b2) (facts_nil _)))), ?_⟩
  unfold vK1Tree
  simp only [Sat, clsOf, Sh.cls, List.append_nil, List.cons_append, List.nil_append, nrmL, Cl.nrm, CK.nrm, List.map_cons, List.map_nil, List.length_cons, List.length_nil, List.cons.injEq, DV.bool.injEq, DV.int.injEq, DV.list.injEq, DV.str.injEq, and_true, true_and, vK1N0, vK1N1, vK1N2, vK1N3, vK1N4, vK1N5, vK1N6, vK1N7, vK1N8, vK1N9, vK1N10, vK1N11, vK1N12, vK1N13, vK1N14, vK1N15, vK1N16, vK1N17, vK1N18, vK1N19, vK1N20, vK1N21, vK1N22, vK1N23, vK1N24, vK1N25, vK1N26]
  simp only [q_le, q_eq, q_eqs, q_eqb, q_and, q_or, q_not, q_bool, iff_true, iff_false, Bool.not_true, Bool.not_false, Bool.false_eq_true, Bool.true_eq_false, eq_self, Bool.not_not]
  refine ⟨fun _ => by simp [SE.den, evU, evB, envL, DV.i, DV.l, DV.b, lSane18F, lSane18E, vK1Phi], fun hl2 => ?_⟩
  have hl2 : (x2.length : Int) ≤ 200 := by simpa [SE.den, evU, evB, envL, DV.i, DV.l, DV.b] using hl2
  by_cases g0 : (x1.length : Int) ≤ 8
  rotate_left
  · exact .done ⟨fun h => by simp [SE.den, evU, evB, envL, DV.i, DV.l, DV.b, lSane18F, lSane18E, vK1Phi, g0], fun h => by simp [SE.den, evU, evB, envL, DV.i, DV.l, DV.b] at h⟩
  refine .step [.int 1] (by simp [SE.den, evU, evB, envL, DV.i, DV.l, DV.b, g0]) rfl ?_
  refine .done ⟨fun h => by simp [SE.den, evU, evB, envL, DV.i, DV.l, DV.b] at h, fun _ => ⟨rfl, ?_⟩⟩
  refine .step [.int 1, .list [.bool false, .bool false, .bool false, .bool false]] (by simp [SE.den, evU, evB, envL, DV.i, DV.l, DV.b]) rfl ?_
  refine .done ⟨fun h => by simp [SE.den, evU, evB, envL, DV.i, DV.l, DV.b] at h, fun _ => ⟨rfl, ?_⟩⟩
  simp only [List.cons_append, List.nil_append]
  let want : Nat → List Int := fun w => if w = 0 then x1 else []
  refine rounds_inv (fun y => ∃ (t : Nat) (ins : Nat → List Bool) (logs : Nat → List Tib) (nexts : Nat → Nat) (m : List Int), y = [.int (t : Nat), .list ((ins 0).map .bool), .list ((logs 0).map encib), .int (nexts 0 : Nat), .list (m.map .int)] ∧ t ≤ x2.length + 60 ∧ VkInv 1 want t ins logs nexts m) (fun y => 1000 - ((y[0]?).getD (DV.int 0)).i.toNat) ⟨0, _, _, _, _, rfl, Nat.zero_le _, vk_start 1 want⟩ ?_
  rintro y ⟨t, ins, logs, nexts, m, rfl, ht, hinv⟩
  have hti : (t : Int) ≤ x2.length + 60 := by omega
  have ht1 : IntKind.i64.wrap ((t : Int) + 1) = t + 1 := w64 (by omega) (by omega)
  have hln : IntKind.i64.wrap ((x2.length : Int) + 60) = x2.length + 60 := w64 (by omega) (by omega)
  have ht0 : (0 : Int) ≤ t := Int.natCast_nonneg _
  have hml : m.length = 16 := by obtain ⟨_, rfl, _⟩ := hinv; rw [vk_len]
  have qT := byte_at v2 t
  have uT : IntKind.i64.wrap (x2[t]?.getD 0) = x2[t]?.getD 0 := w64 (by omega) (by omega)
  have i0 : (ins 0).length = 4 ∧ (logs 0).length ≤ t ∧ nexts 0 ≤ x1.length := by obtain ⟨_, _, _, h⟩ := hinv; obtain ⟨a, b, c, _⟩ := h 0 (by decide); exact ⟨a, b, c⟩
  have q0 := byte_at v1 (nexts 0)
  have u0 : IntKind.i64.wrap (x1[nexts 0]?.getD 0) = x1[nexts 0]?.getD 0 := w64 (by omega) (by omega)
  have n0 : (0 : Int) ≤ nexts 0 := Int.natCast_nonneg _
  have nn0 : IntKind.i64.wrap ((nexts 0 : Int) + 1) = nexts 0 + 1 := w64 (by omega) (by omega)
  have k0 : kkB (x1[nexts 0]?.getD 0) < 4 := kk_lt q0.1
  have kk0 : (0 : Int) ≤ kkB (x1[nexts 0]?.getD 0) := Int.natCast_nonneg _
  have top0 := fun log => vk_top2 (n := 1) (w := 0) (by decide) (by decide) q0 (base := 8) (nn := 1) (ww := 0) rfl rfl rfl log
  simp only [Bool.not_true, Bool.not_false, Bool.true_eq_false, SE.den, evU, evT, ev_le, ev_eq, ev_eqs, ev_eqb, ev_slt, ev_and, ev_or, ev_add, ev_sub, ev_mul, ev_tdiv, ev_tmod, ev_band, ev_bor, ev_bxor, ev_bandn, ev_shl, ev_shr, ev_cat, ev_byte, ev_idx, ev_cons, ev_snoc, ev_app, ev_take, ev_drop, ev_stake, ev_sdrop, ev_rep, leB_q, eqB_q, eqsB_q, not_q, i_if, b_if, l_if, s_if, i_int, b_bool, s_str, l_list, envL, List.getElem?_cons_succ, List.getElem?_cons_zero, List.getElem?_nil, Option.getD_some, Option.getD_none, Int.toNat_natCast, Int.toNat_zero, Int.reduceToNat, List.length_map, get_Li, get_Lb, get_Ls, set_Li, inj_Li, inj_Lb, inj_Ls, rows_i, rows_b, rows_s, Int.zero_add, iff_true, iff_false, and_true, true_and, Bool.false_eq_true, eq_self, not_true_eq_false, not_false_eq_true, List.length_replicate, DV.int.injEq, DV.bool.injEq, DV.str.injEq, DV.list.injEq, List.cons.injEq, f_ib_0, rows_ib, inj_Lib, f_ib_1, rows_ib, inj_Lib, f_ii_0, rows_ii, inj_Lii, f_ii_1, rows_ii, inj_Lii, f_iii_0, rows_iii, inj_Liii, f_iii_1, rows_iii, inj_Liii, f_iii_2, rows_iii, inj_Liii, vK1Phi, lSane18F, lSane18E, rOfMF, rOfME, viNextF, viNextE, memDoF, memDoE, rRdF, rRdE, rWtF, rWtE, rBitF, rBitE, rIntsF, rIntsE, gi, gb, gs, gLi, gLu, gLb, gLs, dece_i, dece_b, dece_s, gLib, deces_ib, gLii, deces_ii, gLiii, deces_iii, nx_0, nx_1, nx_2, nx_3, nx_4, nx_5, nx_6, nx_7, nx_8, nx_9, nx_10, nx_11, nx_12, ht1, hln, uT, u0, top0, kk_eq q0, put_eq q0, nn0]
  generalize hN0 : viM (putB (x1[nexts 0]?.getD 0)) (fun v => IntKind.i64.wrap (if putB (x1[nexts 0]?.getD 0) = true then withM v ((0 : Nat) : Int) else offM v ((0 : Nat) : Int))) ((cellK 1 (kkB (x1[nexts 0]?.getD 0)) : Nat) : Int) ((0 : Nat) : Int) (logs 0) = N0
  by_cases hT : (x2.length : Int) + 60 ≤ t
  · refine .inl ⟨fun h => absurd hT h, fun _ => ⟨rfl, ?_⟩⟩
    clear top0
    have hz : List.replicate 16 (0 : Int) = vkP 1 (toldB 1 ins) 0 0 := (vkP_0 1 _).symm
    have hz' : [DV.int 0, DV.int 0, DV.int 0, DV.int 0, DV.int 0, DV.int 0, DV.int 0, DV.int 0, DV.int 0, DV.int 0, DV.int 0, DV.int 0, DV.int 0, DV.int 0, DV.int 0, DV.int 0] = (vkP 1 (toldB 1 ins) 0 0).map DV.int := by rw [← hz]; rfl
    rw [hz']
    have z0 : IntKind.i64.wrap 0 = 0 := w64 (by omega) (by omega)
    have z1 : IntKind.i64.wrap 1 = 1 := w64 (by omega) (by omega)
    have z2 : IntKind.i64.wrap 2 = 2 := w64 (by omega) (by omega)
    have z3 : IntKind.i64.wrap 3 = 3 := w64 (by omega) (by omega)
    have z4 : IntKind.i64.wrap 4 = 4 := w64 (by omega) (by omega)
    have p02 : placeM 8 2 0 4 2 = 10 := by decide
    have p03 : placeM 8 2 0 4 3 = 11 := by decide
    have p12 : placeM 8 2 1 4 2 = 14 := by decide
    have p13 : placeM 8 2 1 4 3 = 15 := by decide
    by_cases e0 : (x1.length : Int) ≤ nexts 0
    rotate_left
    · exact .done ⟨fun _ => by simp [SE.den, evU, evB, envL, DV.i, DV.l, DV.b, lSane18F, lSane18E, vK1Phi, e0], fun h => by simp [SE.den, evU, evB, envL, DV.i, DV.l, DV.b] at h⟩
    refine .step [.int 1, .list ((vkP 1 (toldB 1 ins) 1 0).map .int)] ?_ rfl ?_
    · refine ⟨fun _ => ?_, fun h => by simp [SE.den, evU, evB, envL, DV.i, DV.l, DV.b] at h⟩
      refine ⟨fun _ => ?_, fun h => by simp [SE.den, evU, evB, envL, DV.i, DV.l, DV.b] at h⟩
      refine ⟨fun h => h e0, fun _ => ⟨rfl, ?_⟩⟩
      refine rounds_at 4 (fun k => [.int k, .list ((vkP 1 (toldB 1 ins) 0 k).map .int)]) rfl (fun _ => rfl) (fun k hk => ?_) ?_
      · have hlen := fun k => vkP_len 1 (toldB 1 ins) 0 k
        simp only [List.cons_append, List.nil_append, Bool.not_true, Bool.not_false, Bool.true_eq_false, SE.den, evU, evT, ev_le, ev_eq, ev_eqs, ev_eqb, ev_slt, ev_and, ev_or, ev_add, ev_sub, ev_mul, ev_tdiv, ev_tmod, ev_band, ev_bor, ev_bxor, ev_bandn, ev_shl, ev_shr, ev_cat, ev_byte, ev_idx, ev_cons, ev_snoc, ev_app, ev_take, ev_drop, ev_stake, ev_sdrop, ev_rep, leB_q, eqB_q, eqsB_q, not_q, i_if, b_if, l_if, s_if, i_int, b_bool, s_str, l_list, envL, List.getElem?_cons_succ, List.getElem?_cons_zero, List.getElem?_nil, Option.getD_some, Option.getD_none, Int.toNat_natCast, Int.toNat_zero, Int.reduceToNat, List.length_map, get_Li, get_Lb, get_Ls, set_Li, inj_Li, inj_Lb, inj_Ls, rows_i, rows_b, rows_s, Int.zero_add, iff_true, iff_false, and_true, true_and, Bool.false_eq_true, eq_self, not_true_eq_false, not_false_eq_true, List.length_replicate, DV.int.injEq, DV.bool.injEq, DV.str.injEq, DV.list.injEq, List.cons.injEq, f_ib_0, rows_ib, inj_Lib, f_ib_1, rows_ib, inj_Lib, f_ii_0, rows_ii, inj_Lii, f_ii_1, rows_ii, inj_Lii, f_iii_0, rows_iii, inj_Liii, f_iii_1, rows_iii, inj_Liii, f_iii_2, rows_iii, inj_Liii, hlen]
        match k, hk with
        | 0, _ =>
          have ht : toldB 1 ins 0 0 = (ins 0)[0]?.getD false := by simp [toldB]
          cases hc : (ins 0)[0]?.getD false with
          | false =>
            have hno := vkP_no (n := 1) (ht.trans hc)
            simp [i0.1, hc, z0, z1, z2, z3, z4, hno]
          | true =>
            obtain ⟨y1, y2, y3⟩ := vkP_yes (n := 1) (w := 0) (k := 0) (by decide) (by decide) (ht.trans hc)
            rw [show cellK 1 0 = 10 from rfl] at y1 y2 y3
            rw [show (2 : Int) ^ 0 = 1 from rfl] at y1
            have hw := w64 (n := (vkP 1 (toldB 1 ins) 0 0)[10]?.getD 0 + 1) (by omega) (by omega)
            simp [i0.1, hc, z0, z1, z2, z3, z4, p02, p03, p12, p13, hw, y1]
        | 1, _ =>
          have ht : toldB 1 ins 0 1 = (ins 0)[1]?.getD false := by simp [toldB]
          cases hc : (ins 0)[1]?.getD false with
          | false =>
            have hno := vkP_no (n := 1) (ht.trans hc)
            simp [i0.1, hc, z0, z1, z2, z3, z4, hno]
          | true =>
            obtain ⟨y1, y2, y3⟩ := vkP_yes (n := 1) (w := 0) (k := 1) (by decide) (by decide) (ht.trans hc)
            rw [show cellK 1 1 = 11 from rfl] at y1 y2 y3
            rw [show (2 : Int) ^ 0 = 1 from rfl] at y1
            have hw := w64 (n := (vkP 1 (toldB 1 ins) 0 1)[11]?.getD 0 + 1) (by omega) (by omega)
            simp [i0.1, hc, z0, z1, z2, z3, z4, p02, p03, p12, p13, hw, y1]
        | 2, _ =>
          have ht : toldB 1 ins 0 2 = (ins 0)[2]?.getD false := by simp [toldB]
          cases hc : (ins 0)[2]?.getD false with
          | false =>
            have hno := vkP_no (n := 1) (ht.trans hc)
            simp [i0.1, hc, z0, z1, z2, z3, z4, hno]
          | true =>
            obtain ⟨y1, y2, y3⟩ := vkP_yes (n := 1) (w := 0) (k := 2) (by decide) (by decide) (ht.trans hc)
            rw [show cellK 1 2 = 14 from rfl] at y1 y2 y3
            rw [show (2 : Int) ^ 0 = 1 from rfl] at y1
            have hw := w64 (n := (vkP 1 (toldB 1 ins) 0 2)[14]?.getD 0 + 1) (by omega) (by omega)
            simp [i0.1, hc, z0, z1, z2, z3, z4, p02, p03, p12, p13, hw, y1]
        | 3, _ =>
          have ht : toldB 1 ins 0 3 = (ins 0)[3]?.getD false := by simp [toldB]
          cases hc : (ins 0)[3]?.getD false with
          | false =>
            have hno := vkP_no (n := 1) (ht.trans hc)
            simp [i0.1, hc, z0, z1, z2, z3, z4, hno]
          | true =>
            obtain ⟨y1, y2, y3⟩ := vkP_yes (n := 1) (w := 0) (k := 3) (by decide) (by decide) (ht.trans hc)
            rw [show cellK 1 3 = 15 from rfl] at y1 y2 y3
            rw [show (2 : Int) ^ 0 = 1 from rfl] at y1
            have hw := w64 (n := (vkP 1 (toldB 1 ins) 0 3)[15]?.getD 0 + 1) (by omega) (by omega)
            simp [i0.1, hc, z0, z1, z2, z3, z4, p02, p03, p12, p13, hw, y1]
      · simp only [List.cons_append, List.nil_append, Bool.not_true, Bool.not_false, Bool.true_eq_false, SE.den, evU, evT, ev_le, ev_eq, ev_eqs, ev_eqb, ev_slt, ev_and, ev_or, ev_add, ev_sub, ev_mul, ev_tdiv, ev_tmod, ev_band, ev_bor, ev_bxor, ev_bandn, ev_shl, ev_shr, ev_cat, ev_byte, ev_idx, ev_cons, ev_snoc, ev_app, ev_take, ev_drop, ev_stake, ev_sdrop, ev_rep, leB_q, eqB_q, eqsB_q, not_q, i_if, b_if, l_if, s_if, i_int, b_bool, s_str, l_list, envL, List.getElem?_cons_succ, List.getElem?_cons_zero, List.getElem?_nil, Option.getD_some, Option.getD_none, Int.toNat_natCast, Int.toNat_zero, Int.reduceToNat, List.length_map, get_Li, get_Lb, get_Ls, set_Li, inj_Li, inj_Lb, inj_Ls, rows_i, rows_b, rows_s, Int.zero_add, iff_true, iff_false, and_true, true_and, Bool.false_eq_true, eq_self, not_true_eq_false, not_false_eq_true, List.length_replicate, DV.int.injEq, DV.bool.injEq, DV.str.injEq, DV.list.injEq, List.cons.injEq, f_ib_0, rows_ib, inj_Lib, f_ib_1, rows_ib, inj_Lib, f_ii_0, rows_ii, inj_Lii, f_ii_1, rows_ii, inj_Lii, f_iii_0, rows_iii, inj_Liii, f_iii_1, rows_iii, inj_Liii, f_iii_2, rows_iii, inj_Liii, vkP_next]
        simp
    refine .done ⟨fun h => by simp [SE.den, evU, evB, envL, DV.i, DV.l, DV.b] at h, fun _ => ?_⟩
    have hm := vk_end hinv (fun w hw => by
      match w, hw with
      | 0, _ => show ¬ nexts 0 < x1.length; omega
    )
    simp only [List.cons_append, List.nil_append, Bool.not_true, Bool.not_false, Bool.true_eq_false, SE.den, evU, evT, ev_le, ev_eq, ev_eqs, ev_eqb, ev_slt, ev_and, ev_or, ev_add, ev_sub, ev_mul, ev_tdiv, ev_tmod, ev_band, ev_bor, ev_bxor, ev_bandn, ev_shl, ev_shr, ev_cat, ev_byte, ev_idx, ev_cons, ev_snoc, ev_app, ev_take, ev_drop, ev_stake, ev_sdrop, ev_rep, leB_q, eqB_q, eqsB_q, not_q, i_if, b_if, l_if, s_if, i_int, b_bool, s_str, l_list, envL, List.getElem?_cons_succ, List.getElem?_cons_zero, List.getElem?_nil, Option.getD_some, Option.getD_none, Int.toNat_natCast, Int.toNat_zero, Int.reduceToNat, List.length_map, get_Li, get_Lb, get_Ls, set_Li, inj_Li, inj_Lb, inj_Ls, rows_i, rows_b, rows_s, Int.zero_add, iff_true, iff_false, and_true, true_and, Bool.false_eq_true, eq_self, not_true_eq_false, not_false_eq_true, List.length_replicate, DV.int.injEq, DV.bool.injEq, DV.str.injEq, DV.list.injEq, List.cons.injEq, f_ib_0, rows_ib, inj_Lib, f_ib_1, rows_ib, inj_Lib, f_ii_0, rows_ii, inj_Lii, f_ii_1, rows_ii, inj_Lii, f_iii_0, rows_iii, inj_Liii, f_iii_1, rows_iii, inj_Liii, f_iii_2, rows_iii, inj_Liii, vK1Phi, lSane18F, lSane18E, rOfMF, rOfME, viNextF, viNextE, memDoF, memDoE, rRdF, rRdE, rWtF, rWtE, rBitF, rBitE, rIntsF, rIntsE, gi, gb, gs, gLi, gLu, gLb, gLs, dece_i, dece_b, dece_s, gLib, deces_ib, gLii, deces_ii, gLiii, deces_iii, vkP_end]
    have ht2 : List.map DV.i (List.take 16 (List.drop 0 (List.map DV.int (vkMem 1 (toldB 1 ins))))) = vkMem 1 (toldB 1 ins) := by
      rw [List.drop_zero, List.take_of_length_le (by simp [vk_len]), List.map_map]
      exact List.map_id _
    rw [ht2]
    simp [vk_len, ← hm, hml]
  · refine .inr ?_
    by_cases hlt : (x2.length : Int) ≤ t
    · have hw : (t : Int).tmod 1 = 0 := by rw [Int.tmod_eq_emod_of_nonneg (by omega)]; omega
      rcases hw with hw
      · by_cases e : (x1.length : Int) ≤ nexts 0
        · refine ⟨[.int (t + 1 : Nat), .list ((ins 0).map .bool), .list ((logs 0).map encib), .int (nexts 0 : Nat), .list (m.map .int)], ?_, rfl, ⟨t + 1, ins, logs, nexts, m, rfl, by omega, vk_skip hinv⟩, ?_⟩
          · simp [hT, hlt, hw, e]
          · show 1000 - ((t + 1 : Nat) : Int).toNat < 1000 - ((t : Nat) : Int).toNat; omega
        · have hwant : ∀ b ∈ want 0, 0 ≤ b ∧ b ≤ 255 := v1
          have hlw : nexts 0 < (want 0).length := by show nexts 0 < x1.length; omega
          rcases vk_step (n := 1) (w := 0) (by decide) (by decide) hwant hinv hlw (b := x1[nexts 0]?.getD 0) rfl (fun v => rfl) hN0 with ⟨hd, he, hi, hinv'⟩ | ⟨hd, r, hr, hinv'⟩
          · refine ⟨[.int (t + 1 : Nat), .list (((upd ins 0 ((ins 0).set (kkB (x1[nexts 0]?.getD 0)) (putB (x1[nexts 0]?.getD 0)))) 0).map .bool), .list (((upd logs 0 []) 0).map encib), .int ((upd nexts 0 (nexts 0 + 1)) 0 : Nat), .list (m.map .int)], ?_, rfl, ⟨t + 1, _, _, _, m, rfl, by omega, hinv'⟩, ?_⟩
            · have hx : (decide ((ins 0)[kkB (x1[nexts 0]?.getD 0)]?.getD false ≠ putB (x1[nexts 0]?.getD 0))) = !((ins 0)[kkB (x1[nexts 0]?.getD 0)]?.getD false == putB (x1[nexts 0]?.getD 0)) := by cases (ins 0)[kkB (x1[nexts 0]?.getD 0)]?.getD false <;> cases putB (x1[nexts 0]?.getD 0) <;> rfl
              rw [hx] at hi
              have l1 : ((logs 0).length : Int) ≤ 1000000 := by omega
              have l2 : ¬ (4 : Int) ≤ kkB (x1[nexts 0]?.getD 0) := by omega
              have l3 : ¬ ((ins 0).length : Int) ≤ kkB (x1[nexts 0]?.getD 0) := by omega
              simp [hT, hlt, hw, e, hd, he, hi, l1, l2, l3, upd, List.map_set]
            · show 1000 - ((t + 1 : Nat) : Int).toNat < 1000 - ((t : Nat) : Int).toNat; omega
          · refine ⟨[.int (t + 1 : Nat), .list ((ins 0).map .bool), .list (((upd logs 0 (logs 0 ++ [r])) 0).map encib), .int (nexts 0 : Nat), .list ((doM m N0.k N0.c N0.o N0.n N0.s).1.map .int)], ?_, rfl, ⟨t + 1, _, _, _, _, rfl, by omega, hinv'⟩, ?_⟩
            · have l1 : ((logs 0).length : Int) ≤ 1000000 := by omega
              have l4 : (m.length : Int) ≤ 1000000 := by omega
              have hr1 : (doM m N0.k N0.c N0.o N0.n N0.s).2.1 = r := by rw [hr]
              have hr2 : (doM m N0.k N0.c N0.o N0.n N0.s).2.2 = 0 := by rw [hr]
              simp [hT, hlt, hw, e, hd, l1, l4, hr1, hr2, upd, encib]
            · show 1000 - ((t + 1 : Nat) : Int).toNat < 1000 - ((t : Nat) : Int).toNat; omega
    · have hw : (x2[t]?.getD 0).tmod 1 = 0 := by rw [Int.tmod_eq_emod_of_nonneg (by omega)]; omega
      rcases hw with hw
      · by_cases e : (x1.length : Int) ≤ nexts 0
        · refine ⟨[.int (t + 1 : Nat), .list ((ins 0).map .bool), .list ((logs 0).map encib), .int (nexts 0 : Nat), .list (m.map .int)], ?_, rfl, ⟨t + 1, ins, logs, nexts, m, rfl, by omega, vk_skip hinv⟩, ?_⟩
          · simp [hT, hlt, hw, e]
          · show 1000 - ((t + 1 : Nat) : Int).toNat < 1000 - ((t : Nat) : Int).toNat; omega
        · have hwant : ∀ b ∈ want 0, 0 ≤ b ∧ b ≤ 255 := v1
          have hlw : nexts 0 < (want 0).length := by show nexts 0 < x1.length; omega
          rcases vk_step (n := 1) (w := 0) (by decide) (by decide) hwant hinv hlw (b := x1[nexts 0]?.getD 0) rfl (fun v => rfl) hN0 with ⟨hd, he, hi, hinv'⟩ | ⟨hd, r, hr, hinv'⟩
          · refine ⟨[.int (t + 1 : Nat), .list (((upd ins 0 ((ins 0).set (kkB (x1[nexts 0]?.getD 0)) (putB (x1[nexts 0]?.getD 0)))) 0).map .bool), .list (((upd logs 0 []) 0).map encib), .int ((upd nexts 0 (nexts 0 + 1)) 0 : Nat), .list (m.map .int)], ?_, rfl, ⟨t + 1, _, _, _, m, rfl, by omega, hinv'⟩, ?_⟩
            · have hx : (decide ((ins 0)[kkB (x1[nexts 0]?.getD 0)]?.getD false ≠ putB (x1[nexts 0]?.getD 0))) = !((ins 0)[kkB (x1[nexts 0]?.getD 0)]?.getD false == putB (x1[nexts 0]?.getD 0)) := by cases (ins 0)[kkB (x1[nexts 0]?.getD 0)]?.getD false <;> cases putB (x1[nexts 0]?.getD 0) <;> rfl
              rw [hx] at hi
              have l1 : ((logs 0).length : Int) ≤ 1000000 := by omega
              have l2 : ¬ (4 : Int) ≤ kkB (x1[nexts 0]?.getD 0) := by omega
              have l3 : ¬ ((ins 0).length : Int) ≤ kkB (x1[nexts 0]?.getD 0) := by omega
              simp [hT, hlt, hw, e, hd, he, hi, l1, l2, l3, upd, List.map_set]
            · show 1000 - ((t + 1 : Nat) : Int).toNat < 1000 - ((t : Nat) : Int).toNat; omega
          · refine ⟨[.int (t + 1 : Nat), .list ((ins 0).map .bool), .list (((upd logs 0 (logs 0 ++ [r])) 0).map encib), .int (nexts 0 : Nat), .list ((doM m N0.k N0.c N0.o N0.n N0.s).1.map .int)], ?_, rfl, ⟨t + 1, _, _, _, _, rfl, by omega, hinv'⟩, ?_⟩
            · have l1 : ((logs 0).length : Int) ≤ 1000000 := by omega
              have l4 : (m.length : Int) ≤ 1000000 := by omega
              have hr1 : (doM m N0.k N0.c N0.o N0.n N0.s).2.1 = r := by rw [hr]
              have hr2 : (doM m N0.k N0.c N0.o N0.n N0.s).2.2 = 0 := by rw [hr]
              simp [hT, hlt, hw, e, hd, l1, l4, hr1, hr2, upd, encib]
            · show 1000 - ((t + 1 : Nat) : Int).toNat < 1000 - ((t : Nat) : Int).toNat; omega
theorem vK1_piece {w : World} {va vs us : List Value} {ds : List DV} {gs : List GI} (hgrp : Grp ([.one (.nest [.int .u8] 1), .one (.rows [.int .u8])].map NSh.sh) va vs) (hlk : Link w (nisOf [.one (.nest [.int .u8] 1), .one (.rows [.int .u8])]) vs us gs) (hrd : Reads w (flatN (nisOf [.one (.nest [.int .u8] 1), .one (.rows [.int .u8])])) us ds gs) (hw : Wts (flatN (nisOf [.one (.nest [.int .u8] 1), .one (.rows [.int .u8])])) ds) :
    Calls Try.prog 3 va.toArray w fun e w' => e = .returned (.bool true) ∧ Go.RowKit.Below w.heap.size w w' :=
  law_nest (X := ⟨Try.prog, vK1Sm, vK1La, true⟩) mo_nil (by decide +kernel) (Checked.mixed Try.checked) vK1S (by decide +kernel) vK1T (by decide +kernel) (vK1_main ds (reads_len hrd).2.1 hw) hgrp hlk hrd
end Go.Proofs.Ytgimbkpfhdodgaa
