/- The function disk.undone is a function of data. No condition. -/
import Derived.Test.YtljocjljkilkjaaRDRight
import Derived.Test.YtljocjljkilkjaaClS
import Derived.Test.YtljocjljkilkjaaRightC
import Derived.Test.YtljocjljkilkjaaBd
import Derived.Test.YtljocjljkilkjaaOpen
namespace Go.Proofs.Ytljocjljkilkjaa
set_option linter.unusedVariables false
set_option linter.unusedSimpArgs false
set_option maxRecDepth 100000

/-- What a sector held before the write j and all later ones. -/
def syncedM (sec : List (List UInt8)) (was : List Tis) (j : Nat) (at' : Int) : List UInt8 := match (was.drop j).find? (fun w => decide (w.1 = at')) with | some w => w.2 | none => sec[at'.toNat]?.getD []
def allSyncedM (sec : List (List UInt8)) (was : List Tis) (j : Nat) : List (List UInt8) := (List.range sec.length).map fun a : Nat => syncedM sec was j a
/-- What each write from j on wrote. -/
def putsM (sec : List (List UInt8)) (was : List Tis) (j : Nat) : List (List UInt8) := (List.range was.length).map fun i => if j ≤ i then syncedM sec was (i + 1) (was[i]?.getD dis).1 else []
theorem synced_step {sec : List (List UInt8)} {was : List Tis} {j : Nat} (hj : j < was.length) (a : Int) : syncedM sec was j a = if (was[j]?.getD dis).1 = a then (was[j]?.getD dis).2 else syncedM sec was (j + 1) a := by
  have e : was[j]?.getD dis = was[j] := by rw [List.getElem?_eq_getElem hj]; rfl
  unfold syncedM
  rw [e, List.drop_eq_getElem_cons hj, List.find?_cons]
  by_cases h : was[j].1 = a
  · simp [h]
  · simp [h]
theorem synced_end (sec : List (List UInt8)) (was : List Tis) (a : Int) : syncedM sec was was.length a = sec[a.toNat]?.getD [] := by
  unfold syncedM
  rw [List.drop_length]
  rfl
theorem allSynced_len (sec : List (List UInt8)) (was : List Tis) (j : Nat) : (allSyncedM sec was j).length = sec.length := by simp [allSyncedM]
theorem allSynced_get {sec : List (List UInt8)} {was : List Tis} {j : Nat} {a : Nat} (h : a < sec.length) : (allSyncedM sec was j)[a]?.getD [] = syncedM sec was j a := by simp [allSyncedM, h]
theorem allSynced_end (sec : List (List UInt8)) (was : List Tis) : allSyncedM sec was was.length = sec := by
  apply List.ext_getElem?
  intro i
  by_cases hi : i < sec.length
  · simp [allSyncedM, hi, synced_end]
  · rw [List.getElem?_eq_none (by rw [allSynced_len]; omega), List.getElem?_eq_none (by omega)]
theorem allSynced_step {sec : List (List UInt8)} {was : List Tis} {j : Nat} (hj : j < was.length) (h0 : 0 ≤ (was[j]?.getD dis).1) (h1 : (was[j]?.getD dis).1 < sec.length) :
    (allSyncedM sec was (j + 1)).set (was[j]?.getD dis).1.toNat (was[j]?.getD dis).2 = allSyncedM sec was j := by
  apply List.ext_getElem?
  intro i
  by_cases hi : i < sec.length
  · have e : (allSyncedM sec was j)[i]? = some (syncedM sec was j i) := by simp [allSyncedM, hi]
    have e' : (allSyncedM sec was (j + 1))[i]? = some (syncedM sec was (j + 1) i) := by simp [allSyncedM, hi]
    rw [e, synced_step hj]
    by_cases hw : (was[j]?.getD dis).1 = (i : Int)
    · have : (was[j]?.getD dis).1.toNat = i := by omega
      rw [this, List.getElem?_set_self (by rw [allSynced_len]; exact hi), if_pos hw]
    · rw [List.getElem?_set_ne (by omega), e', if_neg hw]
  · rw [List.getElem?_eq_none (by rw [List.length_set, allSynced_len]; omega), List.getElem?_eq_none (by rw [allSynced_len]; omega)]
theorem puts_len (sec : List (List UInt8)) (was : List Tis) (j : Nat) : (putsM sec was j).length = was.length := by simp [putsM]
theorem puts_end (sec : List (List UInt8)) (was : List Tis) : putsM sec was was.length = List.replicate was.length [] := by
  apply List.ext_getElem?
  intro i
  by_cases hi : i < was.length
  · simp [putsM, hi]; omega
  · rw [List.getElem?_eq_none (by rw [puts_len]; omega), List.getElem?_eq_none (by simp; omega)]
theorem puts_step {sec : List (List UInt8)} {was : List Tis} {j : Nat} (hj : j < was.length) : (putsM sec was (j + 1)).set j (syncedM sec was (j + 1) (was[j]?.getD dis).1) = putsM sec was j := by
  apply List.ext_getElem?
  intro i
  by_cases hi : i < was.length
  · by_cases hij : i = j
    · subst hij
      rw [List.getElem?_set_self (by rw [puts_len]; exact hi)]
      simp [putsM, hi]
    · rw [List.getElem?_set_ne (by omega)]
      simp only [putsM, List.getElem?_map, List.getElem?_range hi, Option.map_some]
      by_cases h : j ≤ i
      · rw [if_pos h, if_pos (by omega)]
      · rw [if_neg h, if_neg (by omega)]
  · rw [List.getElem?_eq_none (by rw [List.length_set, puts_len]; omega), List.getElem?_eq_none (by rw [puts_len]; omega)]
theorem right_was {sec : List (List UInt8)} {was : List Tis} (h : rightDM sec was = true) {i : Nat} (hi : i < was.length) : 0 ≤ (was[i]?.getD dis).1 ∧ (was[i]?.getD dis).1 < sec.length ∧ ((was[i]?.getD dis).2.length : Int) = 32 := by
  unfold rightDM at h
  simp only [Bool.and_eq_true] at h
  have := List.all_eq_true.1 h.2.2 (was[i]) (List.getElem_mem hi)
  rw [List.getElem?_eq_getElem hi]
  exact of_decide_eq_true this
theorem right_sec {sec : List (List UInt8)} {was : List Tis} (h : rightDM sec was = true) {i : Nat} (hi : i < sec.length) : ((sec[i]?.getD []).length : Int) = 32 := by
  unfold rightDM at h
  simp only [Bool.and_eq_true] at h
  have := List.all_eq_true.1 h.2.1 (sec[i]) (List.getElem_mem hi)
  rw [List.getElem?_eq_getElem hi]
  exact of_decide_eq_true this
theorem raw_is_1 {l : List Tis} {j : Nat} (h : j < l.length) : (((((l.map encis)[j]?).getD (DV.int 0)).l[1]?).getD (DV.int 0)) = .str ((l[j]?).getD dis).2 := by rw [List.getElem?_map, List.getElem?_eq_getElem h]; rfl
theorem raw_s {l : List (List UInt8)} {j : Nat} (h : j < l.length) : ((l.map DV.str)[j]?).getD (DV.int 0) = .str ((l[j]?).getD []) := by rw [List.getElem?_map, List.getElem?_eq_getElem h]; rfl
def undoneE (sec : List (List UInt8)) (was : List Tis) : List DV := [.list ((allSyncedM sec was 0).map DV.str), .list ((putsM sec was 0).map DV.str)]

def undoneF (ds : List DV) : List DV := undoneE (gLs ds 0) (gLis ds 1)
/-- What the executor makes of it. -/
def undoneTree : PT :=
(.asrt (.bin .le (.un .len (.var 0)) (.int 1000000))
 (.asrt (.bin .le (.un .len (.var 1)) (.int 1000000))
  (.loop 2 [(.var 1), (.bin .rep (.un .len (.var 1)) (.str [])), (.bin .idx (.fn 65 (.bin .cons (.var 0) .nil)) (.int 0))]
   (.br (.un .not (.bin .le (.un .len (.var 2)) (.int 0)))
    (.asrt (.bin .le (.int 0) (.un (.wrap .i64) (.bin .sub (.un .len (.var 2)) (.int 1))))
     (.asrt (.un .not (.bin .le (.un .len (.var 2)) (.un (.wrap .i64) (.bin .sub (.un .len (.var 2)) (.int 1)))))
      (.asrt (.bin .le (.int 0) (.bin .idx (.bin .idx (.var 2) (.bin .add (.int 0) (.un (.wrap .i64) (.bin .sub (.un .len (.var 2)) (.int 1))))) (.int 0)))
       (.asrt (.un .not (.bin .le (.un .len (.bin .idx (.fn 65 (.bin .cons (.var 0) .nil)) (.int 0))) (.bin .idx (.bin .idx (.var 2) (.bin .add (.int 0) (.un (.wrap .i64) (.bin .sub (.un .len (.var 2)) (.int 1))))) (.int 0))))
        (.asrt (.un .not (.bin .le (.un .len (.var 4)) (.bin .add (.int 0) (.bin .idx (.bin .idx (.var 2) (.bin .add (.int 0) (.un (.wrap .i64) (.bin .sub (.un .len (.var 2)) (.int 1))))) (.int 0)))))
         (.asrt (.un .not (.bin .le (.un .len (.var 1)) (.un (.wrap .i64) (.bin .sub (.un .len (.var 2)) (.int 1)))))
          (.asrt (.un .not (.bin .le (.un .len (.var 3)) (.bin .add (.int 0) (.un (.wrap .i64) (.bin .sub (.un .len (.var 2)) (.int 1))))))
           (.leaf [(.bin .take (.bin .drop (.var 2) (.int 0)) (.bin .sub (.un (.wrap .i64) (.bin .sub (.un .len (.var 2)) (.int 1))) (.int 0))), (.tri .set (.var 3) (.bin .add (.int 0) (.un (.wrap .i64) (.bin .sub (.un .len (.var 2)) (.int 1)))) (.bin .idx (.var 4) (.bin .add (.int 0) (.bin .idx (.bin .idx (.var 2) (.bin .add (.int 0) (.un (.wrap .i64) (.bin .sub (.un .len (.var 2)) (.int 1))))) (.int 0))))), (.tri .set (.var 4) (.bin .add (.int 0) (.bin .idx (.bin .idx (.var 2) (.bin .add (.int 0) (.un (.wrap .i64) (.bin .sub (.un .len (.var 2)) (.int 1))))) (.int 0))) (.bin .idx (.bin .idx (.var 2) (.bin .add (.int 0) (.un (.wrap .i64) (.bin .sub (.un .len (.var 2)) (.int 1))))) (.int 1)))]))))))))
    .fail)
   (.br (.un .not (.bin .le (.un .len (.var 2)) (.int 0)))
    (.asrt (.bin .le (.int 0) (.un (.wrap .i64) (.bin .sub (.un .len (.var 2)) (.int 1))))
     (.asrt (.un .not (.bin .le (.un .len (.var 2)) (.un (.wrap .i64) (.bin .sub (.un .len (.var 2)) (.int 1)))))
      (.asrt (.bin .le (.int 0) (.bin .idx (.bin .idx (.var 2) (.bin .add (.int 0) (.un (.wrap .i64) (.bin .sub (.un .len (.var 2)) (.int 1))))) (.int 0)))
       (.asrt (.un .not (.bin .le (.un .len (.bin .idx (.fn 65 (.bin .cons (.var 0) .nil)) (.int 0))) (.bin .idx (.bin .idx (.var 2) (.bin .add (.int 0) (.un (.wrap .i64) (.bin .sub (.un .len (.var 2)) (.int 1))))) (.int 0))))
        (.asrt (.un .not (.bin .le (.un .len (.var 4)) (.bin .add (.int 0) (.bin .idx (.bin .idx (.var 2) (.bin .add (.int 0) (.un (.wrap .i64) (.bin .sub (.un .len (.var 2)) (.int 1))))) (.int 0)))))
         (.asrt (.un .not (.bin .le (.un .len (.var 1)) (.un (.wrap .i64) (.bin .sub (.un .len (.var 2)) (.int 1)))))
          (.asrt (.un .not (.bin .le (.un .len (.var 3)) (.bin .add (.int 0) (.un (.wrap .i64) (.bin .sub (.un .len (.var 2)) (.int 1))))))
           .fail)))))))
    (.asrt (.bin .le (.bin .add (.int 0) (.un .len (.bin .idx (.fn 65 (.bin .cons (.var 0) .nil)) (.int 0)))) (.un .len (.var 4)))
     (.asrt (.bin .le (.bin .add (.int 0) (.un .len (.var 1))) (.un .len (.var 3)))
      (.leaf [(.bin .take (.bin .drop (.var 4) (.int 0)) (.un .len (.bin .idx (.fn 65 (.bin .cons (.var 0) .nil)) (.int 0)))), (.bin .take (.bin .drop (.var 3) (.int 0)) (.un .len (.var 1)))])))))))

def undoneSm : List (Nat × Smy) := [(11, ⟨78, [.agg [.rows false [.str], .rows false [.int .i64, .str]]], [.one (.pl .bool)], lenC [(0, 1000000), (1, 1000000)], none⟩), (34, ⟨65, [.one (.rows false [.str])], [.one (.rows true [.str])], lenC [(0, 1000000)], none⟩)]
def undoneLa : List (LK × LA) := [(⟨50, 4, 5, 2⟩, ⟨[(4, (.sl 5 2 (.int 0) (.un .len (.var 2)) none)), (5, .any), (15, .any), (16, .any), (17, .any), (18, .any), (19, .any), (20, .any), (21, .any), (22, .any), (23, .any), (24, .any), (25, .any), (26, .any), (27, .any), (28, .any), (29, .any), (30, .any), (31, .any), (32, .any), (33, .any), (34, .any), (35, .any), (36, .any), (37, .any), (38, .any), (39, .any), (40, .any), (41, .any), (42, .any), (43, .any), (44, .any), (45, .any), (46, .any), (47, .any)], [(4, (.rows [.str] (.var 3))), (3, (.rows [.str] (.var 4))), (5, (.ro [.int .i64, .str] (.var 2)))], [], 3, 1⟩)]
def undonePhi : Nat → DV → DV := fun n d => match n with
  | 78 => .list (rDRightF d.l)
  | 65 => .list (clSF d.l)
  | _ => d
theorem undoneS : SmyOk Try.prog undonePhi undoneSm := (smy_cons (lenP [(0, 1000000), (1, 1000000)]) rDRightF rDRight_pure (len_hp [(0, 1000000), (1, 1000000)]) (fun _ => rfl) (fun _ h => by cases h) (smy_cons (lenP [(0, 1000000)]) clSF clS_pure (len_hp [(0, 1000000)]) (fun _ => rfl) (fun _ h => by cases h) smy_nil))
theorem undoneT : treeOk ⟨Try.prog, undoneSm, undoneLa⟩ 4000 36 [.agg [.rows false [.str], .rows false [.int .i64, .str]]] [.one (.rows true [.str]), .one (.rows true [.str])] ([]) undoneTree = true := by decide +kernel
set_option maxHeartbeats 1000000 in
theorem undone_pure : Pure Try.prog 36 [.agg [.rows false [.str], .rows false [.int .i64, .str]]] [.one (.rows true [.str]), .one (.rows true [.str])] (fun ds => (lenP [(0, 1000000), (1, 1000000)]) ds ∧ rightDM (gLs ds 0) (gLis ds 1) = true) undoneF := by
  refine pure_tree (X := ⟨Try.prog, undoneSm, undoneLa⟩) (Checked.mixed Try.checked) undoneS (by decide +kernel) (by decide +kernel) undoneT (by decide +kernel) ?_
  intro ds hl hp
  obtain ⟨d0, d1, rfl⟩ := len2 hl
  have b0 : (d0.l.length : Int) ≤ 1000000 := hp.1 (0, 1000000) (by simp)
  have b1 : (d1.l.length : Int) ≤ 1000000 := hp.1 (1, 1000000) (by simp)
  have hx : rightDM (d0.l.map DV.s) (d1.l.map decis) = true := hp.2
  have hF : undoneF [d0, d1] = undoneE (d0.l.map DV.s) (d1.l.map decis) := rfl
  rw [hF]
  clear hF hp hl
  have hN : nrmL (clsOf [.agg [.rows false [.str], .rows false [.int .i64, .str]]]) [d0, d1] = [.list ((d0.l.map DV.s).map DV.str), .list ((d1.l.map decis).map encis)] := by
    simp only [clsOf, Sh.cls, List.append_nil, List.cons_append, List.nil_append, nrmL, Cl.nrm, CK.nrm, map_Lis, map_Ls]
  rw [hN]
  clear hN
  rw [← List.length_map (f := DV.s)] at b0
  generalize d0.l.map DV.s = x0 at b0 hx ⊢
  rw [← List.length_map (f := decis)] at b1
  generalize d1.l.map decis = x1 at b1 hx ⊢
  refine ⟨facts_nil _, ?_⟩
  unfold undoneTree undoneE
  simp only [Sat, clsOf, Sh.cls, List.append_nil, List.cons_append, List.nil_append, nrmL, Cl.nrm, CK.nrm, List.map_cons, List.map_nil, List.length_cons, List.length_nil, List.cons.injEq, DV.bool.injEq, DV.int.injEq, DV.list.injEq, DV.str.injEq, and_true, true_and]
  try simp only [q_le, q_eq, q_eqs, q_eqb, q_and, q_or, q_not, q_bool, iff_true, iff_false, Bool.not_true, Bool.not_false, Bool.false_eq_true, Bool.true_eq_false, eq_self, Bool.not_not]
  simp only [Bool.not_true, Bool.not_false, Bool.true_eq_false, SE.den, evU, evT, ev_le, ev_eq, ev_eqs, ev_eqb, ev_slt, ev_and, ev_or, ev_add, ev_sub, ev_mul, ev_tdiv, ev_tmod, ev_band, ev_bor, ev_bxor, ev_bandn, ev_shl, ev_shr, ev_cat, ev_byte, ev_idx, ev_cons, ev_snoc, ev_app, ev_take, ev_drop, ev_stake, ev_sdrop, ev_rep, leB_q, eqB_q, eqsB_q, not_q, i_if, b_if, l_if, s_if, i_int, b_bool, s_str, l_list, envL, List.getElem?_cons_succ, List.getElem?_cons_zero, List.getElem?_nil, Option.getD_some, Option.getD_none, Int.toNat_natCast, Int.toNat_zero, Int.reduceToNat, List.length_map, get_Li, get_Lb, get_Ls, set_Li, inj_Li, inj_Lb, inj_Ls, rows_i, rows_b, rows_s, Int.zero_add, iff_true, iff_false, and_true, true_and, Bool.false_eq_true, eq_self, not_true_eq_false, not_false_eq_true, List.length_replicate, DV.int.injEq, DV.bool.injEq, DV.str.injEq, DV.list.injEq, List.cons.injEq, f_is_0, rows_is, inj_Lis, f_is_1, rows_is, inj_Lis, undonePhi, rDRightF, rDRightE, clSF, clSE, gi, gb, gs, gLi, gLu, gLb, gLs, dece_i, dece_b, dece_s, gLis, deces_is]
  have hzz : List.replicate x1.length (DV.str []) = (putsM x0 x1 x1.length).map DV.str := by rw [puts_end, List.map_replicate]
  have hss : x0.map DV.str = (allSyncedM x0 x1 x1.length).map DV.str := by rw [allSynced_end]
  have h0 : [DV.list (List.map encis x1), DV.list (List.replicate x1.length (DV.str [])), DV.list (List.map DV.str x0)] = (fun i => [.list ((x1.take (x1.length - i)).map encis), .list ((putsM x0 x1 (x1.length - i)).map DV.str), .list ((allSyncedM x0 x1 (x1.length - i)).map DV.str)]) 0 := by
    simp only [Nat.sub_zero, List.take_length, ← hzz, ← hss]
  refine ⟨by omega, by omega, ?_⟩
  refine rounds_at x1.length (fun i => [.list ((x1.take (x1.length - i)).map encis), .list ((putsM x0 x1 (x1.length - i)).map DV.str), .list ((allSyncedM x0 x1 (x1.length - i)).map DV.str)]) h0 (fun _ => rfl) (fun i hi => ?_) ?_
  · obtain ⟨j, hj⟩ : ∃ j, x1.length - i = j + 1 := ⟨x1.length - i - 1, by omega⟩
    have hj2 : x1.length - (i + 1) = j := by omega
    have hjl : j < x1.length := by omega
    rw [hj, hj2]
    obtain ⟨w0, w1, w2⟩ := right_was hx hjl
    have hlen : (List.map encis (List.take (j + 1) x1)).length = j + 1 := by simp; omega
    have hw : IntKind.i64.wrap (((j + 1 : Nat) : Int) - 1) = j := by rw [w64 (by omega) (by omega)]; omega
    have ht : (List.take (j + 1) x1)[j]?.getD dis = x1[j]?.getD dis := by rw [List.getElem?_take, if_pos (by omega)]
    have hr : (((((List.take (j + 1) x1).map encis)[j]?).getD (DV.int 0)).l[1]?).getD (DV.int 0) = .str (x1[j]?.getD dis).2 := by rw [raw_is_1 (by simp; omega), ht]
    have hwn : (x1[j]?.getD dis).1.toNat < x0.length := by omega
    have hsec : ((List.map DV.str (allSyncedM x0 x1 (j + 1)))[(x1[j]?.getD dis).1.toNat]?).getD (DV.int 0) = .str (syncedM x0 x1 (j + 1) (x1[j]?.getD dis).1) := by
      rw [raw_s (by rw [allSynced_len]; exact hwn), allSynced_get hwn]
      congr 2
      omega
    have e1 : ¬ (((j + 1 : Nat) : Int) ≤ 0) := by omega
    have e2 : ¬ (((j + 1 : Nat) : Int) ≤ j) := by omega
    have e3 : ¬ ((x0.length : Int) ≤ (x1[j]?.getD dis).1) := by omega
    have e4 : ¬ ((x1.length : Int) ≤ j) := by omega
    simp only [Bool.not_true, Bool.not_false, Bool.true_eq_false, SE.den, evU, evT, ev_le, ev_eq, ev_eqs, ev_eqb, ev_slt, ev_and, ev_or, ev_add, ev_sub, ev_mul, ev_tdiv, ev_tmod, ev_band, ev_bor, ev_bxor, ev_bandn, ev_shl, ev_shr, ev_cat, ev_byte, ev_idx, ev_cons, ev_snoc, ev_app, ev_take, ev_drop, ev_stake, ev_sdrop, ev_rep, leB_q, eqB_q, eqsB_q, not_q, i_if, b_if, l_if, s_if, i_int, b_bool, s_str, l_list, envL, List.getElem?_cons_succ, List.getElem?_cons_zero, List.getElem?_nil, Option.getD_some, Option.getD_none, Int.toNat_natCast, Int.toNat_zero, Int.reduceToNat, List.length_map, get_Li, get_Lb, get_Ls, set_Li, inj_Li, inj_Lb, inj_Ls, rows_i, rows_b, rows_s, Int.zero_add, iff_true, iff_false, and_true, true_and, Bool.false_eq_true, eq_self, not_true_eq_false, not_false_eq_true, List.length_replicate, DV.int.injEq, DV.bool.injEq, DV.str.injEq, DV.list.injEq, List.cons.injEq, f_is_0, rows_is, inj_Lis, f_is_1, rows_is, inj_Lis, hlen, hw, ht, hr, hsec, e1, e2, e3, e4, w0, Int.sub_zero, List.drop_zero, allSynced_len, puts_len, List.length_take]
    have p1 := puts_step (sec := x0) hjl
    have p2 := allSynced_step hjl w0 w1
    have g1 : List.map DV.str (putsM x0 x1 j) = (List.map DV.str (putsM x0 x1 (j + 1))).set j (.str (syncedM x0 x1 (j + 1) (x1[j]?.getD dis).1)) := by rw [← p1, List.map_set]
    have g2 : List.map DV.str (allSyncedM x0 x1 j) = (List.map DV.str (allSyncedM x0 x1 (j + 1))).set (x1[j]?.getD dis).1.toNat (.str (x1[j]?.getD dis).2) := by rw [← p2, List.map_set]
    have g3 : List.take j (List.map encis (List.take (j + 1) x1)) = List.map encis (List.take j x1) := by rw [← List.map_take, List.take_take, Nat.min_eq_left (by omega)]
    rw [g1, g2, ← g3]
    simp
    try omega
  · simp only [Bool.not_true, Bool.not_false, Bool.true_eq_false, SE.den, evU, evT, ev_le, ev_eq, ev_eqs, ev_eqb, ev_slt, ev_and, ev_or, ev_add, ev_sub, ev_mul, ev_tdiv, ev_tmod, ev_band, ev_bor, ev_bxor, ev_bandn, ev_shl, ev_shr, ev_cat, ev_byte, ev_idx, ev_cons, ev_snoc, ev_app, ev_take, ev_drop, ev_stake, ev_sdrop, ev_rep, leB_q, eqB_q, eqsB_q, not_q, i_if, b_if, l_if, s_if, i_int, b_bool, s_str, l_list, envL, List.getElem?_cons_succ, List.getElem?_cons_zero, List.getElem?_nil, Option.getD_some, Option.getD_none, Int.toNat_natCast, Int.toNat_zero, Int.reduceToNat, List.length_map, get_Li, get_Lb, get_Ls, set_Li, inj_Li, inj_Lb, inj_Ls, rows_i, rows_b, rows_s, Int.zero_add, iff_true, iff_false, and_true, true_and, Bool.false_eq_true, eq_self, not_true_eq_false, not_false_eq_true, List.length_replicate, DV.int.injEq, DV.bool.injEq, DV.str.injEq, DV.list.injEq, List.cons.injEq, f_is_0, rows_is, inj_Lis, f_is_1, rows_is, inj_Lis, Nat.sub_self, List.take_zero, List.map_nil, List.length_nil, allSynced_len, puts_len, List.drop_zero]
    have t1 : List.take x0.length (List.map DV.str (allSyncedM x0 x1 0)) = List.map DV.str (allSyncedM x0 x1 0) := List.take_of_length_le (by rw [List.length_map, allSynced_len]; exact Nat.le_refl _)
    have t2 : List.take x1.length (List.map DV.str (putsM x0 x1 0)) = List.map DV.str (putsM x0 x1 0) := List.take_of_length_le (by rw [List.length_map, puts_len]; exact Nat.le_refl _)
    rw [t1, t2]
    simp
    exact ⟨fun _ _ => rfl, fun _ _ => rfl⟩
end Go.Proofs.Ytljocjljkilkjaa
