/- The function wire.Get is a function of data. No condition. -/
import Derived.Test.YtkfjgggiopegbaaDoorWalM
import Derived.Test.YtkfjgggiopegbaaDoorBd
import Derived.Test.YtkfjgggiopegbaaDoorOpen
namespace Go.Proofs.YtkfjgggiopegbaaDoor
set_option linter.unusedVariables false
set_option linter.unusedSimpArgs false
set_option maxRecDepth 100000

def getD3 : Option (Int × Nat) → List DV
  | none => [.int 0, .int 0, .int 3]
  | some p => [.int p.1, .int p.2, .int 0]
theorem nrm_D3 (o : Option (Int × Nat)) : nrmL [Cl.pl (CK.int IntKind.i64), Cl.pl (CK.int IntKind.i64), Cl.pl (CK.int IntKind.i64)] (getD3 o) = getD3 o := by cases o <;> rfl
theorem getRG_cons (x : Int) (r : List Int) (k : Nat) (u : Int) : getRG (x :: r) k u = if 9 < k ∨ (k = 9 ∧ 1 < x) then none else if x < 128 then (if x = 0 ∧ 0 < k then none else some (accR u x k, k + 1)) else getRG r (k + 1) (accR u x k) := rfl
def wGetE (b : List Int) : List DV := getD3 (getR b)

def wGetF (ds : List DV) : List DV := wGetE (gLi ds 0)
/-- What the executor makes of it. -/
def wGetTree : PT :=
(.loop 1 [(.int 0), (.int 0)]
 (.br (.un .not (.bin .le (.un .len (.var 0)) (.var 2)))
  (.asrt (.bin .le (.int 0) (.var 2))
   (.br (.bin .eq (.var 2) (.int 9))
    .fail
    (.br (.un .not (.bin .le (.var 2) (.int 9)))
     .fail
     (.br (.un .not (.bin .le (.int 128) (.bin .idx (.var 0) (.bin .add (.int 0) (.var 2)))))
      .fail
      (.leaf [(.bin (.bor .u64) (.var 1) (.bin (.shl .u64) (.un (.wrap .u64) (.bin (.bandn .u8) (.bin .idx (.var 0) (.bin .add (.int 0) (.var 2))) (.int 128))) (.un (.wrap .i64) (.bin .mul (.int 7) (.var 2))))), (.un (.wrap .i64) (.bin .add (.var 2) (.int 1)))])))))
  .fail)
 (.br (.un .not (.bin .le (.un .len (.var 0)) (.var 2)))
  (.asrt (.bin .le (.int 0) (.var 2))
   (.br (.bin .eq (.var 2) (.int 9))
    (.br (.un .not (.bin .le (.bin .idx (.var 0) (.bin .add (.int 0) (.var 2))) (.int 1)))
     (.leaf [(.int 0), (.int 0), (.int 3)])
     (.br (.bin .eq (.bin .idx (.var 0) (.bin .add (.int 0) (.var 2))) (.int 0))
      (.leaf [(.int 0), (.int 0), (.int 3)])
      (.leaf [(.bin (.bxor .i64) (.un (.wrap .i64) (.bin (.shr .u64) (.bin (.bor .u64) (.var 1) (.bin (.shl .u64) (.un (.wrap .u64) (.bin (.bandn .u8) (.bin .idx (.var 0) (.bin .add (.int 0) (.var 2))) (.int 128))) (.un (.wrap .i64) (.bin .mul (.int 7) (.var 2))))) (.int 1))) (.un (.wrap .i64) (.bin .sub (.int 0) (.un (.wrap .i64) (.bin (.band .u64) (.bin (.bor .u64) (.var 1) (.bin (.shl .u64) (.un (.wrap .u64) (.bin (.bandn .u8) (.bin .idx (.var 0) (.bin .add (.int 0) (.var 2))) (.int 128))) (.un (.wrap .i64) (.bin .mul (.int 7) (.var 2))))) (.int 1)))))), (.un (.wrap .i64) (.bin .add (.var 2) (.int 1))), (.int 0)])))
    (.br (.un .not (.bin .le (.var 2) (.int 9)))
     (.leaf [(.int 0), (.int 0), (.int 3)])
     (.br (.un .not (.bin .le (.int 128) (.bin .idx (.var 0) (.bin .add (.int 0) (.var 2)))))
      (.br (.bin .eq (.bin .idx (.var 0) (.bin .add (.int 0) (.var 2))) (.int 0))
       (.br (.un .not (.bin .le (.var 2) (.int 0)))
        (.leaf [(.int 0), (.int 0), (.int 3)])
        (.leaf [(.bin (.bxor .i64) (.un (.wrap .i64) (.bin (.shr .u64) (.bin (.bor .u64) (.var 1) (.bin (.shl .u64) (.un (.wrap .u64) (.bin (.bandn .u8) (.bin .idx (.var 0) (.bin .add (.int 0) (.var 2))) (.int 128))) (.un (.wrap .i64) (.bin .mul (.int 7) (.var 2))))) (.int 1))) (.un (.wrap .i64) (.bin .sub (.int 0) (.un (.wrap .i64) (.bin (.band .u64) (.bin (.bor .u64) (.var 1) (.bin (.shl .u64) (.un (.wrap .u64) (.bin (.bandn .u8) (.bin .idx (.var 0) (.bin .add (.int 0) (.var 2))) (.int 128))) (.un (.wrap .i64) (.bin .mul (.int 7) (.var 2))))) (.int 1)))))), (.un (.wrap .i64) (.bin .add (.var 2) (.int 1))), (.int 0)]))
       (.leaf [(.bin (.bxor .i64) (.un (.wrap .i64) (.bin (.shr .u64) (.bin (.bor .u64) (.var 1) (.bin (.shl .u64) (.un (.wrap .u64) (.bin (.bandn .u8) (.bin .idx (.var 0) (.bin .add (.int 0) (.var 2))) (.int 128))) (.un (.wrap .i64) (.bin .mul (.int 7) (.var 2))))) (.int 1))) (.un (.wrap .i64) (.bin .sub (.int 0) (.un (.wrap .i64) (.bin (.band .u64) (.bin (.bor .u64) (.var 1) (.bin (.shl .u64) (.un (.wrap .u64) (.bin (.bandn .u8) (.bin .idx (.var 0) (.bin .add (.int 0) (.var 2))) (.int 128))) (.un (.wrap .i64) (.bin .mul (.int 7) (.var 2))))) (.int 1)))))), (.un (.wrap .i64) (.bin .add (.var 2) (.int 1))), (.int 0)]))
      .fail))))
  (.leaf [(.int 0), (.int 0), (.int 3)])))

def wGetSm : List (Nat × Smy) := []
def wGetLa : List (LK × LA) := [(⟨52, 3, 1, 1, 0⟩, ⟨[(5, (.int .u64 (.var 1))), (6, .any), (7, .any), (10, (.int .i64 (.var 2))), (11, .any), (12, .any), (13, .any), (14, .any), (15, .any), (16, .any), (17, .any), (18, .any), (19, .any), (20, .any), (21, .any), (22, .any), (23, .any), (24, .any), (25, .any), (26, .any), (27, .any), (28, .any), (29, .any), (30, .any), (31, .any), (32, .any), (33, .any), (34, .any), (35, .any), (36, .any), (37, .any), (38, .any), (39, .any), (40, .any), (41, .any), (42, .any), (43, .any), (44, .any), (45, .any), (46, .any), (47, .any), (48, .any), (49, .any), (50, .any), (51, .any)], [], [], 2, 0⟩)]
def wGetPhi : Fs := ⟨fun n d => match n with
  | _ => d, 147⟩
theorem wGetS : SmyOk true Tryd.prog wGetPhi wGetSm := smy_nil
theorem wGetT : treeOk ⟨Tryd.prog, wGetSm, wGetLa, true⟩ 4000 100 [.one (.rows false [.int .u8])] [.one (.pl (.int .i64)), .one (.pl (.int .i64)), .one (.pl (.int .i64))] ([]) wGetTree = true := by decide +kernel
set_option maxHeartbeats 1000000 in
theorem wGet_pure : PureE true Tryd.prog 100 [.one (.rows false [.int .u8])] [.one (.pl (.int .i64)), .one (.pl (.int .i64)), .one (.pl (.int .i64))] (lenP [(0, 1000000)]) wGetF := by
  refine pure_tree (X := ⟨Tryd.prog, wGetSm, wGetLa, true⟩) (by decide +kernel) (Checked.mixed Tryd.checked) wGetS (by decide +kernel) (by decide +kernel) wGetT (by decide +kernel) ?_
  intro ds hl hp
  obtain ⟨d0, rfl⟩ := len1 hl
  have b0 : (d0.l.length : Int) ≤ 1000000 := hp (0, 1000000) (by simp)
  have hF : wGetF [d0] = wGetE (d0.l.map DV.i) := rfl
  rw [hF]
  clear hF hp hl
  have hN : nrmL (clsOf [.one (.rows false [.int .u8])]) [d0] = [.list ((d0.l.map DV.i).map DV.int)] := by
    simp only [clsOf, Sh.cls, List.append_nil, List.cons_append, List.nil_append, nrmL, Cl.nrm, CK.nrm, map_Li]
  rw [hN]
  clear hN
  rw [← List.length_map (f := DV.i)] at b0
  generalize d0.l.map DV.i = x0 at b0 ⊢
  refine ⟨facts_nil _, ?_⟩
  unfold wGetTree wGetE
  simp only [Sat, clsOf, Sh.cls, List.append_nil, List.cons_append, List.nil_append, nrmL, Cl.nrm, CK.nrm, List.map_cons, List.map_nil, List.length_cons, List.length_nil, List.cons.injEq, DV.bool.injEq, DV.int.injEq, DV.list.injEq, DV.str.injEq, and_true, true_and]
  try simp only [q_le, q_eq, q_eqs, q_eqb, q_and, q_or, q_not, q_bool, iff_true, iff_false, Bool.not_true, Bool.not_false, Bool.false_eq_true, Bool.true_eq_false, eq_self, Bool.not_not]
  simp only [Bool.not_true, Bool.not_false, Bool.true_eq_false, SE.den, evU, evT, ev_le, ev_eq, ev_eqs, ev_eqb, ev_slt, ev_and, ev_or, ev_add, ev_sub, ev_mul, ev_tdiv, ev_tmod, ev_band, ev_bor, ev_bxor, ev_bandn, ev_shl, ev_shr, ev_cat, ev_byte, ev_idx, ev_cons, ev_snoc, ev_app, ev_take, ev_drop, ev_stake, ev_sdrop, ev_rep, leB_q, eqB_q, eqsB_q, not_q, i_if, b_if, l_if, s_if, i_int, b_bool, s_str, l_list, envL, List.getElem?_cons_succ, List.getElem?_cons_zero, List.getElem?_nil, Option.getD_some, Option.getD_none, Int.toNat_natCast, Int.toNat_zero, Int.reduceToNat, List.length_map, get_Li, get_Lb, get_Ls, set_Li, inj_Li, inj_Lb, inj_Ls, rows_i, rows_b, rows_s, Int.zero_add, iff_true, iff_false, and_true, true_and, Bool.false_eq_true, eq_self, not_true_eq_false, not_false_eq_true, List.length_replicate, DV.int.injEq, DV.bool.injEq, DV.str.injEq, DV.list.injEq, List.cons.injEq, wGetPhi, gi, gb, gs, gLi, gLu, gLb, gLs, dece_i, dece_b, dece_s]
  refine rounds_inv (fun y => ∃ (k : Nat) (u : Int), y = [.int u, .int k] ∧ k ≤ x0.length ∧ k ≤ 9 ∧ getRG (x0.drop k) k u = getRG x0 0 0) (fun y => x0.length - ((y[1]?).getD (DV.int 0)).i.toNat) ⟨0, 0, rfl, by omega, by omega, rfl⟩ ?_
  rintro y ⟨k, u, rfl, h0, h1, h2⟩
  simp only [Bool.not_true, Bool.not_false, Bool.true_eq_false, SE.den, evU, evT, ev_le, ev_eq, ev_eqs, ev_eqb, ev_slt, ev_and, ev_or, ev_add, ev_sub, ev_mul, ev_tdiv, ev_tmod, ev_band, ev_bor, ev_bxor, ev_bandn, ev_shl, ev_shr, ev_cat, ev_byte, ev_idx, ev_cons, ev_snoc, ev_app, ev_take, ev_drop, ev_stake, ev_sdrop, ev_rep, leB_q, eqB_q, eqsB_q, not_q, i_if, b_if, l_if, s_if, i_int, b_bool, s_str, l_list, envL, List.getElem?_cons_succ, List.getElem?_cons_zero, List.getElem?_nil, Option.getD_some, Option.getD_none, Int.toNat_natCast, Int.toNat_zero, Int.reduceToNat, List.length_map, get_Li, get_Lb, get_Ls, set_Li, inj_Li, inj_Lb, inj_Ls, rows_i, rows_b, rows_s, Int.zero_add, iff_true, iff_false, and_true, true_and, Bool.false_eq_true, eq_self, not_true_eq_false, not_false_eq_true, List.length_replicate, DV.int.injEq, DV.bool.injEq, DV.str.injEq, DV.list.injEq, List.cons.injEq, wGetPhi, gi, gb, gs, gLi, gLu, gLb, gLs, dece_i, dece_b, dece_s]
  have hwk : IntKind.i64.wrap ((k : Int) + 1) = ((k + 1 : Nat) : Int) := by rw [w64 (by omega) (by omega)]; omega
  by_cases hk : k < x0.length
  · have e1 : ¬ (x0.length : Int) ≤ k := by omega
    have hd : x0.drop k = (x0[k]?.getD 0) :: x0.drop (k + 1) := by rw [List.drop_eq_getElem_cons hk, List.getElem?_eq_getElem hk]; rfl
    rw [hd] at h2
    generalize x0[k]?.getD 0 = x at *
    rw [getRG_cons] at h2
    have ha : accR u x k = accR u x k := rfl
    conv at ha => lhs; unfold accR
    have hu : unzR (accR u x k) = unzR (accR u x k) := rfl
    conv at hu => lhs; unfold unzR
    have hR : ∀ o, o = getRG x0 0 0 → getR x0 = o.map fun p => (unzR p.1, p.2) := fun o h => by unfold getR; rw [h]
    simp only [e1, hwk, ha, hu, nrm_D3]
    by_cases c : k < 9 ∧ 128 ≤ x
    · right
      rw [if_neg (by omega), if_neg (by omega)] at h2
      refine ⟨[.int (accR u x k), .int ((k + 1 : Nat) : Int)], ⟨fun _ => ⟨by omega, fun h => by omega, fun _ => ⟨fun h => by omega, fun _ => ⟨fun h => by omega, fun _ => rfl⟩⟩⟩, fun h => h.elim⟩, rfl, ⟨k + 1, accR u x k, rfl, by omega, by omega, h2⟩, ?_⟩
      simp only [Bool.not_true, Bool.not_false, Bool.true_eq_false, SE.den, evU, evT, ev_le, ev_eq, ev_eqs, ev_eqb, ev_slt, ev_and, ev_or, ev_add, ev_sub, ev_mul, ev_tdiv, ev_tmod, ev_band, ev_bor, ev_bxor, ev_bandn, ev_shl, ev_shr, ev_cat, ev_byte, ev_idx, ev_cons, ev_snoc, ev_app, ev_take, ev_drop, ev_stake, ev_sdrop, ev_rep, leB_q, eqB_q, eqsB_q, not_q, i_if, b_if, l_if, s_if, i_int, b_bool, s_str, l_list, envL, List.getElem?_cons_succ, List.getElem?_cons_zero, List.getElem?_nil, Option.getD_some, Option.getD_none, Int.toNat_natCast, Int.toNat_zero, Int.reduceToNat, List.length_map, get_Li, get_Lb, get_Ls, set_Li, inj_Li, inj_Lb, inj_Ls, rows_i, rows_b, rows_s, Int.zero_add, iff_true, iff_false, and_true, true_and, Bool.false_eq_true, eq_self, not_true_eq_false, not_false_eq_true, List.length_replicate, DV.int.injEq, DV.bool.injEq, DV.str.injEq, DV.list.injEq, List.cons.injEq]
      omega
    · left
      have hb := hR _ h2
      rw [hb]
      by_cases c1 : 9 < k ∨ (k = 9 ∧ 1 < x)
      · rw [if_pos c1]
        refine ⟨fun _ => ⟨by omega, fun h9 => ⟨fun hx => ?_, fun hx => ⟨fun hz => ?_, fun hz => ?_⟩⟩, fun h9 => ⟨fun hk => ?_, fun hk => ⟨fun hx => ⟨fun hz => ⟨fun hk0 => ?_, fun hk0 => ?_⟩, fun hz => ?_⟩, fun hx => ?_⟩⟩⟩, fun h => h.elim⟩ <;> first | rfl | (exfalso; omega)
      · rw [if_neg c1]
        have c2 : x < 128 := by omega
        rw [if_pos c2]
        by_cases c3 : x = 0 ∧ 0 < k
        · rw [if_pos c3]
          refine ⟨fun _ => ⟨by omega, fun h9 => ⟨fun hx => ?_, fun hx => ⟨fun hz => ?_, fun hz => ?_⟩⟩, fun h9 => ⟨fun hk => ?_, fun hk => ⟨fun hx => ⟨fun hz => ⟨fun hk0 => ?_, fun hk0 => ?_⟩, fun hz => ?_⟩, fun hx => ?_⟩⟩⟩, fun h => h.elim⟩ <;> first | rfl | (exfalso; omega)
        · rw [if_neg c3]
          refine ⟨fun _ => ⟨by omega, fun h9 => ⟨fun hx => ?_, fun hx => ⟨fun hz => ?_, fun hz => ?_⟩⟩, fun h9 => ⟨fun hk => ?_, fun hk => ⟨fun hx => ⟨fun hz => ⟨fun hk0 => ?_, fun hk0 => ?_⟩, fun hz => ?_⟩, fun hx => ?_⟩⟩⟩, fun h => h.elim⟩ <;> first | rfl | (exfalso; omega)
  · left
    have e1 : (x0.length : Int) ≤ k := by omega
    have hd : x0.drop k = [] := List.drop_eq_nil_of_le (by omega)
    rw [hd] at h2
    have hn : getR x0 = none := by unfold getR; rw [← h2]; rfl
    simp only [e1, hn, nrm_D3]
    simp [getD3]
end Go.Proofs.YtkfjgggiopegbaaDoor
