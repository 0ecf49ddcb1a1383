/- The function hallmootref03.Get is a function of data. No condition. -/
import Derived.Test.YtkfjgggiopegbaaDoorR3Put
import Derived.Test.YtkfjgggiopegbaaDoorR3Same
import Derived.Test.YtkfjgggiopegbaaDoorWalM
import Derived.Test.YtkfjgggiopegbaaDoorWGet
import Derived.Test.YtkfjgggiopegbaaDoorBd
import Derived.Test.YtkfjgggiopegbaaDoorOpen
namespace Go.Proofs.YtkfjgggiopegbaaDoor
set_option linter.unusedVariables false
set_option linter.unusedSimpArgs false
set_option maxRecDepth 100000

/-- How many bytes lie ahead of the last one. -/
def lead3 (b : List Int) : Nat := ((b.take 10).takeWhile (fun x => decide (128 ≤ x))).length
def step3 (x u : Int) : Int := IntKind.u64.wrap (IntKind.u64.wrap (128 * u) + IntKind.u64.wrap (x.tmod 128))
def acc3 (l : List Int) : Int := l.foldr step3 0
def num3 (u : Int) : Int := if u.tmod 2 = 1 then IntKind.i64.wrap (IntKind.i64.wrap (0 - IntKind.i64.wrap (IntKind.u64.wrap (u.tdiv 2))) - 1) else IntKind.i64.wrap (IntKind.u64.wrap (u.tdiv 2))
def get3 (b : List Int) : Option (Int × Nat) := if lead3 b = b.length ∨ lead3 b = 10 then none else if put3 (num3 (acc3 (b.take (lead3 b + 1)))) = b.take (lead3 b + 1) then some (num3 (acc3 (b.take (lead3 b + 1))), lead3 b + 1) else none
def r3GetE (b : List Int) : List DV := getD3 (get3 b)
theorem tw_len {p : Int → Bool} : ∀ (l : List Int) (k : Nat), k ≤ l.length → (∀ j, j < k → p (l[j]?.getD 0) = true) → (k = l.length ∨ p (l[k]?.getD 0) = false) → (l.takeWhile p).length = k
  | [], k, h, _, _ => by simp at h ⊢; omega
  | x :: l, 0, _, _, h => by
    rcases h with h | h
    · simp at h
    · have h : p x = false := by simpa using h
      rw [List.takeWhile_cons, h]; rfl
  | x :: l, k + 1, h0, h1, h2 => by
    have hx : p x = true := by simpa using h1 0 (by omega)
    rw [List.takeWhile_cons, hx]
    simp only [if_true, List.length_cons]
    rw [tw_len l k (by simpa using h0) (fun j hj => by simpa using h1 (j + 1) (by omega)) (by simpa using h2)]
theorem lead3_eq {b : List Int} {k : Nat} (h0 : k ≤ b.length) (h1 : k ≤ 10) (h2 : ∀ j, j < k → 128 ≤ b[j]?.getD 0) (h3 : k = b.length ∨ k = 10 ∨ ¬ 128 ≤ b[k]?.getD 0) : lead3 b = k := by
  have ht : ∀ j, j < 10 → (b.take 10)[j]?.getD 0 = b[j]?.getD 0 := fun j hj => by rw [List.getElem?_take, if_pos hj]
  refine tw_len _ k (by rw [List.length_take]; omega) (fun j hj => by rw [ht j (by omega)]; exact decide_eq_true (h2 j hj)) ?_
  rw [List.length_take]
  rcases h3 with h | h | h
  · left; omega
  · left; omega
  · by_cases hk : k = 10
    · left; omega
    · right; rw [ht k (by omega)]; exact decide_eq_false h
theorem r3_down {B : List DV → List DV → Prop} {R : List DV → Prop} (k : Nat) (b : List Int) (hk : k < b.length)
    (hB : ∀ (i : Nat) (u : Int), i ≤ k → B [.int u, .int i] [.int (step3 (b[i]?.getD 0) u), .int ((i : Int) - 1)])
    (hR : R [.int (acc3 (b.take (k + 1))), .int (-1)]) : Rounds B R [.int 0, .int k] := by
  refine rounds_at (k + 1) (fun j => [.int (acc3 ((b.take (k + 1)).drop (k + 1 - j))), .int ((k : Int) - j)]) ?_ (fun _ => rfl) (fun j hj => ?_) ?_
  · rw [List.drop_eq_nil_of_le (by rw [List.length_take]; omega)]
    simp [acc3]
  · have hl : (b.take (k + 1)).length = k + 1 := by rw [List.length_take]; omega
    have hd : (b.take (k + 1)).drop (k + 1 - (j + 1)) = (b[k - j]?.getD 0) :: (b.take (k + 1)).drop (k + 1 - j) := by
      rw [List.drop_eq_getElem_cons (by omega)]
      have e1 : k + 1 - (j + 1) = k - j := by omega
      have e2 : k + 1 - (j + 1) + 1 = k + 1 - j := by omega
      rw [e2]
      congr 1
      rw [List.getElem_take, List.getElem?_eq_getElem (by omega)]
      simp only [e1, Option.getD_some]
    have h := hB (k - j) (acc3 ((b.take (k + 1)).drop (k + 1 - j))) (by omega)
    rw [hd]
    have e3 : ((k - j : Nat) : Int) = (k : Int) - j := by omega
    rw [e3] at h
    have e4 : (k : Int) - ((j + 1 : Nat) : Int) = (k : Int) - j - 1 := by omega
    rw [e4]
    exact h
  · have e1 : k + 1 - (k + 1) = 0 := by omega
    have e2 : (k : Int) - ((k + 1 : Nat) : Int) = -1 := by omega
    rw [e1, List.drop_zero, e2]
    exact hR

def r3GetF (ds : List DV) : List DV := r3GetE (gLi ds 0)
/-- What the executor makes of it. -/
def r3GetTree : PT :=
(.loop 1 [(.int 0)]
 (.br (.un .not (.bin .le (.un .len (.var 0)) (.var 1)))
  (.br (.un .not (.bin .le (.int 10) (.var 1)))
   (.asrt (.bin .le (.int 0) (.var 1))
    (.br (.bin .le (.int 128) (.bin .idx (.var 0) (.bin .add (.int 0) (.var 1))))
     (.leaf [(.un (.wrap .i64) (.bin .add (.var 1) (.int 1)))])
     .fail))
   .fail)
  .fail)
 (.br (.un .not (.bin .le (.un .len (.var 0)) (.var 1)))
  (.br (.un .not (.bin .le (.int 10) (.var 1)))
   (.asrt (.bin .le (.int 0) (.var 1))
    (.br (.bin .le (.int 128) (.bin .idx (.var 0) (.bin .add (.int 0) (.var 1))))
     .fail
     (.loop 2 [(.int 0), (.var 1)]
      (.br (.bin .le (.int 0) (.var 3))
       (.asrt (.un .not (.bin .le (.un .len (.var 0)) (.var 3)))
        (.leaf [(.un (.wrap .u64) (.bin .add (.un (.wrap .u64) (.bin .mul (.int 128) (.var 2))) (.un (.wrap .u64) (.bin .tmod (.bin .idx (.var 0) (.bin .add (.int 0) (.var 3))) (.int 128))))), (.un (.wrap .i64) (.bin .sub (.var 3) (.int 1)))]))
       .fail)
      (.br (.bin .le (.int 0) (.var 3))
       (.asrt (.un .not (.bin .le (.un .len (.var 0)) (.var 3)))
        .fail)
       (.br (.bin .eq (.bin .tmod (.var 2) (.int 2)) (.int 1))
        (.asrt (.bin .le (.un .len (.bin .idx (.fn 117 (.bin .cons (.un (.wrap .i64) (.bin .sub (.un (.wrap .i64) (.bin .sub (.int 0) (.un (.wrap .i64) (.un (.wrap .u64) (.bin .tdiv (.var 2) (.int 2)))))) (.int 1))) .nil)) (.int 0))) (.int 1000000))
         (.asrt (.bin .le (.un .len (.bin .take (.bin .drop (.var 0) (.int 0)) (.bin .sub (.un (.wrap .i64) (.bin .add (.var 1) (.int 1))) (.int 0)))) (.int 1000000))
          (.br (.un .not (.bin .idx (.fn 154 (.bin .cons (.bin .idx (.fn 117 (.bin .cons (.un (.wrap .i64) (.bin .sub (.un (.wrap .i64) (.bin .sub (.int 0) (.un (.wrap .i64) (.un (.wrap .u64) (.bin .tdiv (.var 2) (.int 2)))))) (.int 1))) .nil)) (.int 0)) (.bin .cons (.bin .take (.bin .drop (.var 0) (.int 0)) (.bin .sub (.un (.wrap .i64) (.bin .add (.var 1) (.int 1))) (.int 0))) .nil))) (.int 0)))
           (.leaf [(.int 0), (.int 0), (.int 3)])
           (.leaf [(.un (.wrap .i64) (.bin .sub (.un (.wrap .i64) (.bin .sub (.int 0) (.un (.wrap .i64) (.un (.wrap .u64) (.bin .tdiv (.var 2) (.int 2)))))) (.int 1))), (.un (.wrap .i64) (.bin .add (.var 1) (.int 1))), (.int 0)]))))
        (.asrt (.bin .le (.un .len (.bin .idx (.fn 117 (.bin .cons (.un (.wrap .i64) (.un (.wrap .u64) (.bin .tdiv (.var 2) (.int 2)))) .nil)) (.int 0))) (.int 1000000))
         (.asrt (.bin .le (.un .len (.bin .take (.bin .drop (.var 0) (.int 0)) (.bin .sub (.un (.wrap .i64) (.bin .add (.var 1) (.int 1))) (.int 0)))) (.int 1000000))
          (.br (.un .not (.bin .idx (.fn 154 (.bin .cons (.bin .idx (.fn 117 (.bin .cons (.un (.wrap .i64) (.un (.wrap .u64) (.bin .tdiv (.var 2) (.int 2)))) .nil)) (.int 0)) (.bin .cons (.bin .take (.bin .drop (.var 0) (.int 0)) (.bin .sub (.un (.wrap .i64) (.bin .add (.var 1) (.int 1))) (.int 0))) .nil))) (.int 0)))
           (.leaf [(.int 0), (.int 0), (.int 3)])
           (.leaf [(.un (.wrap .i64) (.un (.wrap .u64) (.bin .tdiv (.var 2) (.int 2)))), (.un (.wrap .i64) (.bin .add (.var 1) (.int 1))), (.int 0)])))))))))
   (.br (.bin .eq (.var 1) (.int 10))
    (.leaf [(.int 0), (.int 0), (.int 3)])
    (.loop 2 [(.int 0), (.var 1)]
     (.br (.bin .le (.int 0) (.var 3))
      (.asrt (.un .not (.bin .le (.un .len (.var 0)) (.var 3)))
       (.leaf [(.un (.wrap .u64) (.bin .add (.un (.wrap .u64) (.bin .mul (.int 128) (.var 2))) (.un (.wrap .u64) (.bin .tmod (.bin .idx (.var 0) (.bin .add (.int 0) (.var 3))) (.int 128))))), (.un (.wrap .i64) (.bin .sub (.var 3) (.int 1)))]))
      .fail)
     (.br (.bin .le (.int 0) (.var 3))
      (.asrt (.un .not (.bin .le (.un .len (.var 0)) (.var 3)))
       .fail)
      (.br (.bin .eq (.bin .tmod (.var 2) (.int 2)) (.int 1))
       (.asrt (.bin .le (.int 0) (.un (.wrap .i64) (.bin .add (.var 1) (.int 1))))
        (.asrt (.bin .le (.un (.wrap .i64) (.bin .add (.var 1) (.int 1))) (.un .len (.var 0)))
         (.asrt (.bin .le (.un .len (.bin .idx (.fn 117 (.bin .cons (.un (.wrap .i64) (.bin .sub (.un (.wrap .i64) (.bin .sub (.int 0) (.un (.wrap .i64) (.un (.wrap .u64) (.bin .tdiv (.var 2) (.int 2)))))) (.int 1))) .nil)) (.int 0))) (.int 1000000))
          (.asrt (.bin .le (.un .len (.bin .take (.bin .drop (.var 0) (.int 0)) (.bin .sub (.un (.wrap .i64) (.bin .add (.var 1) (.int 1))) (.int 0)))) (.int 1000000))
           (.br (.un .not (.bin .idx (.fn 154 (.bin .cons (.bin .idx (.fn 117 (.bin .cons (.un (.wrap .i64) (.bin .sub (.un (.wrap .i64) (.bin .sub (.int 0) (.un (.wrap .i64) (.un (.wrap .u64) (.bin .tdiv (.var 2) (.int 2)))))) (.int 1))) .nil)) (.int 0)) (.bin .cons (.bin .take (.bin .drop (.var 0) (.int 0)) (.bin .sub (.un (.wrap .i64) (.bin .add (.var 1) (.int 1))) (.int 0))) .nil))) (.int 0)))
            (.leaf [(.int 0), (.int 0), (.int 3)])
            (.leaf [(.un (.wrap .i64) (.bin .sub (.un (.wrap .i64) (.bin .sub (.int 0) (.un (.wrap .i64) (.un (.wrap .u64) (.bin .tdiv (.var 2) (.int 2)))))) (.int 1))), (.un (.wrap .i64) (.bin .add (.var 1) (.int 1))), (.int 0)]))))))
       (.asrt (.bin .le (.int 0) (.un (.wrap .i64) (.bin .add (.var 1) (.int 1))))
        (.asrt (.bin .le (.un (.wrap .i64) (.bin .add (.var 1) (.int 1))) (.un .len (.var 0)))
         (.asrt (.bin .le (.un .len (.bin .idx (.fn 117 (.bin .cons (.un (.wrap .i64) (.un (.wrap .u64) (.bin .tdiv (.var 2) (.int 2)))) .nil)) (.int 0))) (.int 1000000))
          (.asrt (.bin .le (.un .len (.bin .take (.bin .drop (.var 0) (.int 0)) (.bin .sub (.un (.wrap .i64) (.bin .add (.var 1) (.int 1))) (.int 0)))) (.int 1000000))
           (.br (.un .not (.bin .idx (.fn 154 (.bin .cons (.bin .idx (.fn 117 (.bin .cons (.un (.wrap .i64) (.un (.wrap .u64) (.bin .tdiv (.var 2) (.int 2)))) .nil)) (.int 0)) (.bin .cons (.bin .take (.bin .drop (.var 0) (.int 0)) (.bin .sub (.un (.wrap .i64) (.bin .add (.var 1) (.int 1))) (.int 0))) .nil))) (.int 0)))
            (.leaf [(.int 0), (.int 0), (.int 3)])
            (.leaf [(.un (.wrap .i64) (.un (.wrap .u64) (.bin .tdiv (.var 2) (.int 2)))), (.un (.wrap .i64) (.bin .add (.var 1) (.int 1))), (.int 0)])))))))))))
  (.br (.bin .eq (.var 1) (.un .len (.var 0)))
   (.leaf [(.int 0), (.int 0), (.int 3)])
   (.br (.bin .eq (.var 1) (.int 10))
    (.leaf [(.int 0), (.int 0), (.int 3)])
    (.loop 2 [(.int 0), (.var 1)]
     (.br (.bin .le (.int 0) (.var 3))
      (.asrt (.un .not (.bin .le (.un .len (.var 0)) (.var 3)))
       (.leaf [(.un (.wrap .u64) (.bin .add (.un (.wrap .u64) (.bin .mul (.int 128) (.var 2))) (.un (.wrap .u64) (.bin .tmod (.bin .idx (.var 0) (.bin .add (.int 0) (.var 3))) (.int 128))))), (.un (.wrap .i64) (.bin .sub (.var 3) (.int 1)))]))
      .fail)
     (.br (.bin .le (.int 0) (.var 3))
      (.asrt (.un .not (.bin .le (.un .len (.var 0)) (.var 3)))
       .fail)
      (.br (.bin .eq (.bin .tmod (.var 2) (.int 2)) (.int 1))
       (.asrt (.bin .le (.int 0) (.un (.wrap .i64) (.bin .add (.var 1) (.int 1))))
        (.asrt (.bin .le (.un (.wrap .i64) (.bin .add (.var 1) (.int 1))) (.un .len (.var 0)))
         (.asrt (.bin .le (.un .len (.bin .idx (.fn 117 (.bin .cons (.un (.wrap .i64) (.bin .sub (.un (.wrap .i64) (.bin .sub (.int 0) (.un (.wrap .i64) (.un (.wrap .u64) (.bin .tdiv (.var 2) (.int 2)))))) (.int 1))) .nil)) (.int 0))) (.int 1000000))
          (.asrt (.bin .le (.un .len (.bin .take (.bin .drop (.var 0) (.int 0)) (.bin .sub (.un (.wrap .i64) (.bin .add (.var 1) (.int 1))) (.int 0)))) (.int 1000000))
           (.br (.un .not (.bin .idx (.fn 154 (.bin .cons (.bin .idx (.fn 117 (.bin .cons (.un (.wrap .i64) (.bin .sub (.un (.wrap .i64) (.bin .sub (.int 0) (.un (.wrap .i64) (.un (.wrap .u64) (.bin .tdiv (.var 2) (.int 2)))))) (.int 1))) .nil)) (.int 0)) (.bin .cons (.bin .take (.bin .drop (.var 0) (.int 0)) (.bin .sub (.un (.wrap .i64) (.bin .add (.var 1) (.int 1))) (.int 0))) .nil))) (.int 0)))
            (.leaf [(.int 0), (.int 0), (.int 3)])
            (.leaf [(.un (.wrap .i64) (.bin .sub (.un (.wrap .i64) (.bin .sub (.int 0) (.un (.wrap .i64) (.un (.wrap .u64) (.bin .tdiv (.var 2) (.int 2)))))) (.int 1))), (.un (.wrap .i64) (.bin .add (.var 1) (.int 1))), (.int 0)]))))))
       (.asrt (.bin .le (.int 0) (.un (.wrap .i64) (.bin .add (.var 1) (.int 1))))
        (.asrt (.bin .le (.un (.wrap .i64) (.bin .add (.var 1) (.int 1))) (.un .len (.var 0)))
         (.asrt (.bin .le (.un .len (.bin .idx (.fn 117 (.bin .cons (.un (.wrap .i64) (.un (.wrap .u64) (.bin .tdiv (.var 2) (.int 2)))) .nil)) (.int 0))) (.int 1000000))
          (.asrt (.bin .le (.un .len (.bin .take (.bin .drop (.var 0) (.int 0)) (.bin .sub (.un (.wrap .i64) (.bin .add (.var 1) (.int 1))) (.int 0)))) (.int 1000000))
           (.br (.un .not (.bin .idx (.fn 154 (.bin .cons (.bin .idx (.fn 117 (.bin .cons (.un (.wrap .i64) (.un (.wrap .u64) (.bin .tdiv (.var 2) (.int 2)))) .nil)) (.int 0)) (.bin .cons (.bin .take (.bin .drop (.var 0) (.int 0)) (.bin .sub (.un (.wrap .i64) (.bin .add (.var 1) (.int 1))) (.int 0))) .nil))) (.int 0)))
            (.leaf [(.int 0), (.int 0), (.int 3)])
            (.leaf [(.un (.wrap .i64) (.un (.wrap .u64) (.bin .tdiv (.var 2) (.int 2)))), (.un (.wrap .i64) (.bin .add (.var 1) (.int 1))), (.int 0)])))))))))))))

def r3GetSm : List (Nat × Smy) := [(98, ⟨117, [.one (.pl (.int .i64))], [.one (.rows true [.int .u8])], fun _ => [], none⟩), (116, ⟨154, [.one (.rows false [.int .u8]), .one (.rows false [.int .u8])], [.one (.pl .bool)], lenC [(0, 1000000), (1, 1000000)], none⟩)]
def r3GetLa : List (LK × LA) := [(⟨68, 8, 1, 2, 3⟩, ⟨[(5, (.int .u64 (.var 2))), (7, (.int .i64 (.var 3))), (35, .any), (36, .any), (37, .any), (38, .any), (39, .any), (40, .any), (41, .any), (42, .any), (43, .any), (44, .any), (45, .any), (46, .any), (47, .any)], [], [], 2, 0⟩),
  (⟨68, 8, 1, 2, 4⟩, ⟨[(5, (.int .u64 (.var 2))), (7, (.int .i64 (.var 3))), (35, .any), (36, .any), (37, .any), (38, .any), (39, .any), (40, .any), (41, .any), (42, .any), (43, .any), (44, .any), (45, .any), (46, .any), (47, .any)], [], [], 2, 0⟩),
  (⟨68, 3, 1, 1, 0⟩, ⟨[(6, (.int .i64 (.var 1))), (9, .any), (10, .any), (11, .any), (12, .any), (13, .any), (14, .any), (15, .any), (16, .any), (17, .any), (18, .any), (19, .any), (20, .any), (21, .any), (22, .any), (23, .any), (24, .any), (25, .any)], [], [], 1, 0⟩)]
def r3GetPhi : Fs := ⟨fun n d => match n with
  | 117 => .list (r3PutF d.l)
  | 154 => .list (r3SameF d.l)
  | _ => d, 147⟩
theorem r3GetS : SmyOk true Tryd.prog r3GetPhi r3GetSm := (smy_cons (fun _ => True) r3PutF r3Put_pure (fun _ _ _ _ => trivial) (fun _ => rfl) (fun _ h => by cases h) (smy_cons (lenP [(0, 1000000), (1, 1000000)]) r3SameF r3Same_pure (len_hp [(0, 1000000), (1, 1000000)]) (fun _ => rfl) (fun _ h => by cases h) smy_nil))
theorem r3GetT : treeOk ⟨Tryd.prog, r3GetSm, r3GetLa, true⟩ 4000 106 [.one (.rows false [.int .u8])] [.one (.pl (.int .i64)), .one (.pl (.int .i64)), .one (.pl (.int .i64))] ([]) r3GetTree = true := by decide +kernel
set_option maxHeartbeats 1000000 in
theorem r3Get_pure : PureE true Tryd.prog 106 [.one (.rows false [.int .u8])] [.one (.pl (.int .i64)), .one (.pl (.int .i64)), .one (.pl (.int .i64))] (lenP [(0, 1000000)]) r3GetF := by
  refine pure_tree (X := ⟨Tryd.prog, r3GetSm, r3GetLa, true⟩) (by decide +kernel) (Checked.mixed Tryd.checked) r3GetS (by decide +kernel) (by decide +kernel) r3GetT (by decide +kernel) ?_
  intro ds hl hp
  obtain ⟨d0, rfl⟩ := len1 hl
  have b0 : (d0.l.length : Int) ≤ 1000000 := hp (0, 1000000) (by simp)
  have hF : r3GetF [d0] = r3GetE (d0.l.map DV.i) := rfl
  rw [hF]
  clear hF hp hl
  have hN : nrmL (clsOf [.one (.rows false [.int .u8])]) [d0] = [.list ((d0.l.map DV.i).map DV.int)] := by
    simp only [clsOf, Sh.cls, List.append_nil, List.cons_append, List.nil_append, nrmL, Cl.nrm, CK.nrm, map_Li]
  rw [hN]
  clear hN
  rw [← List.length_map (f := DV.i)] at b0
  generalize d0.l.map DV.i = x0 at b0 ⊢
  refine ⟨facts_nil _, ?_⟩
  unfold r3GetTree r3GetE
  simp only [Sat, clsOf, Sh.cls, List.append_nil, List.cons_append, List.nil_append, nrmL, Cl.nrm, CK.nrm, List.map_cons, List.map_nil, List.length_cons, List.length_nil, List.cons.injEq, DV.bool.injEq, DV.int.injEq, DV.list.injEq, DV.str.injEq, and_true, true_and]
  try simp only [q_le, q_eq, q_eqs, q_eqb, q_and, q_or, q_not, q_bool, iff_true, iff_false, Bool.not_true, Bool.not_false, Bool.false_eq_true, Bool.true_eq_false, eq_self, Bool.not_not]
  simp only [Bool.not_true, Bool.not_false, Bool.true_eq_false, SE.den, evU, evT, ev_le, ev_eq, ev_eqs, ev_eqb, ev_slt, ev_and, ev_or, ev_add, ev_sub, ev_mul, ev_tdiv, ev_tmod, ev_band, ev_bor, ev_bxor, ev_bandn, ev_shl, ev_shr, ev_cat, ev_byte, ev_idx, ev_cons, ev_snoc, ev_app, ev_take, ev_drop, ev_stake, ev_sdrop, ev_rep, leB_q, eqB_q, eqsB_q, not_q, i_if, b_if, l_if, s_if, i_int, b_bool, s_str, l_list, envL, List.getElem?_cons_succ, List.getElem?_cons_zero, List.getElem?_nil, Option.getD_some, Option.getD_none, Int.toNat_natCast, Int.toNat_zero, Int.reduceToNat, List.length_map, get_Li, get_Lb, get_Ls, set_Li, inj_Li, inj_Lb, inj_Ls, rows_i, rows_b, rows_s, Int.zero_add, iff_true, iff_false, and_true, true_and, Bool.false_eq_true, eq_self, not_true_eq_false, not_false_eq_true, List.length_replicate, DV.int.injEq, DV.bool.injEq, DV.str.injEq, DV.list.injEq, List.cons.injEq, r3GetPhi, r3PutF, r3PutE, r3SameF, r3SameE, gi, gb, gs, gLi, gLu, gLb, gLs, dece_i, dece_b, dece_s, Int.zero_add, Int.sub_zero, List.drop_zero, take_Li, dece_i, nrm_D3]
  refine rounds_inv (fun y => ∃ k : Nat, y = [DV.int k] ∧ k ≤ x0.length ∧ k ≤ 10 ∧ ∀ j, j < k → 128 ≤ x0[j]?.getD 0) (fun y => 10 - ((y[0]?).getD (DV.int 0)).i.toNat) ⟨0, rfl, by omega, by omega, fun j hj => by omega⟩ ?_
  rintro y ⟨k, rfl, h0, h1, h2⟩
  have hw : IntKind.i64.wrap ((k : Int) + 1) = ((k + 1 : Nat) : Int) := by rw [w64 (by omega) (by omega)]; omega
  by_cases hc : k < x0.length ∧ k < 10 ∧ 128 ≤ x0[k]?.getD 0
  · right
    refine ⟨[DV.int ((k + 1 : Nat) : Int)], ?_, rfl, ⟨k + 1, rfl, by omega, by omega, fun j hj => ?_⟩, ?_⟩
    · simp only [Bool.not_true, Bool.not_false, Bool.true_eq_false, SE.den, evU, evT, ev_le, ev_eq, ev_eqs, ev_eqb, ev_slt, ev_and, ev_or, ev_add, ev_sub, ev_mul, ev_tdiv, ev_tmod, ev_band, ev_bor, ev_bxor, ev_bandn, ev_shl, ev_shr, ev_cat, ev_byte, ev_idx, ev_cons, ev_snoc, ev_app, ev_take, ev_drop, ev_stake, ev_sdrop, ev_rep, leB_q, eqB_q, eqsB_q, not_q, i_if, b_if, l_if, s_if, i_int, b_bool, s_str, l_list, envL, List.getElem?_cons_succ, List.getElem?_cons_zero, List.getElem?_nil, Option.getD_some, Option.getD_none, Int.toNat_natCast, Int.toNat_zero, Int.reduceToNat, List.length_map, get_Li, get_Lb, get_Ls, set_Li, inj_Li, inj_Lb, inj_Ls, rows_i, rows_b, rows_s, Int.zero_add, iff_true, iff_false, and_true, true_and, Bool.false_eq_true, eq_self, not_true_eq_false, not_false_eq_true, List.length_replicate, DV.int.injEq, DV.bool.injEq, DV.str.injEq, DV.list.injEq, List.cons.injEq, hw]
      exact ⟨fun _ => ⟨fun _ => ⟨by omega, fun _ => trivial, fun h => absurd hc.2.2 h⟩, fun h => absurd h (by omega)⟩, fun h => absurd h (by omega)⟩
    · by_cases e : j = k
      · rw [e]; exact hc.2.2
      · exact h2 j (by omega)
    · simp only [Bool.not_true, Bool.not_false, Bool.true_eq_false, SE.den, evU, evT, ev_le, ev_eq, ev_eqs, ev_eqb, ev_slt, ev_and, ev_or, ev_add, ev_sub, ev_mul, ev_tdiv, ev_tmod, ev_band, ev_bor, ev_bxor, ev_bandn, ev_shl, ev_shr, ev_cat, ev_byte, ev_idx, ev_cons, ev_snoc, ev_app, ev_take, ev_drop, ev_stake, ev_sdrop, ev_rep, leB_q, eqB_q, eqsB_q, not_q, i_if, b_if, l_if, s_if, i_int, b_bool, s_str, l_list, envL, List.getElem?_cons_succ, List.getElem?_cons_zero, List.getElem?_nil, Option.getD_some, Option.getD_none, Int.toNat_natCast, Int.toNat_zero, Int.reduceToNat, List.length_map, get_Li, get_Lb, get_Ls, set_Li, inj_Li, inj_Lb, inj_Ls, rows_i, rows_b, rows_s, Int.zero_add, iff_true, iff_false, and_true, true_and, Bool.false_eq_true, eq_self, not_true_eq_false, not_false_eq_true, List.length_replicate, DV.int.injEq, DV.bool.injEq, DV.str.injEq, DV.list.injEq, List.cons.injEq]; omega
  · left
    have hlead : lead3 x0 = k := lead3_eq h0 h1 h2 (by omega)
    have hn : (lead3 x0 = x0.length ∨ lead3 x0 = 10) → get3 x0 = none := fun h => if_pos h
    simp only [Bool.not_true, Bool.not_false, Bool.true_eq_false, SE.den, evU, evT, ev_le, ev_eq, ev_eqs, ev_eqb, ev_slt, ev_and, ev_or, ev_add, ev_sub, ev_mul, ev_tdiv, ev_tmod, ev_band, ev_bor, ev_bxor, ev_bandn, ev_shl, ev_shr, ev_cat, ev_byte, ev_idx, ev_cons, ev_snoc, ev_app, ev_take, ev_drop, ev_stake, ev_sdrop, ev_rep, leB_q, eqB_q, eqsB_q, not_q, i_if, b_if, l_if, s_if, i_int, b_bool, s_str, l_list, envL, List.getElem?_cons_succ, List.getElem?_cons_zero, List.getElem?_nil, Option.getD_some, Option.getD_none, Int.toNat_natCast, Int.toNat_zero, Int.reduceToNat, List.length_map, get_Li, get_Lb, get_Ls, set_Li, inj_Li, inj_Lb, inj_Ls, rows_i, rows_b, rows_s, Int.zero_add, iff_true, iff_false, and_true, true_and, Bool.false_eq_true, eq_self, not_true_eq_false, not_false_eq_true, List.length_replicate, DV.int.injEq, DV.bool.injEq, DV.str.injEq, DV.list.injEq, List.cons.injEq, hw]
    refine ⟨fun hl => ⟨fun h10 => ⟨by omega, fun h => absurd ⟨by omega, by omega, h⟩ hc, fun hx => ⟨rfl, ?_⟩⟩, fun h10 => ⟨fun _ => by rw [hn (by omega)]; rfl, fun h => absurd (by omega) h⟩⟩, fun hl => ⟨fun _ => by rw [hn (by omega)]; rfl, fun h => absurd (by omega) h⟩⟩
    have hg : get3 x0 = if put3 (num3 (acc3 (x0.take (k + 1)))) = x0.take (k + 1) then some (num3 (acc3 (x0.take (k + 1))), k + 1) else none := by
      unfold get3
      rw [hlead, if_neg (by omega)]
    refine r3_down k x0 (by omega) (fun i u hi => ?_) ?_
    · have hwi : IntKind.i64.wrap ((i : Int) - 1) = (i : Int) - 1 := w64 (by omega) (by omega)
      simp only [Bool.not_true, Bool.not_false, Bool.true_eq_false, SE.den, evU, evT, ev_le, ev_eq, ev_eqs, ev_eqb, ev_slt, ev_and, ev_or, ev_add, ev_sub, ev_mul, ev_tdiv, ev_tmod, ev_band, ev_bor, ev_bxor, ev_bandn, ev_shl, ev_shr, ev_cat, ev_byte, ev_idx, ev_cons, ev_snoc, ev_app, ev_take, ev_drop, ev_stake, ev_sdrop, ev_rep, leB_q, eqB_q, eqsB_q, not_q, i_if, b_if, l_if, s_if, i_int, b_bool, s_str, l_list, envL, List.getElem?_cons_succ, List.getElem?_cons_zero, List.getElem?_nil, Option.getD_some, Option.getD_none, Int.toNat_natCast, Int.toNat_zero, Int.reduceToNat, List.length_map, get_Li, get_Lb, get_Ls, set_Li, inj_Li, inj_Lb, inj_Ls, rows_i, rows_b, rows_s, Int.zero_add, iff_true, iff_false, and_true, true_and, Bool.false_eq_true, eq_self, not_true_eq_false, not_false_eq_true, List.length_replicate, DV.int.injEq, DV.bool.injEq, DV.str.injEq, DV.list.injEq, List.cons.injEq, List.cons_append, List.nil_append, hwi]
      exact ⟨fun _ => ⟨by omega, rfl⟩, fun h => absurd (by omega) h⟩
    · have hlt : ((x0.take (k + 1)).length : Int) ≤ 1000000 := by rw [List.length_take]; omega
      have hp := fun n => (put3_len n).2
      simp only [Bool.not_true, Bool.not_false, Bool.true_eq_false, SE.den, evU, evT, ev_le, ev_eq, ev_eqs, ev_eqb, ev_slt, ev_and, ev_or, ev_add, ev_sub, ev_mul, ev_tdiv, ev_tmod, ev_band, ev_bor, ev_bxor, ev_bandn, ev_shl, ev_shr, ev_cat, ev_byte, ev_idx, ev_cons, ev_snoc, ev_app, ev_take, ev_drop, ev_stake, ev_sdrop, ev_rep, leB_q, eqB_q, eqsB_q, not_q, i_if, b_if, l_if, s_if, i_int, b_bool, s_str, l_list, envL, List.getElem?_cons_succ, List.getElem?_cons_zero, List.getElem?_nil, Option.getD_some, Option.getD_none, Int.toNat_natCast, Int.toNat_zero, Int.reduceToNat, List.length_map, get_Li, get_Lb, get_Ls, set_Li, inj_Li, inj_Lb, inj_Ls, rows_i, rows_b, rows_s, Int.zero_add, iff_true, iff_false, and_true, true_and, Bool.false_eq_true, eq_self, not_true_eq_false, not_false_eq_true, List.length_replicate, DV.int.injEq, DV.bool.injEq, DV.str.injEq, DV.list.injEq, List.cons.injEq, List.cons_append, List.nil_append, hw, hg]
      generalize x0.take (k + 1) = L at *
      refine ⟨fun h => absurd h (by omega), fun _ => ⟨fun hm => ?_, fun hm => ?_⟩⟩
      · have e : num3 (acc3 L) = IntKind.i64.wrap (IntKind.i64.wrap (0 - IntKind.i64.wrap (IntKind.u64.wrap ((acc3 L).tdiv 2))) - 1) := if_pos hm
        rw [← e]
        generalize num3 (acc3 L) = m at *
        have := hp m
        refine ⟨by omega, hlt, fun h => ?_, fun h => ?_⟩
        · rw [if_neg (of_decide_eq_false h)]; rfl
        · rw [if_pos (of_decide_eq_true h)]; rfl
      · have e : num3 (acc3 L) = IntKind.i64.wrap (IntKind.u64.wrap ((acc3 L).tdiv 2)) := if_neg hm
        rw [← e]
        generalize num3 (acc3 L) = m at *
        have := hp m
        refine ⟨by omega, hlt, fun h => ?_, fun h => ?_⟩
        · rw [if_neg (of_decide_eq_false h)]; rfl
        · rw [if_pos (of_decide_eq_true h)]; rfl
end Go.Proofs.YtkfjgggiopegbaaDoor
