/- The function hallmootref23.guess is a function of data. No condition. -/
import Derived.Test.YtkfjgggiopegbaaDoorR3GetNums
import Derived.Test.YtkfjgggiopegbaaDoorWalN
import Derived.Test.YtkfjgggiopegbaaDoorBd
import Derived.Test.YtkfjgggiopegbaaDoorOpen
namespace Go.Proofs.YtkfjgggiopegbaaDoor
set_option linter.unusedVariables false
set_option linter.unusedSimpArgs false
set_option maxRecDepth 100000

/-- The payload of a sector, unchecked; of many. -/
def pay3 (s : List UInt8) : List UInt8 := if s.length = 32 then (s.take 28).drop 1 else []
def load3 (l : List (List UInt8)) : List UInt8 := l.flatMap pay3
def guessN (m : Int) : Option (List Int × Nat) → (Int × List Tii) × Int
  | none => ((0, []), 0)
  | some p => if p.1.length = 0 then ((0, []), 0) else ((p.1[0]?.getD 0, pairsM (p.1.drop 1)), m)
def guess3 (l : List (List UInt8)) (a : Int) : (Int × List Tii) × Int :=
  if 0 ≤ a ∧ a < l.length ∧ (l[a.toNat]?.getD []).length = 32 then guessN (manyM l a.toNat) (getNums3 (bytesN (load3 ((l.drop a.toNat).take (manyM l a.toNat))))) else ((0, []), 0)
def guessD (r : (Int × List Tii) × Int) : List DV := [.int r.1.1, .list (r.1.2.map encii), .int r.2]
def r3GuessE (l : List (List UInt8)) (a : Int) : List DV := guessD (guess3 l a)
theorem nrm_guess (r : (Int × List Tii) × Int) : nrmL [Cl.pl (CK.int IntKind.i64), Cl.rows false [CK.int IntKind.i64, CK.int IntKind.i64], Cl.pl (CK.int IntKind.i64)] (guessD r) = guessD r := by
  simp only [guessD, nrmL, Cl.nrm, CK.nrm, l_list, i_int, rows_ii]
theorem guess_no {l : List (List UInt8)} {a : Int} (h : ¬ (0 ≤ a ∧ a < l.length ∧ (l[a.toNat]?.getD []).length = 32)) : guess3 l a = ((0, []), 0) := if_neg h
theorem load3_snoc (l : List (List UInt8)) (j : Nat) (hj : j < l.length) : load3 (l.take (j + 1)) = load3 (l.take j) ++ pay3 (l[j]?.getD []) := by
  unfold load3
  rw [List.take_add_one, List.getElem?_eq_getElem hj, List.flatMap_append]
  simp
theorem load3_len (l : List (List UInt8)) : (load3 l).length ≤ 27 * l.length := by
  induction l with
  | nil => simp [load3]
  | cons s l ih =>
    unfold load3 at ih ⊢
    rw [List.flatMap_cons, List.length_append, List.length_cons]
    have : (pay3 s).length ≤ 27 := by
      unfold pay3
      split
      · rw [List.length_drop, List.length_take]; omega
      · simp
    omega
theorem gn3_len : ∀ (m : Nat) (b : List Int) (a : Nat) (acc l : List Int) (u : Nat), gn3 m b a acc = some (l, u) → l.length ≤ acc.length + b.length ∧ u ≤ a + b.length
  | 0, b, a, acc, l, u, h => by cases h; omega
  | m + 1, b, a, acc, l, u, h => by
    rw [gn3_succ] at h
    cases hg : get3 b with
    | none => rw [hg] at h; cases h
    | some p =>
      rw [hg] at h
      obtain ⟨n, k⟩ := p
      obtain ⟨k0, k1⟩ := get3_len hg
      have := gn3_len m _ _ _ _ _ h
      simp only [List.length_append, List.length_cons, List.length_nil, List.length_drop] at this
      omega
theorem getNums3_len {b l : List Int} {u : Nat} (h : getNums3 b = some (l, u)) : l.length ≤ b.length ∧ u ≤ b.length := by
  unfold getNums3 at h
  cases hg : get3 b with
  | none => rw [hg] at h; cases h
  | some p =>
    rw [hg] at h
    obtain ⟨n, k⟩ := p
    obtain ⟨k0, k1⟩ := get3_len hg
    simp only at h
    split at h
    · cases h
    · have := gn3_len _ _ _ _ _ _ h
      simp only [List.length_drop, List.length_nil] at this
      omega
theorem getd_int (n : List Int) (i : Nat) : ((n.map DV.int)[i]?).getD (DV.int 0) = .int (n[i]?.getD 0) := by rw [List.getElem?_map]; cases n[i]? <;> rfl
theorem pairs_take : ∀ (l : List Int) (j : Nat), 2 * j + 1 < l.length → pairsM (l.take (2 * (j + 1))) = pairsM (l.take (2 * j)) ++ [(l[2 * j]?.getD 0, l[2 * j + 1]?.getD 0)]
  | [], j, h => by simp at h
  | [a], j, h => by simp at h
  | a :: b :: l, 0, h => by simp [pairsM]
  | a :: b :: l, j + 1, h => by
    have ih := pairs_take l j (by simp only [List.length_cons] at h; omega)
    have e1 : (a :: b :: l).take (2 * (j + 1 + 1)) = a :: b :: l.take (2 * (j + 1)) := by
      rw [show 2 * (j + 1 + 1) = 2 * (j + 1) + 1 + 1 by omega]; rfl
    have e2 : (a :: b :: l).take (2 * (j + 1)) = a :: b :: l.take (2 * j) := by
      rw [show 2 * (j + 1) = 2 * j + 1 + 1 by omega]; rfl
    rw [e1, e2]
    show (a, b) :: pairsM (l.take (2 * (j + 1))) = (a, b) :: pairsM (l.take (2 * j)) ++ _
    rw [ih]
    rw [show 2 * (j + 1) = 2 * j + 1 + 1 by omega]
    rfl
theorem pairs_all : ∀ (l : List Int), pairsM (l.take (2 * (l.length / 2))) = pairsM l
  | [] => rfl
  | [a] => by simp [pairsM]
  | a :: b :: l => by
    have ih := pairs_all l
    have e1 : (a :: b :: l).take (2 * ((a :: b :: l).length / 2)) = a :: b :: l.take (2 * (l.length / 2)) := by
      rw [show 2 * ((a :: b :: l).length / 2) = 2 * (l.length / 2) + 1 + 1 by simp only [List.length_cons]; omega]; rfl
    rw [e1]
    show (a, b) :: pairsM (l.take (2 * (l.length / 2))) = _
    rw [ih]; rfl
theorem r3_pairs {B : List DV → List DV → Prop} {R : List DV → Prop} (n : List Int) (h1 : 1 ≤ n.length)
    (hB : ∀ (i : Nat) (out : List Tii), i + 1 < n.length → 1 ≤ i → out.length ≤ i → B [.int i, .list (out.map encii)] [.int ((i + 2 : Nat) : Int), .list ((out ++ [(n[i]?.getD 0, n[i + 1]?.getD 0)]).map encii)])
    (hR : ∀ i : Nat, n.length ≤ i + 1 → i ≤ n.length → R [.int i, .list ((pairsM (n.drop 1)).map encii)]) : Rounds B R [.int 1, .list []] := by
  have hd : (n.drop 1).length = n.length - 1 := List.length_drop ..
  have hpl : ∀ j, (pairsM ((n.drop 1).take (2 * j))).length ≤ j := fun j => by
    have : ∀ (l : List Int), 2 * (pairsM l).length ≤ l.length := by
      intro l
      induction l using pairsM.induct with
      | case1 a b l ih => show 2 * ((a, b) :: pairsM l).length ≤ _; simp only [List.length_cons]; omega
      | case2 l h => rw [pairsM]; simp; exact h
    have h := this ((n.drop 1).take (2 * j))
    rw [List.length_take] at h
    omega
  refine rounds_at ((n.length - 1) / 2) (fun j => [.int ((1 + 2 * j : Nat) : Int), .list ((pairsM ((n.drop 1).take (2 * j))).map encii)]) (by simp [pairsM]) (fun _ => rfl) (fun j hj => ?_) ?_
  · rw [pairs_take (n.drop 1) j (by omega)]
    have h := hB (1 + 2 * j) (pairsM ((n.drop 1).take (2 * j))) (by omega) (by omega) (by have := hpl j; omega)
    rw [List.getElem?_drop, List.getElem?_drop]
    rw [show 1 + 2 * (j + 1) = 1 + 2 * j + 2 by omega, show 1 + (2 * j + 1) = 1 + 2 * j + 1 by omega]
    exact h
  · have h := hR (1 + 2 * ((n.length - 1) / 2)) (by omega) (by omega)
    rw [show (n.length - 1) / 2 = (n.drop 1).length / 2 by rw [hd], pairs_all, hd]
    exact h

def r3GuessF (ds : List DV) : List DV := r3GuessE (gLs ds 0) (gi ds 1)
/-- What the executor makes of it. -/
def r3GuessTree : PT :=
(.br (.un .not (.bin .le (.int 0) (.var 1)))
 (.leaf [(.int 0), .nil, (.int 0)])
 (.br (.bin .le (.un .len (.var 0)) (.var 1))
  (.leaf [(.int 0), .nil, (.int 0)])
  (.br (.un .not (.bin .eq (.un .slen (.bin .idx (.var 0) (.bin .add (.int 0) (.var 1)))) (.int 32)))
   (.leaf [(.int 0), .nil, (.int 0)])
   (.loop 2 [(.str []), (.var 1)]
    (.br (.un .not (.bin .le (.un (.wrap .i64) (.bin .add (.var 1) (.un (.wrap .i64) (.bin .add (.un (.wrap .i64) (.bin .byte (.bin .idx (.var 0) (.bin .add (.int 0) (.var 1))) (.int 0))) (.int 1))))) (.var 3)))
     (.br (.un .not (.bin .le (.un .len (.var 0)) (.var 3)))
      (.asrt (.bin .le (.int 0) (.var 3))
       (.br (.bin .eq (.un .slen (.bin .idx (.var 0) (.bin .add (.int 0) (.var 3)))) (.int 32))
        (.asrt (.bin .le (.bin .add (.un .slen (.var 2)) (.un .slen (.bin .sdrop (.bin .stake (.bin .idx (.var 0) (.bin .add (.int 0) (.var 3))) (.int 28)) (.int 1)))) (.int 9223372036854775807))
         (.leaf [(.bin .cat (.var 2) (.bin .sdrop (.bin .stake (.bin .idx (.var 0) (.bin .add (.int 0) (.var 3))) (.int 28)) (.int 1))), (.un (.wrap .i64) (.bin .add (.var 3) (.int 1)))]))
        (.leaf [(.var 2), (.un (.wrap .i64) (.bin .add (.var 3) (.int 1)))])))
      .fail)
     .fail)
    (.br (.un .not (.bin .le (.un (.wrap .i64) (.bin .add (.var 1) (.un (.wrap .i64) (.bin .add (.un (.wrap .i64) (.bin .byte (.bin .idx (.var 0) (.bin .add (.int 0) (.var 1))) (.int 0))) (.int 1))))) (.var 3)))
     (.br (.un .not (.bin .le (.un .len (.var 0)) (.var 3)))
      (.asrt (.bin .le (.int 0) (.var 3))
       (.br (.bin .eq (.un .slen (.bin .idx (.var 0) (.bin .add (.int 0) (.var 3)))) (.int 32))
        (.asrt (.bin .le (.bin .add (.un .slen (.var 2)) (.un .slen (.bin .sdrop (.bin .stake (.bin .idx (.var 0) (.bin .add (.int 0) (.var 3))) (.int 28)) (.int 1)))) (.int 9223372036854775807))
         .fail)
        .fail))
      (.asrt (.bin .le (.un .slen (.var 2)) (.int 100000))
       (.br (.un .not (.bin .eq (.bin .idx (.fn 156 (.bin .cons (.un .bytes (.var 2)) .nil)) (.int 2)) (.int 0)))
        (.leaf [(.int 0), .nil, (.int 0)])
        (.br (.bin .eq (.un .len (.bin .idx (.fn 156 (.bin .cons (.un .bytes (.var 2)) .nil)) (.int 0))) (.int 0))
         (.leaf [(.int 0), .nil, (.int 0)])
         (.loop 4 [(.int 1), .nil]
          (.br (.un .not (.bin .le (.un .len (.bin .idx (.fn 156 (.bin .cons (.un .bytes (.var 2)) .nil)) (.int 0))) (.un (.wrap .i64) (.bin .add (.var 4) (.int 1)))))
           (.asrt (.bin .le (.int 0) (.var 4))
            (.asrt (.un .not (.bin .le (.un .len (.bin .idx (.fn 156 (.bin .cons (.un .bytes (.var 2)) .nil)) (.int 0))) (.var 4)))
             (.asrt (.bin .le (.int 0) (.un (.wrap .i64) (.bin .add (.var 4) (.int 1))))
              (.asrt (.bin .le (.bin .add (.un .len (.var 5)) (.int 1)) (.int 4294967296))
               (.leaf [(.un (.wrap .i64) (.bin .add (.var 4) (.int 2))), (.bin .snoc (.var 5) (.bin .cons (.bin .idx (.bin .idx (.fn 156 (.bin .cons (.un .bytes (.var 2)) .nil)) (.int 0)) (.bin .add (.int 0) (.var 4))) (.bin .cons (.bin .idx (.bin .idx (.fn 156 (.bin .cons (.un .bytes (.var 2)) .nil)) (.int 0)) (.bin .add (.int 0) (.un (.wrap .i64) (.bin .add (.var 4) (.int 1))))) .nil)))])))))
           .fail)
          (.br (.un .not (.bin .le (.un .len (.bin .idx (.fn 156 (.bin .cons (.un .bytes (.var 2)) .nil)) (.int 0))) (.un (.wrap .i64) (.bin .add (.var 4) (.int 1)))))
           (.asrt (.bin .le (.int 0) (.var 4))
            (.asrt (.un .not (.bin .le (.un .len (.bin .idx (.fn 156 (.bin .cons (.un .bytes (.var 2)) .nil)) (.int 0))) (.var 4)))
             (.asrt (.bin .le (.int 0) (.un (.wrap .i64) (.bin .add (.var 4) (.int 1))))
              (.asrt (.bin .le (.bin .add (.un .len (.var 5)) (.int 1)) (.int 4294967296))
               .fail))))
           (.leaf [(.bin .idx (.bin .idx (.fn 156 (.bin .cons (.un .bytes (.var 2)) .nil)) (.int 0)) (.int 0)), (.var 5), (.un (.wrap .i64) (.bin .add (.un (.wrap .i64) (.bin .byte (.bin .idx (.var 0) (.bin .add (.int 0) (.var 1))) (.int 0))) (.int 1)))])))))))
     (.asrt (.bin .le (.un .slen (.var 2)) (.int 100000))
      (.br (.un .not (.bin .eq (.bin .idx (.fn 156 (.bin .cons (.un .bytes (.var 2)) .nil)) (.int 2)) (.int 0)))
       (.leaf [(.int 0), .nil, (.int 0)])
       (.br (.bin .eq (.un .len (.bin .idx (.fn 156 (.bin .cons (.un .bytes (.var 2)) .nil)) (.int 0))) (.int 0))
        (.leaf [(.int 0), .nil, (.int 0)])
        (.loop 4 [(.int 1), .nil]
         (.br (.un .not (.bin .le (.un .len (.bin .idx (.fn 156 (.bin .cons (.un .bytes (.var 2)) .nil)) (.int 0))) (.un (.wrap .i64) (.bin .add (.var 4) (.int 1)))))
          (.asrt (.bin .le (.int 0) (.var 4))
           (.asrt (.un .not (.bin .le (.un .len (.bin .idx (.fn 156 (.bin .cons (.un .bytes (.var 2)) .nil)) (.int 0))) (.var 4)))
            (.asrt (.bin .le (.int 0) (.un (.wrap .i64) (.bin .add (.var 4) (.int 1))))
             (.asrt (.bin .le (.bin .add (.un .len (.var 5)) (.int 1)) (.int 4294967296))
              (.leaf [(.un (.wrap .i64) (.bin .add (.var 4) (.int 2))), (.bin .snoc (.var 5) (.bin .cons (.bin .idx (.bin .idx (.fn 156 (.bin .cons (.un .bytes (.var 2)) .nil)) (.int 0)) (.bin .add (.int 0) (.var 4))) (.bin .cons (.bin .idx (.bin .idx (.fn 156 (.bin .cons (.un .bytes (.var 2)) .nil)) (.int 0)) (.bin .add (.int 0) (.un (.wrap .i64) (.bin .add (.var 4) (.int 1))))) .nil)))])))))
          .fail)
         (.br (.un .not (.bin .le (.un .len (.bin .idx (.fn 156 (.bin .cons (.un .bytes (.var 2)) .nil)) (.int 0))) (.un (.wrap .i64) (.bin .add (.var 4) (.int 1)))))
          (.asrt (.bin .le (.int 0) (.var 4))
           (.asrt (.un .not (.bin .le (.un .len (.bin .idx (.fn 156 (.bin .cons (.un .bytes (.var 2)) .nil)) (.int 0))) (.var 4)))
            (.asrt (.bin .le (.int 0) (.un (.wrap .i64) (.bin .add (.var 4) (.int 1))))
             (.asrt (.bin .le (.bin .add (.un .len (.var 5)) (.int 1)) (.int 4294967296))
              .fail))))
          (.leaf [(.bin .idx (.bin .idx (.fn 156 (.bin .cons (.un .bytes (.var 2)) .nil)) (.int 0)) (.int 0)), (.var 5), (.un (.wrap .i64) (.bin .add (.un (.wrap .i64) (.bin .byte (.bin .idx (.var 0) (.bin .add (.int 0) (.var 1))) (.int 0))) (.int 1)))])))))))))))

def r3GuessSm : List (Nat × Smy) := [(83, ⟨156, [.one (.rows false [.int .u8])], [.one (.rows false [.int .i64]), .one (.pl (.int .i64)), .one (.pl (.int .i64))], lenC [(0, 100000)], none⟩)]
def r3GuessLa : List (LK × LA) := [(⟨107, 17, 6, 4, 7⟩, ⟨[(13, (.int .i64 (.var 4))), (83, .any), (84, .any), (85, .any), (86, .any), (87, .any), (88, .any), (89, .any), (90, .any), (91, .any), (92, .any), (93, .any), (94, .any), (95, .any), (96, .any), (97, .any), (98, .any), (99, .any), (100, .any), (101, .any), (102, .any), (103, .any), (104, .any)], [(5, (.cells [(.int .i64 (.bin .idx (.bin .idx (.fn 156 (.bin .cons (.un .bytes (.var 2)) .nil)) (.int 0)) (.int 0))), (.sl 6 2 (.int 0) (.un .len (.var 5)) none)])), (6, (.rows [.int .i64, .int .i64] (.var 5)))], [], 2, 1⟩),
  (⟨107, 17, 6, 4, 8⟩, ⟨[(13, (.int .i64 (.var 4))), (83, .any), (84, .any), (85, .any), (86, .any), (87, .any), (88, .any), (89, .any), (90, .any), (91, .any), (92, .any), (93, .any), (94, .any), (95, .any), (96, .any), (97, .any), (98, .any), (99, .any), (100, .any), (101, .any), (102, .any), (103, .any), (104, .any)], [(5, (.cells [(.int .i64 (.bin .idx (.bin .idx (.fn 156 (.bin .cons (.un .bytes (.var 2)) .nil)) (.int 0)) (.int 0))), (.sl 6 2 (.int 0) (.un .len (.var 5)) none)])), (6, (.rows [.int .i64, .int .i64] (.var 5)))], [], 2, 1⟩),
  (⟨107, 8, 3, 2, 3⟩, ⟨[(7, (.str (.var 2))), (8, (.int .i64 (.var 3))), (38, .any), (39, .any), (40, .any), (41, .any), (42, .any), (43, .any), (44, .any), (45, .any), (46, .any), (47, .any), (48, .any), (49, .any), (50, .any), (51, .any), (52, .any), (53, .any), (54, .any), (55, .any), (56, .any), (57, .any), (58, .any), (59, .any), (60, .any), (61, .any), (62, .any), (63, .any)], [], [], 2, 0⟩)]
def r3GuessPhi : Fs := ⟨fun n d => match n with
  | 156 => .list (r3GetNumsF d.l)
  | _ => d, 147⟩
theorem r3GuessS : SmyOk true Tryd.prog r3GuessPhi r3GuessSm := (smy_cons (lenP [(0, 100000)]) r3GetNumsF r3GetNums_pure (len_hp [(0, 100000)]) (fun _ => rfl) (fun _ h => by cases h) smy_nil)
theorem r3GuessT : treeOk ⟨Tryd.prog, r3GuessSm, r3GuessLa, true⟩ 4000 45 [.one (.rows false [.str]), .one (.pl (.int .i64))] [.agg [.pl (.int .i64), .rows false [.int .i64, .int .i64]], .one (.pl (.int .i64))] ([]) r3GuessTree = true := by decide +kernel
set_option maxHeartbeats 1000000 in
theorem r3Guess_pure : PureE true Tryd.prog 45 [.one (.rows false [.str]), .one (.pl (.int .i64))] [.agg [.pl (.int .i64), .rows false [.int .i64, .int .i64]], .one (.pl (.int .i64))] (fun ds => lenP [(0, 1000)] ds ∧ rgeP [(1, -9223372036854775808, 9223372036854775807)] ds) r3GuessF := by
  refine pure_tree (X := ⟨Tryd.prog, r3GuessSm, r3GuessLa, true⟩) (by decide +kernel) (Checked.mixed Tryd.checked) r3GuessS (by decide +kernel) (by decide +kernel) r3GuessT (by decide +kernel) ?_
  intro ds hl hp
  obtain ⟨d0, d1, rfl⟩ := len2 hl
  have b0 : (d0.l.length : Int) ≤ 1000 := hp.1 (0, 1000) (by simp)
  have r1 : -9223372036854775808 ≤ d1.i ∧ d1.i ≤ 9223372036854775807 := hp.2 (1, -9223372036854775808, 9223372036854775807) (by simp)
  have hF : r3GuessF [d0, d1] = r3GuessE (d0.l.map DV.s) d1.i := rfl
  rw [hF]
  clear hF hp hl
  have hN : nrmL (clsOf [.one (.rows false [.str]), .one (.pl (.int .i64))]) [d0, d1] = [.list ((d0.l.map DV.s).map DV.str), .int d1.i] := by
    simp only [clsOf, Sh.cls, List.append_nil, List.cons_append, List.nil_append, nrmL, Cl.nrm, CK.nrm, map_Ls]
  rw [hN]
  clear hN
  rw [← List.length_map (f := DV.s)] at b0
  generalize d0.l.map DV.s = x0 at b0 ⊢
  generalize d1.i = x1 at r1 ⊢
  refine ⟨facts_nil _, ?_⟩
  unfold r3GuessTree r3GuessE
  simp only [Sat, clsOf, Sh.cls, List.append_nil, List.cons_append, List.nil_append, nrmL, Cl.nrm, CK.nrm, List.map_cons, List.map_nil, List.length_cons, List.length_nil, List.cons.injEq, DV.bool.injEq, DV.int.injEq, DV.list.injEq, DV.str.injEq, and_true, true_and]
  try simp only [q_le, q_eq, q_eqs, q_eqb, q_and, q_or, q_not, q_bool, iff_true, iff_false, Bool.not_true, Bool.not_false, Bool.false_eq_true, Bool.true_eq_false, eq_self, Bool.not_not]
  simp only [Bool.not_true, Bool.not_false, Bool.true_eq_false, SE.den, evU, evT, ev_le, ev_eq, ev_eqs, ev_eqb, ev_slt, ev_and, ev_or, ev_add, ev_sub, ev_mul, ev_tdiv, ev_tmod, ev_band, ev_bor, ev_bxor, ev_bandn, ev_shl, ev_shr, ev_cat, ev_byte, ev_idx, ev_cons, ev_snoc, ev_app, ev_take, ev_drop, ev_stake, ev_sdrop, ev_rep, leB_q, eqB_q, eqsB_q, not_q, i_if, b_if, l_if, s_if, i_int, b_bool, s_str, l_list, envL, List.getElem?_cons_succ, List.getElem?_cons_zero, List.getElem?_nil, Option.getD_some, Option.getD_none, Int.toNat_natCast, Int.toNat_zero, Int.reduceToNat, List.length_map, get_Li, get_Lb, get_Ls, set_Li, inj_Li, inj_Lb, inj_Ls, rows_i, rows_b, rows_s, Int.zero_add, iff_true, iff_false, and_true, true_and, Bool.false_eq_true, eq_self, not_true_eq_false, not_false_eq_true, List.length_replicate, DV.int.injEq, DV.bool.injEq, DV.str.injEq, DV.list.injEq, List.cons.injEq, f_ii_0, rows_ii, inj_Lii, f_ii_1, rows_ii, inj_Lii, r3GuessPhi, r3GetNumsF, r3GetNumsE, gi, gb, gs, gLi, gLu, gLb, gLs, dece_i, dece_b, dece_s, Int.zero_add, nrm_guess]
  refine ⟨fun h => by rw [guess_no (by omega)]; rfl, fun h0 => ⟨fun h => by rw [guess_no (by omega)]; rfl, fun h1 => ⟨fun h => by rw [guess_no (by omega)]; rfl, fun h2 => ?_⟩⟩⟩
  obtain ⟨a, rfl⟩ : ∃ a : Nat, x1 = a := ⟨x1.toNat, by omega⟩
  simp only [Int.toNat_natCast] at h2 ⊢
  have hm1 : 1 ≤ manyM x0 a ∧ manyM x0 a ≤ 256 := by
    have : ((x0[a]?.getD [])[0]?.getD 0).toNat < 256 := UInt8.toNat_lt _
    unfold manyM
    omega
  have hm : (IntKind.i64.wrap (IntKind.i64.wrap ((((x0[a]?.getD [])[0]?.getD 0).toNat : Nat) : Int) + 1)) = (manyM x0 a : Nat) := by
    have e : manyM x0 a = ((x0[a]?.getD [])[0]?.getD 0).toNat + 1 := rfl
    rw [e] at hm1 ⊢
    generalize ((x0[a]?.getD [])[0]?.getD 0).toNat = q at *
    rw [w64 (n := (q : Int)) (by omega) (by omega), w64 (by omega) (by omega)]
    omega
  have hg : guess3 x0 a = guessN (manyM x0 a) (getNums3 (bytesN (load3 ((x0.drop a).take (manyM x0 a))))) := by
    unfold guess3
    rw [if_pos ⟨h0, by omega, by rw [Int.toNat_natCast]; omega⟩, Int.toNat_natCast]
  have hw2 : IntKind.i64.wrap ((a : Int) + (manyM x0 a : Nat)) = ((a + manyM x0 a : Nat) : Int) := by rw [w64 (by omega) (by omega)]; omega
  rw [hg]
  simp only [hm, hw2]
  clear hm hw2 hg
  generalize manyM x0 a = M at *
  have hdl : (x0.drop a).length = x0.length - a := List.length_drop ..
  refine rounds_at (min M (x0.length - a)) (fun j => [DV.str (load3 ((x0.drop a).take j)), DV.int ((a + j : Nat) : Int)]) (by simp [load3]) (fun _ => rfl) (fun j hj => ?_) ?_
  · rw [load3_snoc (x0.drop a) j (by omega)]
    have hll := load3_len ((x0.drop a).take j)
    rw [List.length_take] at hll
    have he : (x0.drop a)[j]?.getD [] = x0[a + j]?.getD [] := by rw [List.getElem?_drop]
    have hwj : IntKind.i64.wrap (((a + j : Nat) : Int) + 1) = ((a + (j + 1) : Nat) : Int) := by rw [w64 (by omega) (by omega)]; omega
    rw [he]
    simp only [Bool.not_true, Bool.not_false, Bool.true_eq_false, SE.den, evU, evT, ev_le, ev_eq, ev_eqs, ev_eqb, ev_slt, ev_and, ev_or, ev_add, ev_sub, ev_mul, ev_tdiv, ev_tmod, ev_band, ev_bor, ev_bxor, ev_bandn, ev_shl, ev_shr, ev_cat, ev_byte, ev_idx, ev_cons, ev_snoc, ev_app, ev_take, ev_drop, ev_stake, ev_sdrop, ev_rep, leB_q, eqB_q, eqsB_q, not_q, i_if, b_if, l_if, s_if, i_int, b_bool, s_str, l_list, envL, List.getElem?_cons_succ, List.getElem?_cons_zero, List.getElem?_nil, Option.getD_some, Option.getD_none, Int.toNat_natCast, Int.toNat_zero, Int.reduceToNat, List.length_map, get_Li, get_Lb, get_Ls, set_Li, inj_Li, inj_Lb, inj_Ls, rows_i, rows_b, rows_s, Int.zero_add, iff_true, iff_false, and_true, true_and, Bool.false_eq_true, eq_self, not_true_eq_false, not_false_eq_true, List.length_replicate, DV.int.injEq, DV.bool.injEq, DV.str.injEq, DV.list.injEq, List.cons.injEq, f_ii_0, rows_ii, inj_Lii, f_ii_1, rows_ii, inj_Lii, hwj]
    generalize x0[a + j]?.getD [] = s at *
    refine ⟨fun _ => ⟨fun _ => ⟨by omega, fun hs => ?_, fun hs => ?_⟩, fun h => absurd h (by omega)⟩, fun h => absurd h (by omega)⟩
    · have : pay3 s = (s.take 28).drop 1 := if_pos (by omega)
      rw [this]
      exact ⟨by rw [List.length_drop, List.length_take]; omega, rfl⟩
    · have : pay3 s = [] := if_neg (by omega)
      rw [this, List.append_nil]
  · have ht : (x0.drop a).take (min M (x0.length - a)) = (x0.drop a).take M := by
      rcases Nat.le_total M (x0.length - a) with h | h
      · rw [Nat.min_eq_left h]
      · rw [Nat.min_eq_right h, List.take_of_length_le (by omega), List.take_of_length_le (by omega)]
    rw [ht]
    have hll := load3_len ((x0.drop a).take M)
    rw [List.length_take] at hll
    simp only [Bool.not_true, Bool.not_false, Bool.true_eq_false, SE.den, evU, evT, ev_le, ev_eq, ev_eqs, ev_eqb, ev_slt, ev_and, ev_or, ev_add, ev_sub, ev_mul, ev_tdiv, ev_tmod, ev_band, ev_bor, ev_bxor, ev_bandn, ev_shl, ev_shr, ev_cat, ev_byte, ev_idx, ev_cons, ev_snoc, ev_app, ev_take, ev_drop, ev_stake, ev_sdrop, ev_rep, leB_q, eqB_q, eqsB_q, not_q, i_if, b_if, l_if, s_if, i_int, b_bool, s_str, l_list, envL, List.getElem?_cons_succ, List.getElem?_cons_zero, List.getElem?_nil, Option.getD_some, Option.getD_none, Int.toNat_natCast, Int.toNat_zero, Int.reduceToNat, List.length_map, get_Li, get_Lb, get_Ls, set_Li, inj_Li, inj_Lb, inj_Ls, rows_i, rows_b, rows_s, Int.zero_add, iff_true, iff_false, and_true, true_and, Bool.false_eq_true, eq_self, not_true_eq_false, not_false_eq_true, List.length_replicate, DV.int.injEq, DV.bool.injEq, DV.str.injEq, DV.list.injEq, List.cons.injEq, f_ii_0, rows_ii, inj_Lii, f_ii_1, rows_ii, inj_Lii, List.cons_append, List.nil_append]
    generalize load3 ((x0.drop a).take M) = b at *
    refine ⟨fun h => ⟨fun h' => absurd h' (by omega), fun _ => ?_⟩, fun _ => ?_⟩
    all_goals
      refine ⟨by omega, ?_⟩
      cases hn : getNums3 (bytesN b) with
      | none =>
        simp only [getN3, Bool.not_true, Bool.not_false, Bool.true_eq_false, SE.den, evU, evT, ev_le, ev_eq, ev_eqs, ev_eqb, ev_slt, ev_and, ev_or, ev_add, ev_sub, ev_mul, ev_tdiv, ev_tmod, ev_band, ev_bor, ev_bxor, ev_bandn, ev_shl, ev_shr, ev_cat, ev_byte, ev_idx, ev_cons, ev_snoc, ev_app, ev_take, ev_drop, ev_stake, ev_sdrop, ev_rep, leB_q, eqB_q, eqsB_q, not_q, i_if, b_if, l_if, s_if, i_int, b_bool, s_str, l_list, envL, List.getElem?_cons_succ, List.getElem?_cons_zero, List.getElem?_nil, Option.getD_some, Option.getD_none, Int.toNat_natCast, Int.toNat_zero, Int.reduceToNat, List.length_map, get_Li, get_Lb, get_Ls, set_Li, inj_Li, inj_Lb, inj_Ls, rows_i, rows_b, rows_s, Int.zero_add, iff_true, iff_false, and_true, true_and, Bool.false_eq_true, eq_self, not_true_eq_false, not_false_eq_true, List.length_replicate, DV.int.injEq, DV.bool.injEq, DV.str.injEq, DV.list.injEq, List.cons.injEq, f_ii_0, rows_ii, inj_Lii, f_ii_1, rows_ii, inj_Lii]
        exact ⟨fun _ => rfl, fun h => absurd h (by omega)⟩
      | some p =>
        obtain ⟨n, u⟩ := p
        have hnl := (getNums3_len hn).1
        rw [bytes_len] at hnl
        simp only [getN3, Bool.not_true, Bool.not_false, Bool.true_eq_false, SE.den, evU, evT, ev_le, ev_eq, ev_eqs, ev_eqb, ev_slt, ev_and, ev_or, ev_add, ev_sub, ev_mul, ev_tdiv, ev_tmod, ev_band, ev_bor, ev_bxor, ev_bandn, ev_shl, ev_shr, ev_cat, ev_byte, ev_idx, ev_cons, ev_snoc, ev_app, ev_take, ev_drop, ev_stake, ev_sdrop, ev_rep, leB_q, eqB_q, eqsB_q, not_q, i_if, b_if, l_if, s_if, i_int, b_bool, s_str, l_list, envL, List.getElem?_cons_succ, List.getElem?_cons_zero, List.getElem?_nil, Option.getD_some, Option.getD_none, Int.toNat_natCast, Int.toNat_zero, Int.reduceToNat, List.length_map, get_Li, get_Lb, get_Ls, set_Li, inj_Li, inj_Lb, inj_Ls, rows_i, rows_b, rows_s, Int.zero_add, iff_true, iff_false, and_true, true_and, Bool.false_eq_true, eq_self, not_true_eq_false, not_false_eq_true, List.length_replicate, DV.int.injEq, DV.bool.injEq, DV.str.injEq, DV.list.injEq, List.cons.injEq, f_ii_0, rows_ii, inj_Lii, f_ii_1, rows_ii, inj_Lii, getd_int]
        have hgn : n.length ≠ 0 → guessN (M : Int) (some (n, u)) = ((n[0]?.getD 0, pairsM (n.drop 1)), (M : Int)) := fun h => if_neg h
        refine ⟨fun h => h.elim, fun _ => ⟨fun h => by rw [show guessN (M : Int) (some (n, u)) = ((0, []), 0) from if_pos (show n.length = 0 by omega)]; rfl, fun hz => ⟨rfl, ?_⟩⟩⟩
        rw [hgn (by omega)]
        refine r3_pairs n (by omega) (fun i out hi h1i ho => ?_) (fun i hi hi2 => ?_)
        · have w1 : IntKind.i64.wrap ((i : Int) + 1) = ((i + 1 : Nat) : Int) := by rw [w64 (by omega) (by omega)]; omega
          have w2 : IntKind.i64.wrap ((i : Int) + 2) = ((i + 2 : Nat) : Int) := by rw [w64 (by omega) (by omega)]; omega
          simp only [Bool.not_true, Bool.not_false, Bool.true_eq_false, SE.den, evU, evT, ev_le, ev_eq, ev_eqs, ev_eqb, ev_slt, ev_and, ev_or, ev_add, ev_sub, ev_mul, ev_tdiv, ev_tmod, ev_band, ev_bor, ev_bxor, ev_bandn, ev_shl, ev_shr, ev_cat, ev_byte, ev_idx, ev_cons, ev_snoc, ev_app, ev_take, ev_drop, ev_stake, ev_sdrop, ev_rep, leB_q, eqB_q, eqsB_q, not_q, i_if, b_if, l_if, s_if, i_int, b_bool, s_str, l_list, envL, List.getElem?_cons_succ, List.getElem?_cons_zero, List.getElem?_nil, Option.getD_some, Option.getD_none, Int.toNat_natCast, Int.toNat_zero, Int.reduceToNat, List.length_map, get_Li, get_Lb, get_Ls, set_Li, inj_Li, inj_Lb, inj_Ls, rows_i, rows_b, rows_s, Int.zero_add, iff_true, iff_false, and_true, true_and, Bool.false_eq_true, eq_self, not_true_eq_false, not_false_eq_true, List.length_replicate, DV.int.injEq, DV.bool.injEq, DV.str.injEq, DV.list.injEq, List.cons.injEq, f_ii_0, rows_ii, inj_Lii, f_ii_1, rows_ii, inj_Lii, w1, w2]
          refine ⟨fun _ => ⟨by omega, by omega, by omega, by omega, ?_⟩, fun h => absurd h (by omega)⟩
          simp [encii]
        · have w1 : IntKind.i64.wrap ((i : Int) + 1) = ((i + 1 : Nat) : Int) := by rw [w64 (by omega) (by omega)]; omega
          simp only [Bool.not_true, Bool.not_false, Bool.true_eq_false, SE.den, evU, evT, ev_le, ev_eq, ev_eqs, ev_eqb, ev_slt, ev_and, ev_or, ev_add, ev_sub, ev_mul, ev_tdiv, ev_tmod, ev_band, ev_bor, ev_bxor, ev_bandn, ev_shl, ev_shr, ev_cat, ev_byte, ev_idx, ev_cons, ev_snoc, ev_app, ev_take, ev_drop, ev_stake, ev_sdrop, ev_rep, leB_q, eqB_q, eqsB_q, not_q, i_if, b_if, l_if, s_if, i_int, b_bool, s_str, l_list, envL, List.getElem?_cons_succ, List.getElem?_cons_zero, List.getElem?_nil, Option.getD_some, Option.getD_none, Int.toNat_natCast, Int.toNat_zero, Int.reduceToNat, List.length_map, get_Li, get_Lb, get_Ls, set_Li, inj_Li, inj_Lb, inj_Ls, rows_i, rows_b, rows_s, Int.zero_add, iff_true, iff_false, and_true, true_and, Bool.false_eq_true, eq_self, not_true_eq_false, not_false_eq_true, List.length_replicate, DV.int.injEq, DV.bool.injEq, DV.str.injEq, DV.list.injEq, List.cons.injEq, f_ii_0, rows_ii, inj_Lii, f_ii_1, rows_ii, inj_Lii, w1]
          exact ⟨fun h => absurd (by omega) h, fun _ => rfl⟩
end Go.Proofs.YtkfjgggiopegbaaDoor
