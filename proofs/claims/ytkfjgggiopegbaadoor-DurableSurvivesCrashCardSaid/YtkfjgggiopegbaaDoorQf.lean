/- Part 6 of a proof: the executor, its soundness, contracts of functions. No condition. -/
import Derived.Shelf.Strings.Repeat
import Derived.Test.YtkfjgggiopegbaaDoorQe
section
namespace Go.Proofs.YtkfjgggiopegbaaDoor
set_option linter.unusedVariables false
set_option linter.unusedSimpArgs false
set_option maxRecDepth 100000
def rValidE (v : Int) (w : List Tii) : List DV := [.bool (validM v w)]
theorem asc_at3 (p : Int) (w : List Tii) (i : Nat) : ascM p (w.drop i) = if w.length ≤ i then true else (decide (p < (w[i]?.getD dii).1) && ascM (w[i]?.getD dii).1 (w.drop (i + 1))) := by
  by_cases h : w.length ≤ i
  · rw [if_pos h, List.drop_eq_nil_of_le h]; rfl
  · rw [if_neg h, List.drop_eq_getElem_cons (by omega)]
    have e1 : w[i]?.getD dii = w[i] := by rw [List.getElem?_eq_getElem (by omega)]; rfl
    rw [e1]; rfl
def rValidF (ds : List DV) : List DV := rValidE (gi ds 0) (gLii ds 1)
def rValidTree : PT :=
(.br (.un .not (.bin .le (.int 1) (.var 0)))
 (.leaf [(.bool false)])
 (.br (.un .not (.bin .le (.var 0) (.int 1099511627776)))
  (.leaf [(.bool false)])
  (.br (.un .not (.bin .le (.un .len (.var 1)) (.int 32)))
   (.leaf [(.bool false)])
   (.loop 2 [(.int 0)]
    (.br (.un .not (.bin .le (.un .len (.var 1)) (.var 2)))
     (.asrt (.bin .le (.int 0) (.var 2))
      (.br (.un .not (.bin .le (.int 0) (.bin .idx (.bin .idx (.var 1) (.bin .add (.int 0) (.var 2))) (.int 0))))
       .fail
       (.br (.un .not (.bin .le (.var 2) (.int 0)))
        (.asrt (.bin .le (.int 0) (.tri .ite (.un .not (.bin .le (.int 0) (.un (.wrap .i64) (.bin .sub (.var 2) (.int 1))))) (.int 0) (.un (.wrap .i64) (.bin .sub (.var 2) (.int 1)))))
         (.asrt (.un .not (.bin .le (.un .len (.var 1)) (.tri .ite (.un .not (.bin .le (.int 0) (.un (.wrap .i64) (.bin .sub (.var 2) (.int 1))))) (.int 0) (.un (.wrap .i64) (.bin .sub (.var 2) (.int 1))))))
          (.br (.bin .le (.bin .idx (.bin .idx (.var 1) (.bin .add (.int 0) (.var 2))) (.int 0)) (.bin .idx (.bin .idx (.var 1) (.bin .add (.int 0) (.tri .ite (.un .not (.bin .le (.int 0) (.un (.wrap .i64) (.bin .sub (.var 2) (.int 1))))) (.int 0) (.un (.wrap .i64) (.bin .sub (.var 2) (.int 1)))))) (.int 0)))
           .fail
           (.leaf [(.un (.wrap .i64) (.bin .add (.var 2) (.int 1)))]))))
        (.leaf [(.un (.wrap .i64) (.bin .add (.var 2) (.int 1)))]))))
     .fail)
    (.br (.un .not (.bin .le (.un .len (.var 1)) (.var 2)))
     (.asrt (.bin .le (.int 0) (.var 2))
      (.br (.un .not (.bin .le (.int 0) (.bin .idx (.bin .idx (.var 1) (.bin .add (.int 0) (.var 2))) (.int 0))))
       (.leaf [(.bool false)])
       (.br (.un .not (.bin .le (.var 2) (.int 0)))
        (.asrt (.bin .le (.int 0) (.tri .ite (.un .not (.bin .le (.int 0) (.un (.wrap .i64) (.bin .sub (.var 2) (.int 1))))) (.int 0) (.un (.wrap .i64) (.bin .sub (.var 2) (.int 1)))))
         (.asrt (.un .not (.bin .le (.un .len (.var 1)) (.tri .ite (.un .not (.bin .le (.int 0) (.un (.wrap .i64) (.bin .sub (.var 2) (.int 1))))) (.int 0) (.un (.wrap .i64) (.bin .sub (.var 2) (.int 1))))))
          (.br (.bin .le (.bin .idx (.bin .idx (.var 1) (.bin .add (.int 0) (.var 2))) (.int 0)) (.bin .idx (.bin .idx (.var 1) (.bin .add (.int 0) (.tri .ite (.un .not (.bin .le (.int 0) (.un (.wrap .i64) (.bin .sub (.var 2) (.int 1))))) (.int 0) (.un (.wrap .i64) (.bin .sub (.var 2) (.int 1)))))) (.int 0)))
           (.leaf [(.bool false)])
           .fail)))
        .fail)))
     (.leaf [(.bool true)]))))))
def rValidSm : List (Nat × Smy) := []
def rValidLa : List (LK × LA) := [(⟨53, 4, 3, 2, 3⟩, ⟨[(3, (.int .i64 (.var 2))), (18, .any), (19, .any), (20, .any), (21, .any), (22, .any), (23, .any), (24, .any), (25, .any), (26, .any), (27, .any), (28, .any), (29, .any), (30, .any), (31, .any), (32, .any), (33, .any), (34, .any), (35, .any), (36, .any), (37, .any), (38, .any), (39, .any), (40, .any), (41, .any), (42, .any), (43, .any), (44, .any), (45, .any), (46, .any), (47, .any), (48, .any), (49, .any), (50, .any), (51, .any), (52, .any)], [], [], 1, 0⟩)]
def rValidPhi : Fs := ⟨fun n d => match n with
  | _ => d, 147⟩
theorem rValidS : SmyOk true Tryd.prog rValidPhi rValidSm := smy_nil
theorem rValidT : treeOk ⟨Tryd.prog, rValidSm, rValidLa, true⟩ 4000 72 [.agg [.pl (.int .i64), .rows false [.int .i64, .int .i64]]] [.one (.pl .bool)] ([]) rValidTree = true := by decide +kernel
set_option maxHeartbeats 1000000 in
theorem rValid_pure : PureE true Tryd.prog 72 [.agg [.pl (.int .i64), .rows false [.int .i64, .int .i64]]] [.one (.pl .bool)] (lenP [(1, 9223372036854775807)]) rValidF := by
  refine pure_tree (X := ⟨Tryd.prog, rValidSm, rValidLa, true⟩) (by decide +kernel) (Checked.mixed Tryd.checked) rValidS (by decide +kernel) (by decide +kernel) rValidT (by decide +kernel) ?_
  intro ds hl hp
  obtain ⟨d0, d1, rfl⟩ := len2 hl
  have b1 : (d1.l.length : Int) ≤ 9223372036854775807 := hp (1, 9223372036854775807) (by simp)
  have hF : rValidF [d0, d1] = rValidE d0.i (d1.l.map decii) := rfl
  rw [hF]
  clear hF hp hl
  have hN : nrmL (clsOf [.agg [.pl (.int .i64), .rows false [.int .i64, .int .i64]]]) [d0, d1] = [.int d0.i, .list ((d1.l.map decii).map encii)] := by
    simp only [clsOf, Sh.cls, List.append_nil, nrmL, Cl.nrm, CK.nrm, map_Lii]
  rw [hN]
  clear hN
  generalize d0.i = x0
  rw [← List.length_map (f := decii)] at b1
  generalize d1.l.map decii = x1 at b1 ⊢
  refine ⟨facts_nil _, ?_⟩
  unfold rValidTree rValidE
  simp only [Sat, clsOf, Sh.cls, List.append_nil, List.cons_append, List.nil_append, nrmL, Cl.nrm, CK.nrm, List.map_cons, List.map_nil, List.length_cons, List.length_nil, List.cons.injEq, DV.bool.injEq, and_true, true_and]
  simp only [q_le, q_not, q_bool, iff_true, iff_false, Bool.not_true, Bool.not_false, Bool.false_eq_true, eq_self]
  simp only [Bool.not_true, SE.den, evU, evT, ev_le, ev_add, ev_sub, ev_idx, leB_q, not_q, i_if, i_int, b_bool, l_list, envL, List.getElem?_cons_succ, List.getElem?_cons_zero, Option.getD_some, Int.toNat_zero, List.length_map, Int.zero_add, iff_false, Bool.false_eq_true, f_ii_0, rValidPhi]
  refine ⟨fun h => ?_, fun a1 => ⟨fun h => ?_, fun a2 => ⟨fun h => ?_, fun a3 => ?_⟩⟩⟩
  · unfold validM; simp [h]
  · unfold validM; simp [h]
  · unfold validM
    have : ¬ x1.length ≤ 32 := by omega
    simp [this]
  · have hV : validM x0 x1 = ascM (-1) x1 := by
      unfold validM
      have : x1.length ≤ 32 := by omega
      simp [a1, a2, this]
    rw [hV]
    refine rounds_inv (fun y => ∃ (i : Nat) (p : Int), y = [.int i] ∧ i ≤ x1.length ∧ -1 ≤ p ∧ (i = 0 → p = -1) ∧ (0 < i → p = (x1[i - 1]?.getD dii).1) ∧ ascM (-1) x1 = ascM p (x1.drop i)) (fun y => x1.length - ((y[0]?).getD (DV.int 0)).i.toNat) ⟨0, -1, rfl, Nat.zero_le _, by omega, fun _ => rfl, fun h => by omega, by rw [List.drop_zero]⟩ ?_
    rintro y ⟨i, p, rfl, hi, hp, hp0, hp1, hall⟩
    rw [asc_at3] at hall
    have e1 : IntKind.i64.wrap ((i : Int) + 1) = ((i + 1 : Nat) : Int) := by rw [w64 (by omega) (by omega)]; omega
    have hw : IntKind.i64.wrap ((i : Int) - 1) = (i : Int) - 1 := w64 (by omega) (by omega)
    simp only [i_int, List.getElem?_cons_zero, Option.getD_some, Int.toNat_natCast, e1]
    by_cases h1 : x1.length ≤ i
    · left
      rw [if_pos h1] at hall
      have h1' : (x1.length : Int) ≤ i := by omega
      rw [hall]
      simp [h1']
    · rw [if_neg h1] at hall
      have h1' : ¬ (x1.length : Int) ≤ i := by omega
      by_cases h2 : p < (x1[i]?.getD dii).1
      · right
        rw [decide_eq_true h2, Bool.true_and] at hall
        refine ⟨[.int ((i + 1 : Nat) : Int)], ?_, rfl, ⟨i + 1, _, rfl, by omega, by omega, fun h => by omega, fun _ => by simp, hall⟩, ?_⟩
        · have h3 : 0 ≤ (x1[i]?.getD dii).1 := by omega
          refine ⟨fun _ => ⟨by omega, fun h => absurd h3 h, fun _ => ⟨fun hi0 => ⟨by omega, by omega, fun hle => ?_, fun _ => rfl⟩, fun _ => rfl⟩⟩, fun h => absurd h h1'⟩
          have := hp1 (by omega)
          generalize hq : Int.toNat _ = q at hle
          have hq' : q = i - 1 := by omega
          rw [hq'] at hle
          omega
        · simp only [i_int, List.getElem?_cons_zero, Option.getD_some, Int.toNat_natCast]; omega
      · left
        have hf : ascM (-1) x1 = false := by rw [hall]; simp; omega
        rw [hf]
        refine ⟨fun _ => ⟨by omega, fun _ => rfl, fun h3 => ⟨fun hi0 => ⟨by omega, by omega, fun hle => rfl, fun hn => ?_⟩, fun hi0 => ?_⟩⟩, fun h => absurd h h1'⟩
        · have := hp1 (by omega)
          generalize hq : Int.toNat _ = q at hn
          have hq' : q = i - 1 := by omega
          rw [hq'] at hn
          omega
        · have := hp0 (by omega)
          omega
end Go.Proofs.YtkfjgggiopegbaaDoor
end
section
namespace Go.Proofs.YtkfjgggiopegbaaDoor
set_option linter.unusedVariables false
set_option linter.unusedSimpArgs false
set_option maxRecDepth 100000
def lSane25E : List DV := [.bool true]
def lSane25F (ds : List DV) : List DV := lSane25E
def lSane25Tree : PT :=
(.leaf [(.bool true)])
def lSane25Sm : List (Nat × Smy) := [(32, ⟨131, [.agg [.rows false [.int .i64]], .agg [.rows false [.str], .rows false [.int .i64, .str]], .agg [.pl (.int .i64), .pl (.int .i64), .pl (.int .i64), .pl (.int .i64), .pl .str]], [.agg [.rows false [.int .i64]], .agg [.rows false [.str], .rows false [.int .i64, .str]], .agg [.pl (.int .i64), .pl .bool], .one (.pl (.int .i64))], lenC [(0, 1000000), (1, 1000000), (2, 1000000)], some uDoF⟩), (27, ⟨4, [.agg [.rows false [.int .i64]], .agg [.rows false [.int .i64]]], [.one (.pl .bool)], lenC [(0, 1000000), (1, 1000000)], some rSameF⟩), (10, ⟨105, [.one (.rows false [.str]), .one (.pl (.int .i64))], [.agg [.pl (.int .i64), .rows true [.int .i64, .int .i64]], .one (.pl (.int .i64)), .one (.pl (.int .i64))], lenC [(0, 1000)], some wParseF⟩), (30, ⟨74, [.one (.pl (.int .i64))], [.agg [.rows false [.str], .rows false [.int .i64, .str]], .one (.pl (.int .i64))], fun _ => [], some rDNewF⟩), (52, ⟨8, [.agg [.rows false [.int .i64]], .one (.rows false [.int .i64, .int .i64, .int .i64, .int .i64, .str])], [.agg [.rows false [.int .i64]], .one (.rows true [.int .i64, .bool]), .one (.pl (.int .i64))], lenC [(0, 1000000), (1, 1000000)], some memAllF⟩), (53, ⟨27, [.agg [.pl (.int .i64), .pl (.int .i64), .pl (.int .i64), .pl (.int .i64), .pl (.int .i64), .pl (.int .i64), .pl (.int .i64), .pl (.int .i64), .pl (.int .i64), .pl (.int .i64), .pl (.int .i64), .pl (.int .i64), .pl (.int .i64)], .one (.rows false [.int .i64])], [.one (.rows true [.int .i64, .int .i64, .int .i64, .int .i64, .str])], fun es => lenC [(13, 1000000)] es ++ rgeC [(1, 0, 1000)] es, some layInitF⟩), (28, ⟨128, [.agg [.pl (.int .i64), .pl (.int .i64), .pl (.int .i64), .pl (.int .i64), .pl (.int .i64)]], [.agg [.pl (.int .i64), .pl (.int .i64), .pl (.int .i64), .pl (.int .i64), .pl (.int .i64), .pl (.int .i64), .pl (.int .i64), .pl (.int .i64), .pl (.int .i64), .pl (.int .i64), .pl (.int .i64), .pl (.int .i64), .pl (.int .i64)], .one (.pl (.int .i64))], fun _ => [], some rOfMF⟩), (33, ⟨24, [.agg [.rows false [.int .i64]], .one (.pl (.int .i64))], [.one (.pl (.int .i64))], fun _ => [], some rCellF⟩), (34, ⟨32, [.agg [.pl (.int .i64), .pl (.int .i64), .pl (.int .i64), .pl (.int .i64), .pl (.int .i64), .pl (.int .i64), .pl (.int .i64), .pl (.int .i64), .pl (.int .i64), .pl (.int .i64), .pl (.int .i64), .pl (.int .i64), .pl (.int .i64)], .one (.pl (.int .i64))], [.one (.pl (.int .i64))], fun _ => [], some rValF⟩), (35, ⟨31, [.agg [.pl (.int .i64), .pl (.int .i64), .pl (.int .i64), .pl (.int .i64), .pl (.int .i64), .pl (.int .i64), .pl (.int .i64), .pl (.int .i64), .pl (.int .i64), .pl (.int .i64), .pl (.int .i64), .pl (.int .i64), .pl (.int .i64)], .one (.pl (.int .i64))], [.one (.pl (.int .i64))], fun _ => [], some rWordF⟩), (74, ⟨116, [.one (.pl .str)], [.one (.pl (.int .i64))], fun es => (fun _ => []) es ++ slenC [(0, 0, 1000000)] es, some rSum23F⟩), (73, ⟨118, [.one (.rows false [.int .i64])], [.one (.rows true [.int .u8])], lenC [(0, 1000)], some r3NumsF⟩), (72, ⟨114, [.agg [.pl (.int .i64), .rows false [.int .i64, .int .i64]]], [.one (.pl .bool)], lenC [(1, 9223372036854775807)], some rValidF⟩)]
def lSane25La : List (LK × LA) := []
def lSane25Phi : Fs := ⟨fun n d => match n with
  | 131 => .list (uDoF d.l)
  | 4 => .list (rSameF d.l)
  | 105 => .list (wParseF d.l)
  | 74 => .list (rDNewF d.l)
  | 8 => .list (memAllF d.l)
  | 27 => .list (layInitF d.l)
  | 128 => .list (rOfMF d.l)
  | 24 => .list (rCellF d.l)
  | 32 => .list (rValF d.l)
  | 31 => .list (rWordF d.l)
  | 116 => .list (rSum23F d.l)
  | 118 => .list (r3NumsF d.l)
  | 114 => .list (rValidF d.l)
  | _ => d, 147⟩
theorem lSane25S : SmyOk true Tryd.prog lSane25Phi lSane25Sm := (smy_cons (lenP [(0, 1000000), (1, 1000000), (2, 1000000)]) uDoF uDo_pure (len_hp [(0, 1000000), (1, 1000000), (2, 1000000)]) (fun _ => rfl) (fun _ h => by cases h; rfl) (smy_cons (lenP [(0, 1000000), (1, 1000000)]) rSameF rSame_pure (len_hp [(0, 1000000), (1, 1000000)]) (fun _ => rfl) (fun _ h => by cases h; rfl) (smy_cons (lenP [(0, 1000)]) wParseF wParse_pure (len_hp [(0, 1000)]) (fun _ => rfl) (fun _ h => by cases h; rfl) (smy_cons (fun _ => True) rDNewF rDNew_pure (fun _ _ _ _ => trivial) (fun _ => rfl) (fun _ h => by cases h; rfl) (smy_cons (lenP [(0, 1000000), (1, 1000000)]) memAllF memAll_pure (len_hp [(0, 1000000), (1, 1000000)]) (fun _ => rfl) (fun _ h => by cases h; rfl) (smy_cons (fun ds => lenP [(13, 1000000)] ds ∧ rgeP [(1, 0, 1000)] ds) layInitF layInit_pure (both_hp [(13, 1000000)] [(1, 0, 1000)]) (fun _ => rfl) (fun _ h => by cases h; rfl) (smy_cons (fun _ => True) rOfMF rOfM_pure (fun _ _ _ _ => trivial) (fun _ => rfl) (fun _ h => by cases h; rfl) (smy_cons (fun _ => True) rCellF rCell_pure (fun _ _ _ _ => trivial) (fun _ => rfl) (fun _ h => by cases h; rfl) (smy_cons (fun _ => True) rValF rVal_pure (fun _ _ _ _ => trivial) (fun _ => rfl) (fun _ h => by cases h; rfl) (smy_cons (fun _ => True) rWordF rWord_pure (fun _ _ _ _ => trivial) (fun _ => rfl) (fun _ h => by cases h; rfl) (smy_cons (fun ds => (fun _ => True) ds ∧ slenP [(0, 0, 1000000)] ds) rSum23F rSum23_pure (slen_hp (C := fun _ => []) (Q := fun _ => True) [(0, 0, 1000000)] (fun _ _ _ _ => trivial)) (fun _ => rfl) (fun _ h => by cases h; rfl) (smy_cons (lenP [(0, 1000)]) r3NumsF r3Nums_pure (len_hp [(0, 1000)]) (fun _ => rfl) (fun _ h => by cases h; rfl) (smy_cons (lenP [(1, 9223372036854775807)]) rValidF rValid_pure (len_hp [(1, 9223372036854775807)]) (fun _ => rfl) (fun _ h => by cases h; rfl) smy_nil)))))))))))))
theorem lSane25T : treeOk ⟨Tryd.prog, lSane25Sm, lSane25La, true⟩ 4000 19 [] [.one (.pl .bool)] ([]) lSane25Tree = true := by decide +kernel
set_option maxHeartbeats 1000000 in
theorem lSane25_pure : PureE true Tryd.prog 19 [] [.one (.pl .bool)] (fun _ => True) lSane25F := by
  refine pure_tree (X := ⟨Tryd.prog, lSane25Sm, lSane25La, true⟩) (by decide +kernel) (Checked.mixed Tryd.checked) lSane25S (by decide +kernel) (by decide +kernel) lSane25T (by decide +kernel) ?_
  intro ds hl hp
  obtain rfl := len0 hl
  have hF : lSane25F [] = lSane25E  := rfl
  rw [hF]
  clear hF hp hl
  have hN : nrmL (clsOf []) [] = [] := by
    simp only [clsOf, nrmL]
  rw [hN]
  clear hN
  refine ⟨facts_nil _, ?_⟩
  unfold lSane25Tree
  simp only [Sat, clsOf, Sh.cls, List.append_nil, nrmL, Cl.nrm, CK.nrm, List.map_cons, List.map_nil, List.cons.injEq, DV.bool.injEq, and_true, lSane25E]
  all_goals try simp only [q_bool]
  all_goals try simp only [b_bool, eq_self]
  all_goals try rfl
end Go.Proofs.YtkfjgggiopegbaaDoor
end
section
namespace Go.Proofs.YtkfjgggiopegbaaDoor
set_option linter.unusedVariables false
set_option linter.unusedSimpArgs false
set_option maxRecDepth 100000
def bitU (b d : Int) : Bool := decide ((IntKind.u8.wrap (b.tdiv d)).tmod 2 = 1)
def entV (i b : Int) : Int := IntKind.i64.wrap (IntKind.i64.wrap (IntKind.i64.wrap (2 * i) + 1) + IntKind.i64.wrap ((IntKind.i64.wrap b).tdiv 128))
def entX (i c : Int) : Int := IntKind.i64.wrap (IntKind.i64.wrap (IntKind.i64.wrap (1000000 * i) + c) - 50)
def entW (i b : Int) : List Tii := (if bitU b 1 = true then [(0, entX i 0)] else []) ++ ((if bitU b 2 = true then [(1, entX i 7)] else []) ++ ((if bitU b 4 = true then [(2, entX i 14)] else []) ++ ((if bitU b 8 = true then [(3, entX i 21)] else []) ++ (if bitU b 16 = true then [(4, entX i 28)] else []))))
def entsN (l : List Int) (n : Nat) : List TEn := (List.range n).map fun i : Nat => (entV i (l[i]?.getD 0), entW i (l[i]?.getD 0))
def entsM (l : List Int) : List TEn := entsN l l.length
theorem ents_len (l : List Int) (n : Nat) : (entsN l n).length = n := by simp [entsN]
theorem ents_succ (l : List Int) (n : Nat) : entsN l (n + 1) = entsN l n ++ [(entV n (l[n]?.getD 0), entW n (l[n]?.getD 0))] := by
  unfold entsN
  rw [List.range_succ, List.map_append]
  rfl
def lEntE (l : List Int) : List DV := [.list ((entsM l).map encEn)]
def lEntF (ds : List DV) : List DV := lEntE (gLi ds 0)
def lEntTree : PT :=
(.loop 1 [.nil, (.int 0)]
 (.br (.un .not (.bin .le (.un .len (.var 0)) (.var 2)))
  (.asrt (.bin .le (.int 0) (.var 2))
   (.br (.bin .eq (.bin .tmod (.un (.wrap .u8) (.bin .tdiv (.bin .idx (.var 0) (.bin .add (.int 0) (.var 2))) (.int 1))) (.int 2)) (.int 1))
    (.br (.bin .eq (.bin .tmod (.un (.wrap .u8) (.bin .tdiv (.bin .idx (.var 0) (.bin .add (.int 0) (.var 2))) (.int 2))) (.int 2)) (.int 1))
     (.br (.bin .eq (.bin .tmod (.un (.wrap .u8) (.bin .tdiv (.bin .idx (.var 0) (.bin .add (.int 0) (.var 2))) (.int 4))) (.int 2)) (.int 1))
      (.br (.bin .eq (.bin .tmod (.un (.wrap .u8) (.bin .tdiv (.bin .idx (.var 0) (.bin .add (.int 0) (.var 2))) (.int 8))) (.int 2)) (.int 1))
       (.br (.bin .eq (.bin .tmod (.un (.wrap .u8) (.bin .tdiv (.bin .idx (.var 0) (.bin .add (.int 0) (.var 2))) (.int 16))) (.int 2)) (.int 1))
        (.asrt (.bin .le (.bin .add (.un .len (.var 1)) (.int 1)) (.int 4294967296))
         (.leaf [(.bin .snoc (.var 1) (.bin .cons (.un (.wrap .i64) (.bin .add (.un (.wrap .i64) (.bin .add (.un (.wrap .i64) (.bin .mul (.int 2) (.var 2))) (.int 1))) (.un (.wrap .i64) (.bin .tdiv (.un (.wrap .i64) (.bin .idx (.var 0) (.bin .add (.int 0) (.var 2)))) (.int 128))))) (.bin .cons (.bin .cons (.bin .cons (.int 0) (.bin .cons (.un (.wrap .i64) (.bin .sub (.un (.wrap .i64) (.bin .add (.un (.wrap .i64) (.bin .mul (.int 1000000) (.var 2))) (.int 0))) (.int 50))) .nil)) (.bin .cons (.bin .cons (.int 1) (.bin .cons (.un (.wrap .i64) (.bin .sub (.un (.wrap .i64) (.bin .add (.un (.wrap .i64) (.bin .mul (.int 1000000) (.var 2))) (.int 7))) (.int 50))) .nil)) (.bin .cons (.bin .cons (.int 2) (.bin .cons (.un (.wrap .i64) (.bin .sub (.un (.wrap .i64) (.bin .add (.un (.wrap .i64) (.bin .mul (.int 1000000) (.var 2))) (.int 14))) (.int 50))) .nil)) (.bin .cons (.bin .cons (.int 3) (.bin .cons (.un (.wrap .i64) (.bin .sub (.un (.wrap .i64) (.bin .add (.un (.wrap .i64) (.bin .mul (.int 1000000) (.var 2))) (.int 21))) (.int 50))) .nil)) (.bin .cons (.bin .cons (.int 4) (.bin .cons (.un (.wrap .i64) (.bin .sub (.un (.wrap .i64) (.bin .add (.un (.wrap .i64) (.bin .mul (.int 1000000) (.var 2))) (.int 28))) (.int 50))) .nil)) .nil))))) .nil))), (.un (.wrap .i64) (.bin .add (.var 2) (.int 1)))]))
        (.asrt (.bin .le (.bin .add (.un .len (.var 1)) (.int 1)) (.int 4294967296))
         (.leaf [(.bin .snoc (.var 1) (.bin .cons (.un (.wrap .i64) (.bin .add (.un (.wrap .i64) (.bin .add (.un (.wrap .i64) (.bin .mul (.int 2) (.var 2))) (.int 1))) (.un (.wrap .i64) (.bin .tdiv (.un (.wrap .i64) (.bin .idx (.var 0) (.bin .add (.int 0) (.var 2)))) (.int 128))))) (.bin .cons (.bin .cons (.bin .cons (.int 0) (.bin .cons (.un (.wrap .i64) (.bin .sub (.un (.wrap .i64) (.bin .add (.un (.wrap .i64) (.bin .mul (.int 1000000) (.var 2))) (.int 0))) (.int 50))) .nil)) (.bin .cons (.bin .cons (.int 1) (.bin .cons (.un (.wrap .i64) (.bin .sub (.un (.wrap .i64) (.bin .add (.un (.wrap .i64) (.bin .mul (.int 1000000) (.var 2))) (.int 7))) (.int 50))) .nil)) (.bin .cons (.bin .cons (.int 2) (.bin .cons (.un (.wrap .i64) (.bin .sub (.un (.wrap .i64) (.bin .add (.un (.wrap .i64) (.bin .mul (.int 1000000) (.var 2))) (.int 14))) (.int 50))) .nil)) (.bin .cons (.bin .cons (.int 3) (.bin .cons (.un (.wrap .i64) (.bin .sub (.un (.wrap .i64) (.bin .add (.un (.wrap .i64) (.bin .mul (.int 1000000) (.var 2))) (.int 21))) (.int 50))) .nil)) .nil)))) .nil))), (.un (.wrap .i64) (.bin .add (.var 2) (.int 1)))])))
       (.br (.bin .eq (.bin .tmod (.un (.wrap .u8) (.bin .tdiv (.bin .idx (.var 0) (.bin .add (.int 0) (.var 2))) (.int 16))) (.int 2)) (.int 1))
        (.asrt (.bin .le (.bin .add (.un .len (.var 1)) (.int 1)) (.int 4294967296))
         (.leaf [(.bin .snoc (.var 1) (.bin .cons (.un (.wrap .i64) (.bin .add (.un (.wrap .i64) (.bin .add (.un (.wrap .i64) (.bin .mul (.int 2) (.var 2))) (.int 1))) (.un (.wrap .i64) (.bin .tdiv (.un (.wrap .i64) (.bin .idx (.var 0) (.bin .add (.int 0) (.var 2)))) (.int 128))))) (.bin .cons (.bin .cons (.bin .cons (.int 0) (.bin .cons (.un (.wrap .i64) (.bin .sub (.un (.wrap .i64) (.bin .add (.un (.wrap .i64) (.bin .mul (.int 1000000) (.var 2))) (.int 0))) (.int 50))) .nil)) (.bin .cons (.bin .cons (.int 1) (.bin .cons (.un (.wrap .i64) (.bin .sub (.un (.wrap .i64) (.bin .add (.un (.wrap .i64) (.bin .mul (.int 1000000) (.var 2))) (.int 7))) (.int 50))) .nil)) (.bin .cons (.bin .cons (.int 2) (.bin .cons (.un (.wrap .i64) (.bin .sub (.un (.wrap .i64) (.bin .add (.un (.wrap .i64) (.bin .mul (.int 1000000) (.var 2))) (.int 14))) (.int 50))) .nil)) (.bin .cons (.bin .cons (.int 4) (.bin .cons (.un (.wrap .i64) (.bin .sub (.un (.wrap .i64) (.bin .add (.un (.wrap .i64) (.bin .mul (.int 1000000) (.var 2))) (.int 28))) (.int 50))) .nil)) .nil)))) .nil))), (.un (.wrap .i64) (.bin .add (.var 2) (.int 1)))]))
        (.asrt (.bin .le (.bin .add (.un .len (.var 1)) (.int 1)) (.int 4294967296))
         (.leaf [(.bin .snoc (.var 1) (.bin .cons (.un (.wrap .i64) (.bin .add (.un (.wrap .i64) (.bin .add (.un (.wrap .i64) (.bin .mul (.int 2) (.var 2))) (.int 1))) (.un (.wrap .i64) (.bin .tdiv (.un (.wrap .i64) (.bin .idx (.var 0) (.bin .add (.int 0) (.var 2)))) (.int 128))))) (.bin .cons (.bin .cons (.bin .cons (.int 0) (.bin .cons (.un (.wrap .i64) (.bin .sub (.un (.wrap .i64) (.bin .add (.un (.wrap .i64) (.bin .mul (.int 1000000) (.var 2))) (.int 0))) (.int 50))) .nil)) (.bin .cons (.bin .cons (.int 1) (.bin .cons (.un (.wrap .i64) (.bin .sub (.un (.wrap .i64) (.bin .add (.un (.wrap .i64) (.bin .mul (.int 1000000) (.var 2))) (.int 7))) (.int 50))) .nil)) (.bin .cons (.bin .cons (.int 2) (.bin .cons (.un (.wrap .i64) (.bin .sub (.un (.wrap .i64) (.bin .add (.un (.wrap .i64) (.bin .mul (.int 1000000) (.var 2))) (.int 14))) (.int 50))) .nil)) .nil))) .nil))), (.un (.wrap .i64) (.bin .add (.var 2) (.int 1)))]))))
      (.br (.bin .eq (.bin .tmod (.un (.wrap .u8) (.bin .tdiv (.bin .idx (.var 0) (.bin .add (.int 0) (.var 2))) (.int 8))) (.int 2)) (.int 1))
       (.br (.bin .eq (.bin .tmod (.un (.wrap .u8) (.bin .tdiv (.bin .idx (.var 0) (.bin .add (.int 0) (.var 2))) (.int 16))) (.int 2)) (.int 1))
        (.asrt (.bin .le (.bin .add (.un .len (.var 1)) (.int 1)) (.int 4294967296))
         (.leaf [(.bin .snoc (.var 1) (.bin .cons (.un (.wrap .i64) (.bin .add (.un (.wrap .i64) (.bin .add (.un (.wrap .i64) (.bin .mul (.int 2) (.var 2))) (.int 1))) (.un (.wrap .i64) (.bin .tdiv (.un (.wrap .i64) (.bin .idx (.var 0) (.bin .add (.int 0) (.var 2)))) (.int 128))))) (.bin .cons (.bin .cons (.bin .cons (.int 0) (.bin .cons (.un (.wrap .i64) (.bin .sub (.un (.wrap .i64) (.bin .add (.un (.wrap .i64) (.bin .mul (.int 1000000) (.var 2))) (.int 0))) (.int 50))) .nil)) (.bin .cons (.bin .cons (.int 1) (.bin .cons (.un (.wrap .i64) (.bin .sub (.un (.wrap .i64) (.bin .add (.un (.wrap .i64) (.bin .mul (.int 1000000) (.var 2))) (.int 7))) (.int 50))) .nil)) (.bin .cons (.bin .cons (.int 3) (.bin .cons (.un (.wrap .i64) (.bin .sub (.un (.wrap .i64) (.bin .add (.un (.wrap .i64) (.bin .mul (.int 1000000) (.var 2))) (.int 21))) (.int 50))) .nil)) (.bin .cons (.bin .cons (.int 4) (.bin .cons (.un (.wrap .i64) (.bin .sub (.un (.wrap .i64) (.bin .add (.un (.wrap .i64) (.bin .mul (.int 1000000) (.var 2))) (.int 28))) (.int 50))) .nil)) .nil)))) .nil))), (.un (.wrap .i64) (.bin .add (.var 2) (.int 1)))]))
        (.asrt (.bin .le (.bin .add (.un .len (.var 1)) (.int 1)) (.int 4294967296))
         (.leaf [(.bin .snoc (.var 1) (.bin .cons (.un (.wrap .i64) (.bin .add (.un (.wrap .i64) (.bin .add (.un (.wrap .i64) (.bin .mul (.int 2) (.var 2))) (.int 1))) (.un (.wrap .i64) (.bin .tdiv (.un (.wrap .i64) (.bin .idx (.var 0) (.bin .add (.int 0) (.var 2)))) (.int 128))))) (.bin .cons (.bin .cons (.bin .cons (.int 0) (.bin .cons (.un (.wrap .i64) (.bin .sub (.un (.wrap .i64) (.bin .add (.un (.wrap .i64) (.bin .mul (.int 1000000) (.var 2))) (.int 0))) (.int 50))) .nil)) (.bin .cons (.bin .cons (.int 1) (.bin .cons (.un (.wrap .i64) (.bin .sub (.un (.wrap .i64) (.bin .add (.un (.wrap .i64) (.bin .mul (.int 1000000) (.var 2))) (.int 7))) (.int 50))) .nil)) (.bin .cons (.bin .cons (.int 3) (.bin .cons (.un (.wrap .i64) (.bin .sub (.un (.wrap .i64) (.bin .add (.un (.wrap .i64) (.bin .mul (.int 1000000) (.var 2))) (.int 21))) (.int 50))) .nil)) .nil))) .nil))), (.un (.wrap .i64) (.bin .add (.var 2) (.int 1)))])))
       (.br (.bin .eq (.bin .tmod (.un (.wrap .u8) (.bin .tdiv (.bin .idx (.var 0) (.bin .add (.int 0) (.var 2))) (.int 16))) (.int 2)) (.int 1))
        (.asrt (.bin .le (.bin .add (.un .len (.var 1)) (.int 1)) (.int 4294967296))
         (.leaf [(.bin .snoc (.var 1) (.bin .cons (.un (.wrap .i64) (.bin .add (.un (.wrap .i64) (.bin .add (.un (.wrap .i64) (.bin .mul (.int 2) (.var 2))) (.int 1))) (.un (.wrap .i64) (.bin .tdiv (.un (.wrap .i64) (.bin .idx (.var 0) (.bin .add (.int 0) (.var 2)))) (.int 128))))) (.bin .cons (.bin .cons (.bin .cons (.int 0) (.bin .cons (.un (.wrap .i64) (.bin .sub (.un (.wrap .i64) (.bin .add (.un (.wrap .i64) (.bin .mul (.int 1000000) (.var 2))) (.int 0))) (.int 50))) .nil)) (.bin .cons (.bin .cons (.int 1) (.bin .cons (.un (.wrap .i64) (.bin .sub (.un (.wrap .i64) (.bin .add (.un (.wrap .i64) (.bin .mul (.int 1000000) (.var 2))) (.int 7))) (.int 50))) .nil)) (.bin .cons (.bin .cons (.int 4) (.bin .cons (.un (.wrap .i64) (.bin .sub (.un (.wrap .i64) (.bin .add (.un (.wrap .i64) (.bin .mul (.int 1000000) (.var 2))) (.int 28))) (.int 50))) .nil)) .nil))) .nil))), (.un (.wrap .i64) (.bin .add (.var 2) (.int 1)))]))
        (.asrt (.bin .le (.bin .add (.un .len (.var 1)) (.int 1)) (.int 4294967296))
         (.leaf [(.bin .snoc (.var 1) (.bin .cons (.un (.wrap .i64) (.bin .add (.un (.wrap .i64) (.bin .add (.un (.wrap .i64) (.bin .mul (.int 2) (.var 2))) (.int 1))) (.un (.wrap .i64) (.bin .tdiv (.un (.wrap .i64) (.bin .idx (.var 0) (.bin .add (.int 0) (.var 2)))) (.int 128))))) (.bin .cons (.bin .cons (.bin .cons (.int 0) (.bin .cons (.un (.wrap .i64) (.bin .sub (.un (.wrap .i64) (.bin .add (.un (.wrap .i64) (.bin .mul (.int 1000000) (.var 2))) (.int 0))) (.int 50))) .nil)) (.bin .cons (.bin .cons (.int 1) (.bin .cons (.un (.wrap .i64) (.bin .sub (.un (.wrap .i64) (.bin .add (.un (.wrap .i64) (.bin .mul (.int 1000000) (.var 2))) (.int 7))) (.int 50))) .nil)) .nil)) .nil))), (.un (.wrap .i64) (.bin .add (.var 2) (.int 1)))])))))
     (.br (.bin .eq (.bin .tmod (.un (.wrap .u8) (.bin .tdiv (.bin .idx (.var 0) (.bin .add (.int 0) (.var 2))) (.int 4))) (.int 2)) (.int 1))
      (.br (.bin .eq (.bin .tmod (.un (.wrap .u8) (.bin .tdiv (.bin .idx (.var 0) (.bin .add (.int 0) (.var 2))) (.int 8))) (.int 2)) (.int 1))
       (.br (.bin .eq (.bin .tmod (.un (.wrap .u8) (.bin .tdiv (.bin .idx (.var 0) (.bin .add (.int 0) (.var 2))) (.int 16))) (.int 2)) (.int 1))
        (.asrt (.bin .le (.bin .add (.un .len (.var 1)) (.int 1)) (.int 4294967296))
         (.leaf [(.bin .snoc (.var 1) (.bin .cons (.un (.wrap .i64) (.bin .add (.un (.wrap .i64) (.bin .add (.un (.wrap .i64) (.bin .mul (.int 2) (.var 2))) (.int 1))) (.un (.wrap .i64) (.bin .tdiv (.un (.wrap .i64) (.bin .idx (.var 0) (.bin .add (.int 0) (.var 2)))) (.int 128))))) (.bin .cons (.bin .cons (.bin .cons (.int 0) (.bin .cons (.un (.wrap .i64) (.bin .sub (.un (.wrap .i64) (.bin .add (.un (.wrap .i64) (.bin .mul (.int 1000000) (.var 2))) (.int 0))) (.int 50))) .nil)) (.bin .cons (.bin .cons (.int 2) (.bin .cons (.un (.wrap .i64) (.bin .sub (.un (.wrap .i64) (.bin .add (.un (.wrap .i64) (.bin .mul (.int 1000000) (.var 2))) (.int 14))) (.int 50))) .nil)) (.bin .cons (.bin .cons (.int 3) (.bin .cons (.un (.wrap .i64) (.bin .sub (.un (.wrap .i64) (.bin .add (.un (.wrap .i64) (.bin .mul (.int 1000000) (.var 2))) (.int 21))) (.int 50))) .nil)) (.bin .cons (.bin .cons (.int 4) (.bin .cons (.un (.wrap .i64) (.bin .sub (.un (.wrap .i64) (.bin .add (.un (.wrap .i64) (.bin .mul (.int 1000000) (.var 2))) (.int 28))) (.int 50))) .nil)) .nil)))) .nil))), (.un (.wrap .i64) (.bin .add (.var 2) (.int 1)))]))
        (.asrt (.bin .le (.bin .add (.un .len (.var 1)) (.int 1)) (.int 4294967296))
         (.leaf [(.bin .snoc (.var 1) (.bin .cons (.un (.wrap .i64) (.bin .add (.un (.wrap .i64) (.bin .add (.un (.wrap .i64) (.bin .mul (.int 2) (.var 2))) (.int 1))) (.un (.wrap .i64) (.bin .tdiv (.un (.wrap .i64) (.bin .idx (.var 0) (.bin .add (.int 0) (.var 2)))) (.int 128))))) (.bin .cons (.bin .cons (.bin .cons (.int 0) (.bin .cons (.un (.wrap .i64) (.bin .sub (.un (.wrap .i64) (.bin .add (.un (.wrap .i64) (.bin .mul (.int 1000000) (.var 2))) (.int 0))) (.int 50))) .nil)) (.bin .cons (.bin .cons (.int 2) (.bin .cons (.un (.wrap .i64) (.bin .sub (.un (.wrap .i64) (.bin .add (.un (.wrap .i64) (.bin .mul (.int 1000000) (.var 2))) (.int 14))) (.int 50))) .nil)) (.bin .cons (.bin .cons (.int 3) (.bin .cons (.un (.wrap .i64) (.bin .sub (.un (.wrap .i64) (.bin .add (.un (.wrap .i64) (.bin .mul (.int 1000000) (.var 2))) (.int 21))) (.int 50))) .nil)) .nil))) .nil))), (.un (.wrap .i64) (.bin .add (.var 2) (.int 1)))])))
       (.br (.bin .eq (.bin .tmod (.un (.wrap .u8) (.bin .tdiv (.bin .idx (.var 0) (.bin .add (.int 0) (.var 2))) (.int 16))) (.int 2)) (.int 1))
        (.asrt (.bin .le (.bin .add (.un .len (.var 1)) (.int 1)) (.int 4294967296))
         (.leaf [(.bin .snoc (.var 1) (.bin .cons (.un (.wrap .i64) (.bin .add (.un (.wrap .i64) (.bin .add (.un (.wrap .i64) (.bin .mul (.int 2) (.var 2))) (.int 1))) (.un (.wrap .i64) (.bin .tdiv (.un (.wrap .i64) (.bin .idx (.var 0) (.bin .add (.int 0) (.var 2)))) (.int 128))))) (.bin .cons (.bin .cons (.bin .cons (.int 0) (.bin .cons (.un (.wrap .i64) (.bin .sub (.un (.wrap .i64) (.bin .add (.un (.wrap .i64) (.bin .mul (.int 1000000) (.var 2))) (.int 0))) (.int 50))) .nil)) (.bin .cons (.bin .cons (.int 2) (.bin .cons (.un (.wrap .i64) (.bin .sub (.un (.wrap .i64) (.bin .add (.un (.wrap .i64) (.bin .mul (.int 1000000) (.var 2))) (.int 14))) (.int 50))) .nil)) (.bin .cons (.bin .cons (.int 4) (.bin .cons (.un (.wrap .i64) (.bin .sub (.un (.wrap .i64) (.bin .add (.un (.wrap .i64) (.bin .mul (.int 1000000) (.var 2))) (.int 28))) (.int 50))) .nil)) .nil))) .nil))), (.un (.wrap .i64) (.bin .add (.var 2) (.int 1)))]))
        (.asrt (.bin .le (.bin .add (.un .len (.var 1)) (.int 1)) (.int 4294967296))
         (.leaf [(.bin .snoc (.var 1) (.bin .cons (.un (.wrap .i64) (.bin .add (.un (.wrap .i64) (.bin .add (.un (.wrap .i64) (.bin .mul (.int 2) (.var 2))) (.int 1))) (.un (.wrap .i64) (.bin .tdiv (.un (.wrap .i64) (.bin .idx (.var 0) (.bin .add (.int 0) (.var 2)))) (.int 128))))) (.bin .cons (.bin .cons (.bin .cons (.int 0) (.bin .cons (.un (.wrap .i64) (.bin .sub (.un (.wrap .i64) (.bin .add (.un (.wrap .i64) (.bin .mul (.int 1000000) (.var 2))) (.int 0))) (.int 50))) .nil)) (.bin .cons (.bin .cons (.int 2) (.bin .cons (.un (.wrap .i64) (.bin .sub (.un (.wrap .i64) (.bin .add (.un (.wrap .i64) (.bin .mul (.int 1000000) (.var 2))) (.int 14))) (.int 50))) .nil)) .nil)) .nil))), (.un (.wrap .i64) (.bin .add (.var 2) (.int 1)))]))))
      (.br (.bin .eq (.bin .tmod (.un (.wrap .u8) (.bin .tdiv (.bin .idx (.var 0) (.bin .add (.int 0) (.var 2))) (.int 8))) (.int 2)) (.int 1))
       (.br (.bin .eq (.bin .tmod (.un (.wrap .u8) (.bin .tdiv (.bin .idx (.var 0) (.bin .add (.int 0) (.var 2))) (.int 16))) (.int 2)) (.int 1))
        (.asrt (.bin .le (.bin .add (.un .len (.var 1)) (.int 1)) (.int 4294967296))
         (.leaf [(.bin .snoc (.var 1) (.bin .cons (.un (.wrap .i64) (.bin .add (.un (.wrap .i64) (.bin .add (.un (.wrap .i64) (.bin .mul (.int 2) (.var 2))) (.int 1))) (.un (.wrap .i64) (.bin .tdiv (.un (.wrap .i64) (.bin .idx (.var 0) (.bin .add (.int 0) (.var 2)))) (.int 128))))) (.bin .cons (.bin .cons (.bin .cons (.int 0) (.bin .cons (.un (.wrap .i64) (.bin .sub (.un (.wrap .i64) (.bin .add (.un (.wrap .i64) (.bin .mul (.int 1000000) (.var 2))) (.int 0))) (.int 50))) .nil)) (.bin .cons (.bin .cons (.int 3) (.bin .cons (.un (.wrap .i64) (.bin .sub (.un (.wrap .i64) (.bin .add (.un (.wrap .i64) (.bin .mul (.int 1000000) (.var 2))) (.int 21))) (.int 50))) .nil)) (.bin .cons (.bin .cons (.int 4) (.bin .cons (.un (.wrap .i64) (.bin .sub (.un (.wrap .i64) (.bin .add (.un (.wrap .i64) (.bin .mul (.int 1000000) (.var 2))) (.int 28))) (.int 50))) .nil)) .nil))) .nil))), (.un (.wrap .i64) (.bin .add (.var 2) (.int 1)))]))
        (.asrt (.bin .le (.bin .add (.un .len (.var 1)) (.int 1)) (.int 4294967296))
         (.leaf [(.bin .snoc (.var 1) (.bin .cons (.un (.wrap .i64) (.bin .add (.un (.wrap .i64) (.bin .add (.un (.wrap .i64) (.bin .mul (.int 2) (.var 2))) (.int 1))) (.un (.wrap .i64) (.bin .tdiv (.un (.wrap .i64) (.bin .idx (.var 0) (.bin .add (.int 0) (.var 2)))) (.int 128))))) (.bin .cons (.bin .cons (.bin .cons (.int 0) (.bin .cons (.un (.wrap .i64) (.bin .sub (.un (.wrap .i64) (.bin .add (.un (.wrap .i64) (.bin .mul (.int 1000000) (.var 2))) (.int 0))) (.int 50))) .nil)) (.bin .cons (.bin .cons (.int 3) (.bin .cons (.un (.wrap .i64) (.bin .sub (.un (.wrap .i64) (.bin .add (.un (.wrap .i64) (.bin .mul (.int 1000000) (.var 2))) (.int 21))) (.int 50))) .nil)) .nil)) .nil))), (.un (.wrap .i64) (.bin .add (.var 2) (.int 1)))])))
       (.br (.bin .eq (.bin .tmod (.un (.wrap .u8) (.bin .tdiv (.bin .idx (.var 0) (.bin .add (.int 0) (.var 2))) (.int 16))) (.int 2)) (.int 1))
        (.asrt (.bin .le (.bin .add (.un .len (.var 1)) (.int 1)) (.int 4294967296))
         (.leaf [(.bin .snoc (.var 1) (.bin .cons (.un (.wrap .i64) (.bin .add (.un (.wrap .i64) (.bin .add (.un (.wrap .i64) (.bin .mul (.int 2) (.var 2))) (.int 1))) (.un (.wrap .i64) (.bin .tdiv (.un (.wrap .i64) (.bin .idx (.var 0) (.bin .add (.int 0) (.var 2)))) (.int 128))))) (.bin .cons (.bin .cons (.bin .cons (.int 0) (.bin .cons (.un (.wrap .i64) (.bin .sub (.un (.wrap .i64) (.bin .add (.un (.wrap .i64) (.bin .mul (.int 1000000) (.var 2))) (.int 0))) (.int 50))) .nil)) (.bin .cons (.bin .cons (.int 4) (.bin .cons (.un (.wrap .i64) (.bin .sub (.un (.wrap .i64) (.bin .add (.un (.wrap .i64) (.bin .mul (.int 1000000) (.var 2))) (.int 28))) (.int 50))) .nil)) .nil)) .nil))), (.un (.wrap .i64) (.bin .add (.var 2) (.int 1)))]))
        (.asrt (.bin .le (.bin .add (.un .len (.var 1)) (.int 1)) (.int 4294967296))
         (.leaf [(.bin .snoc (.var 1) (.bin .cons (.un (.wrap .i64) (.bin .add (.un (.wrap .i64) (.bin .add (.un (.wrap .i64) (.bin .mul (.int 2) (.var 2))) (.int 1))) (.un (.wrap .i64) (.bin .tdiv (.un (.wrap .i64) (.bin .idx (.var 0) (.bin .add (.int 0) (.var 2)))) (.int 128))))) (.bin .cons (.bin .cons (.bin .cons (.int 0) (.bin .cons (.un (.wrap .i64) (.bin .sub (.un (.wrap .i64) (.bin .add (.un (.wrap .i64) (.bin .mul (.int 1000000) (.var 2))) (.int 0))) (.int 50))) .nil)) .nil) .nil))), (.un (.wrap .i64) (.bin .add (.var 2) (.int 1)))]))))))
    (.br (.bin .eq (.bin .tmod (.un (.wrap .u8) (.bin .tdiv (.bin .idx (.var 0) (.bin .add (.int 0) (.var 2))) (.int 2))) (.int 2)) (.int 1))
     (.br (.bin .eq (.bin .tmod (.un (.wrap .u8) (.bin .tdiv (.bin .idx (.var 0) (.bin .add (.int 0) (.var 2))) (.int 4))) (.int 2)) (.int 1))
      (.br (.bin .eq (.bin .tmod (.un (.wrap .u8) (.bin .tdiv (.bin .idx (.var 0) (.bin .add (.int 0) (.var 2))) (.int 8))) (.int 2)) (.int 1))
       (.br (.bin .eq (.bin .tmod (.un (.wrap .u8) (.bin .tdiv (.bin .idx (.var 0) (.bin .add (.int 0) (.var 2))) (.int 16))) (.int 2)) (.int 1))
        (.asrt (.bin .le (.bin .add (.un .len (.var 1)) (.int 1)) (.int 4294967296))
         (.leaf [(.bin .snoc (.var 1) (.bin .cons (.un (.wrap .i64) (.bin .add (.un (.wrap .i64) (.bin .add (.un (.wrap .i64) (.bin .mul (.int 2) (.var 2))) (.int 1))) (.un (.wrap .i64) (.bin .tdiv (.un (.wrap .i64) (.bin .idx (.var 0) (.bin .add (.int 0) (.var 2)))) (.int 128))))) (.bin .cons (.bin .cons (.bin .cons (.int 1) (.bin .cons (.un (.wrap .i64) (.bin .sub (.un (.wrap .i64) (.bin .add (.un (.wrap .i64) (.bin .mul (.int 1000000) (.var 2))) (.int 7))) (.int 50))) .nil)) (.bin .cons (.bin .cons (.int 2) (.bin .cons (.un (.wrap .i64) (.bin .sub (.un (.wrap .i64) (.bin .add (.un (.wrap .i64) (.bin .mul (.int 1000000) (.var 2))) (.int 14))) (.int 50))) .nil)) (.bin .cons (.bin .cons (.int 3) (.bin .cons (.un (.wrap .i64) (.bin .sub (.un (.wrap .i64) (.bin .add (.un (.wrap .i64) (.bin .mul (.int 1000000) (.var 2))) (.int 21))) (.int 50))) .nil)) (.bin .cons (.bin .cons (.int 4) (.bin .cons (.un (.wrap .i64) (.bin .sub (.un (.wrap .i64) (.bin .add (.un (.wrap .i64) (.bin .mul (.int 1000000) (.var 2))) (.int 28))) (.int 50))) .nil)) .nil)))) .nil))), (.un (.wrap .i64) (.bin .add (.var 2) (.int 1)))]))
        (.asrt (.bin .le (.bin .add (.un .len (.var 1)) (.int 1)) (.int 4294967296))
         (.leaf [(.bin .snoc (.var 1) (.bin .cons (.un (.wrap .i64) (.bin .add (.un (.wrap .i64) (.bin .add (.un (.wrap .i64) (.bin .mul (.int 2) (.var 2))) (.int 1))) (.un (.wrap .i64) (.bin .tdiv (.un (.wrap .i64) (.bin .idx (.var 0) (.bin .add (.int 0) (.var 2)))) (.int 128))))) (.bin .cons (.bin .cons (.bin .cons (.int 1) (.bin .cons (.un (.wrap .i64) (.bin .sub (.un (.wrap .i64) (.bin .add (.un (.wrap .i64) (.bin .mul (.int 1000000) (.var 2))) (.int 7))) (.int 50))) .nil)) (.bin .cons (.bin .cons (.int 2) (.bin .cons (.un (.wrap .i64) (.bin .sub (.un (.wrap .i64) (.bin .add (.un (.wrap .i64) (.bin .mul (.int 1000000) (.var 2))) (.int 14))) (.int 50))) .nil)) (.bin .cons (.bin .cons (.int 3) (.bin .cons (.un (.wrap .i64) (.bin .sub (.un (.wrap .i64) (.bin .add (.un (.wrap .i64) (.bin .mul (.int 1000000) (.var 2))) (.int 21))) (.int 50))) .nil)) .nil))) .nil))), (.un (.wrap .i64) (.bin .add (.var 2) (.int 1)))])))
       (.br (.bin .eq (.bin .tmod (.un (.wrap .u8) (.bin .tdiv (.bin .idx (.var 0) (.bin .add (.int 0) (.var 2))) (.int 16))) (.int 2)) (.int 1))
        (.asrt (.bin .le (.bin .add (.un .len (.var 1)) (.int 1)) (.int 4294967296))
         (.leaf [(.bin .snoc (.var 1) (.bin .cons (.un (.wrap .i64) (.bin .add (.un (.wrap .i64) (.bin .add (.un (.wrap .i64) (.bin .mul (.int 2) (.var 2))) (.int 1))) (.un (.wrap .i64) (.bin .tdiv (.un (.wrap .i64) (.bin .idx (.var 0) (.bin .add (.int 0) (.var 2)))) (.int 128))))) (.bin .cons (.bin .cons (.bin .cons (.int 1) (.bin .cons (.un (.wrap .i64) (.bin .sub (.un (.wrap .i64) (.bin .add (.un (.wrap .i64) (.bin .mul (.int 1000000) (.var 2))) (.int 7))) (.int 50))) .nil)) (.bin .cons (.bin .cons (.int 2) (.bin .cons (.un (.wrap .i64) (.bin .sub (.un (.wrap .i64) (.bin .add (.un (.wrap .i64) (.bin .mul (.int 1000000) (.var 2))) (.int 14))) (.int 50))) .nil)) (.bin .cons (.bin .cons (.int 4) (.bin .cons (.un (.wrap .i64) (.bin .sub (.un (.wrap .i64) (.bin .add (.un (.wrap .i64) (.bin .mul (.int 1000000) (.var 2))) (.int 28))) (.int 50))) .nil)) .nil))) .nil))), (.un (.wrap .i64) (.bin .add (.var 2) (.int 1)))]))
        (.asrt (.bin .le (.bin .add (.un .len (.var 1)) (.int 1)) (.int 4294967296))
         (.leaf [(.bin .snoc (.var 1) (.bin .cons (.un (.wrap .i64) (.bin .add (.un (.wrap .i64) (.bin .add (.un (.wrap .i64) (.bin .mul (.int 2) (.var 2))) (.int 1))) (.un (.wrap .i64) (.bin .tdiv (.un (.wrap .i64) (.bin .idx (.var 0) (.bin .add (.int 0) (.var 2)))) (.int 128))))) (.bin .cons (.bin .cons (.bin .cons (.int 1) (.bin .cons (.un (.wrap .i64) (.bin .sub (.un (.wrap .i64) (.bin .add (.un (.wrap .i64) (.bin .mul (.int 1000000) (.var 2))) (.int 7))) (.int 50))) .nil)) (.bin .cons (.bin .cons (.int 2) (.bin .cons (.un (.wrap .i64) (.bin .sub (.un (.wrap .i64) (.bin .add (.un (.wrap .i64) (.bin .mul (.int 1000000) (.var 2))) (.int 14))) (.int 50))) .nil)) .nil)) .nil))), (.un (.wrap .i64) (.bin .add (.var 2) (.int 1)))]))))
      (.br (.bin .eq (.bin .tmod (.un (.wrap .u8) (.bin .tdiv (.bin .idx (.var 0) (.bin .add (.int 0) (.var 2))) (.int 8))) (.int 2)) (.int 1))
       (.br (.bin .eq (.bin .tmod (.un (.wrap .u8) (.bin .tdiv (.bin .idx (.var 0) (.bin .add (.int 0) (.var 2))) (.int 16))) (.int 2)) (.int 1))
        (.asrt (.bin .le (.bin .add (.un .len (.var 1)) (.int 1)) (.int 4294967296))
         (.leaf [(.bin .snoc (.var 1) (.bin .cons (.un (.wrap .i64) (.bin .add (.un (.wrap .i64) (.bin .add (.un (.wrap .i64) (.bin .mul (.int 2) (.var 2))) (.int 1))) (.un (.wrap .i64) (.bin .tdiv (.un (.wrap .i64) (.bin .idx (.var 0) (.bin .add (.int 0) (.var 2)))) (.int 128))))) (.bin .cons (.bin .cons (.bin .cons (.int 1) (.bin .cons (.un (.wrap .i64) (.bin .sub (.un (.wrap .i64) (.bin .add (.un (.wrap .i64) (.bin .mul (.int 1000000) (.var 2))) (.int 7))) (.int 50))) .nil)) (.bin .cons (.bin .cons (.int 3) (.bin .cons (.un (.wrap .i64) (.bin .sub (.un (.wrap .i64) (.bin .add (.un (.wrap .i64) (.bin .mul (.int 1000000) (.var 2))) (.int 21))) (.int 50))) .nil)) (.bin .cons (.bin .cons (.int 4) (.bin .cons (.un (.wrap .i64) (.bin .sub (.un (.wrap .i64) (.bin .add (.un (.wrap .i64) (.bin .mul (.int 1000000) (.var 2))) (.int 28))) (.int 50))) .nil)) .nil))) .nil))), (.un (.wrap .i64) (.bin .add (.var 2) (.int 1)))]))
        (.asrt (.bin .le (.bin .add (.un .len (.var 1)) (.int 1)) (.int 4294967296))
         (.leaf [(.bin .snoc (.var 1) (.bin .cons (.un (.wrap .i64) (.bin .add (.un (.wrap .i64) (.bin .add (.un (.wrap .i64) (.bin .mul (.int 2) (.var 2))) (.int 1))) (.un (.wrap .i64) (.bin .tdiv (.un (.wrap .i64) (.bin .idx (.var 0) (.bin .add (.int 0) (.var 2)))) (.int 128))))) (.bin .cons (.bin .cons (.bin .cons (.int 1) (.bin .cons (.un (.wrap .i64) (.bin .sub (.un (.wrap .i64) (.bin .add (.un (.wrap .i64) (.bin .mul (.int 1000000) (.var 2))) (.int 7))) (.int 50))) .nil)) (.bin .cons (.bin .cons (.int 3) (.bin .cons (.un (.wrap .i64) (.bin .sub (.un (.wrap .i64) (.bin .add (.un (.wrap .i64) (.bin .mul (.int 1000000) (.var 2))) (.int 21))) (.int 50))) .nil)) .nil)) .nil))), (.un (.wrap .i64) (.bin .add (.var 2) (.int 1)))])))
       (.br (.bin .eq (.bin .tmod (.un (.wrap .u8) (.bin .tdiv (.bin .idx (.var 0) (.bin .add (.int 0) (.var 2))) (.int 16))) (.int 2)) (.int 1))
        (.asrt (.bin .le (.bin .add (.un .len (.var 1)) (.int 1)) (.int 4294967296))
         (.leaf [(.bin .snoc (.var 1) (.bin .cons (.un (.wrap .i64) (.bin .add (.un (.wrap .i64) (.bin .add (.un (.wrap .i64) (.bin .mul (.int 2) (.var 2))) (.int 1))) (.un (.wrap .i64) (.bin .tdiv (.un (.wrap .i64) (.bin .idx (.var 0) (.bin .add (.int 0) (.var 2)))) (.int 128))))) (.bin .cons (.bin .cons (.bin .cons (.int 1) (.bin .cons (.un (.wrap .i64) (.bin .sub (.un (.wrap .i64) (.bin .add (.un (.wrap .i64) (.bin .mul (.int 1000000) (.var 2))) (.int 7))) (.int 50))) .nil)) (.bin .cons (.bin .cons (.int 4) (.bin .cons (.un (.wrap .i64) (.bin .sub (.un (.wrap .i64) (.bin .add (.un (.wrap .i64) (.bin .mul (.int 1000000) (.var 2))) (.int 28))) (.int 50))) .nil)) .nil)) .nil))), (.un (.wrap .i64) (.bin .add (.var 2) (.int 1)))]))
        (.asrt (.bin .le (.bin .add (.un .len (.var 1)) (.int 1)) (.int 4294967296))
         (.leaf [(.bin .snoc (.var 1) (.bin .cons (.un (.wrap .i64) (.bin .add (.un (.wrap .i64) (.bin .add (.un (.wrap .i64) (.bin .mul (.int 2) (.var 2))) (.int 1))) (.un (.wrap .i64) (.bin .tdiv (.un (.wrap .i64) (.bin .idx (.var 0) (.bin .add (.int 0) (.var 2)))) (.int 128))))) (.bin .cons (.bin .cons (.bin .cons (.int 1) (.bin .cons (.un (.wrap .i64) (.bin .sub (.un (.wrap .i64) (.bin .add (.un (.wrap .i64) (.bin .mul (.int 1000000) (.var 2))) (.int 7))) (.int 50))) .nil)) .nil) .nil))), (.un (.wrap .i64) (.bin .add (.var 2) (.int 1)))])))))
     (.br (.bin .eq (.bin .tmod (.un (.wrap .u8) (.bin .tdiv (.bin .idx (.var 0) (.bin .add (.int 0) (.var 2))) (.int 4))) (.int 2)) (.int 1))
      (.br (.bin .eq (.bin .tmod (.un (.wrap .u8) (.bin .tdiv (.bin .idx (.var 0) (.bin .add (.int 0) (.var 2))) (.int 8))) (.int 2)) (.int 1))
       (.br (.bin .eq (.bin .tmod (.un (.wrap .u8) (.bin .tdiv (.bin .idx (.var 0) (.bin .add (.int 0) (.var 2))) (.int 16))) (.int 2)) (.int 1))
        (.asrt (.bin .le (.bin .add (.un .len (.var 1)) (.int 1)) (.int 4294967296))
         (.leaf [(.bin .snoc (.var 1) (.bin .cons (.un (.wrap .i64) (.bin .add (.un (.wrap .i64) (.bin .add (.un (.wrap .i64) (.bin .mul (.int 2) (.var 2))) (.int 1))) (.un (.wrap .i64) (.bin .tdiv (.un (.wrap .i64) (.bin .idx (.var 0) (.bin .add (.int 0) (.var 2)))) (.int 128))))) (.bin .cons (.bin .cons (.bin .cons (.int 2) (.bin .cons (.un (.wrap .i64) (.bin .sub (.un (.wrap .i64) (.bin .add (.un (.wrap .i64) (.bin .mul (.int 1000000) (.var 2))) (.int 14))) (.int 50))) .nil)) (.bin .cons (.bin .cons (.int 3) (.bin .cons (.un (.wrap .i64) (.bin .sub (.un (.wrap .i64) (.bin .add (.un (.wrap .i64) (.bin .mul (.int 1000000) (.var 2))) (.int 21))) (.int 50))) .nil)) (.bin .cons (.bin .cons (.int 4) (.bin .cons (.un (.wrap .i64) (.bin .sub (.un (.wrap .i64) (.bin .add (.un (.wrap .i64) (.bin .mul (.int 1000000) (.var 2))) (.int 28))) (.int 50))) .nil)) .nil))) .nil))), (.un (.wrap .i64) (.bin .add (.var 2) (.int 1)))]))
        (.asrt (.bin .le (.bin .add (.un .len (.var 1)) (.int 1)) (.int 4294967296))
         (.leaf [(.bin .snoc (.var 1) (.bin .cons (.un (.wrap .i64) (.bin .add (.un (.wrap .i64) (.bin .add (.un (.wrap .i64) (.bin .mul (.int 2) (.var 2))) (.int 1))) (.un (.wrap .i64) (.bin .tdiv (.un (.wrap .i64) (.bin .idx (.var 0) (.bin .add (.int 0) (.var 2)))) (.int 128))))) (.bin .cons (.bin .cons (.bin .cons (.int 2) (.bin .cons (.un (.wrap .i64) (.bin .sub (.un (.wrap .i64) (.bin .add (.un (.wrap .i64) (.bin .mul (.int 1000000) (.var 2))) (.int 14))) (.int 50))) .nil)) (.bin .cons (.bin .cons (.int 3) (.bin .cons (.un (.wrap .i64) (.bin .sub (.un (.wrap .i64) (.bin .add (.un (.wrap .i64) (.bin .mul (.int 1000000) (.var 2))) (.int 21))) (.int 50))) .nil)) .nil)) .nil))), (.un (.wrap .i64) (.bin .add (.var 2) (.int 1)))])))
       (.br (.bin .eq (.bin .tmod (.un (.wrap .u8) (.bin .tdiv (.bin .idx (.var 0) (.bin .add (.int 0) (.var 2))) (.int 16))) (.int 2)) (.int 1))
        (.asrt (.bin .le (.bin .add (.un .len (.var 1)) (.int 1)) (.int 4294967296))
         (.leaf [(.bin .snoc (.var 1) (.bin .cons (.un (.wrap .i64) (.bin .add (.un (.wrap .i64) (.bin .add (.un (.wrap .i64) (.bin .mul (.int 2) (.var 2))) (.int 1))) (.un (.wrap .i64) (.bin .tdiv (.un (.wrap .i64) (.bin .idx (.var 0) (.bin .add (.int 0) (.var 2)))) (.int 128))))) (.bin .cons (.bin .cons (.bin .cons (.int 2) (.bin .cons (.un (.wrap .i64) (.bin .sub (.un (.wrap .i64) (.bin .add (.un (.wrap .i64) (.bin .mul (.int 1000000) (.var 2))) (.int 14))) (.int 50))) .nil)) (.bin .cons (.bin .cons (.int 4) (.bin .cons (.un (.wrap .i64) (.bin .sub (.un (.wrap .i64) (.bin .add (.un (.wrap .i64) (.bin .mul (.int 1000000) (.var 2))) (.int 28))) (.int 50))) .nil)) .nil)) .nil))), (.un (.wrap .i64) (.bin .add (.var 2) (.int 1)))]))
        (.asrt (.bin .le (.bin .add (.un .len (.var 1)) (.int 1)) (.int 4294967296))
         (.leaf [(.bin .snoc (.var 1) (.bin .cons (.un (.wrap .i64) (.bin .add (.un (.wrap .i64) (.bin .add (.un (.wrap .i64) (.bin .mul (.int 2) (.var 2))) (.int 1))) (.un (.wrap .i64) (.bin .tdiv (.un (.wrap .i64) (.bin .idx (.var 0) (.bin .add (.int 0) (.var 2)))) (.int 128))))) (.bin .cons (.bin .cons (.bin .cons (.int 2) (.bin .cons (.un (.wrap .i64) (.bin .sub (.un (.wrap .i64) (.bin .add (.un (.wrap .i64) (.bin .mul (.int 1000000) (.var 2))) (.int 14))) (.int 50))) .nil)) .nil) .nil))), (.un (.wrap .i64) (.bin .add (.var 2) (.int 1)))]))))
      (.br (.bin .eq (.bin .tmod (.un (.wrap .u8) (.bin .tdiv (.bin .idx (.var 0) (.bin .add (.int 0) (.var 2))) (.int 8))) (.int 2)) (.int 1))
       (.br (.bin .eq (.bin .tmod (.un (.wrap .u8) (.bin .tdiv (.bin .idx (.var 0) (.bin .add (.int 0) (.var 2))) (.int 16))) (.int 2)) (.int 1))
        (.asrt (.bin .le (.bin .add (.un .len (.var 1)) (.int 1)) (.int 4294967296))
         (.leaf [(.bin .snoc (.var 1) (.bin .cons (.un (.wrap .i64) (.bin .add (.un (.wrap .i64) (.bin .add (.un (.wrap .i64) (.bin .mul (.int 2) (.var 2))) (.int 1))) (.un (.wrap .i64) (.bin .tdiv (.un (.wrap .i64) (.bin .idx (.var 0) (.bin .add (.int 0) (.var 2)))) (.int 128))))) (.bin .cons (.bin .cons (.bin .cons (.int 3) (.bin .cons (.un (.wrap .i64) (.bin .sub (.un (.wrap .i64) (.bin .add (.un (.wrap .i64) (.bin .mul (.int 1000000) (.var 2))) (.int 21))) (.int 50))) .nil)) (.bin .cons (.bin .cons (.int 4) (.bin .cons (.un (.wrap .i64) (.bin .sub (.un (.wrap .i64) (.bin .add (.un (.wrap .i64) (.bin .mul (.int 1000000) (.var 2))) (.int 28))) (.int 50))) .nil)) .nil)) .nil))), (.un (.wrap .i64) (.bin .add (.var 2) (.int 1)))]))
        (.asrt (.bin .le (.bin .add (.un .len (.var 1)) (.int 1)) (.int 4294967296))
         (.leaf [(.bin .snoc (.var 1) (.bin .cons (.un (.wrap .i64) (.bin .add (.un (.wrap .i64) (.bin .add (.un (.wrap .i64) (.bin .mul (.int 2) (.var 2))) (.int 1))) (.un (.wrap .i64) (.bin .tdiv (.un (.wrap .i64) (.bin .idx (.var 0) (.bin .add (.int 0) (.var 2)))) (.int 128))))) (.bin .cons (.bin .cons (.bin .cons (.int 3) (.bin .cons (.un (.wrap .i64) (.bin .sub (.un (.wrap .i64) (.bin .add (.un (.wrap .i64) (.bin .mul (.int 1000000) (.var 2))) (.int 21))) (.int 50))) .nil)) .nil) .nil))), (.un (.wrap .i64) (.bin .add (.var 2) (.int 1)))])))
       (.br (.bin .eq (.bin .tmod (.un (.wrap .u8) (.bin .tdiv (.bin .idx (.var 0) (.bin .add (.int 0) (.var 2))) (.int 16))) (.int 2)) (.int 1))
        (.asrt (.bin .le (.bin .add (.un .len (.var 1)) (.int 1)) (.int 4294967296))
         (.leaf [(.bin .snoc (.var 1) (.bin .cons (.un (.wrap .i64) (.bin .add (.un (.wrap .i64) (.bin .add (.un (.wrap .i64) (.bin .mul (.int 2) (.var 2))) (.int 1))) (.un (.wrap .i64) (.bin .tdiv (.un (.wrap .i64) (.bin .idx (.var 0) (.bin .add (.int 0) (.var 2)))) (.int 128))))) (.bin .cons (.bin .cons (.bin .cons (.int 4) (.bin .cons (.un (.wrap .i64) (.bin .sub (.un (.wrap .i64) (.bin .add (.un (.wrap .i64) (.bin .mul (.int 1000000) (.var 2))) (.int 28))) (.int 50))) .nil)) .nil) .nil))), (.un (.wrap .i64) (.bin .add (.var 2) (.int 1)))]))
        (.asrt (.bin .le (.bin .add (.un .len (.var 1)) (.int 1)) (.int 4294967296))
         (.leaf [(.bin .snoc (.var 1) (.bin .cons (.un (.wrap .i64) (.bin .add (.un (.wrap .i64) (.bin .add (.un (.wrap .i64) (.bin .mul (.int 2) (.var 2))) (.int 1))) (.un (.wrap .i64) (.bin .tdiv (.un (.wrap .i64) (.bin .idx (.var 0) (.bin .add (.int 0) (.var 2)))) (.int 128))))) (.bin .cons .nil .nil))), (.un (.wrap .i64) (.bin .add (.var 2) (.int 1)))]))))))))
  .fail)
 (.br (.un .not (.bin .le (.un .len (.var 0)) (.var 2)))
  (.asrt (.bin .le (.int 0) (.var 2))
   (.asrt (.bin .le (.bin .add (.un .len (.var 1)) (.int 1)) (.int 4294967296))
    .fail))
  (.leaf [(.var 1)])))
def lEntSm : List (Nat × Smy) := []
def lEntLa : List (LK × LA) := [(⟨57, 3, 1, 1, 0⟩, ⟨[(3, (.sl 1 2 (.int 0) (.un .len (.var 1)) none)), (4, (.int .i64 (.var 2))), (5, .any), (6, .any), (7, .any), (8, .any), (9, .any), (10, .any), (11, .any), (12, .any), (13, .any), (14, .any), (15, .any), (16, .any), (17, .any), (18, .any), (19, .any), (20, .any), (21, .any), (22, .any), (23, .any), (24, .any), (25, .any), (26, .any), (27, .any), (28, .any), (29, .any), (30, .any), (31, .any), (32, .any), (33, .any), (34, .any), (35, .any), (36, .any), (37, .any), (38, .any), (39, .any), (40, .any), (41, .any), (42, .any), (43, .any), (44, .any), (45, .any), (46, .any), (47, .any), (48, .any), (49, .any), (50, .any), (51, .any), (52, .any), (53, .any), (54, .any), (55, .any)], [(1, (.nrows [.pl (.int .i64), .sub [.int .i64, .int .i64]] (.var 1)))], [], 2, 1⟩)]
def lEntPhi : Fs := ⟨fun n d => match n with
  | _ => d, 147⟩
theorem lEntS : SmyOk true Tryd.prog lEntPhi lEntSm := smy_nil
theorem lEntT : treeOk ⟨Tryd.prog, lEntSm, lEntLa, true⟩ 4000 29 [.one (.rows false [.int .u8])] [.one (.nst [.pl (.int .i64), .sub [.int .i64, .int .i64]])] ([]) lEntTree = true := by decide +kernel
set_option maxHeartbeats 1000000 in
theorem lEnt_pure : PureE true Tryd.prog 29 [.one (.rows false [.int .u8])] [.one (.nst [.pl (.int .i64), .sub [.int .i64, .int .i64]])] (lenP [(0, 1000)]) lEntF := by
  refine pure_tree (X := ⟨Tryd.prog, lEntSm, lEntLa, true⟩) (by decide +kernel) (Checked.mixed Tryd.checked) lEntS (by decide +kernel) (by decide +kernel) lEntT (by decide +kernel) ?_
  intro ds hl hp
  obtain ⟨d0, rfl⟩ := len1 hl
  have b0 : (d0.l.length : Int) ≤ 1000 := hp (0, 1000) (by simp)
  have hF : lEntF [d0] = lEntE (d0.l.map DV.i) := rfl
  rw [hF]
  clear hF hp hl
  have hN : nrmL (clsOf [.one (.rows false [.int .u8])]) [d0] = [.list ((d0.l.map DV.i).map DV.int)] := by
    simp only [clsOf, Sh.cls, List.append_nil, nrmL, Cl.nrm, map_Li]
  rw [hN]
  clear hN
  rw [← List.length_map (f := DV.i)] at b0
  generalize d0.l.map DV.i = x0 at b0 ⊢
  refine ⟨facts_nil _, ?_⟩
  unfold lEntTree lEntE
  simp only [Sat, clsOf, Sh.cls, List.append_nil, List.cons_append, List.nil_append, nrmL, Cl.nrm, List.map_cons, List.map_nil, List.length_cons, List.length_nil, List.cons.injEq, DV.list.injEq, and_true, true_and]
  try simp only [q_le, q_eq, q_not, iff_true, iff_false, Bool.not_true, Bool.not_false, Bool.false_eq_true, eq_self]
  simp only [SE.den, evU, ev_add, ev_sub, ev_mul, ev_tdiv, ev_tmod, ev_idx, ev_cons, ev_snoc, i_int, l_list, envL, List.getElem?_cons_succ, List.getElem?_cons_zero, Option.getD_some, List.length_map, get_Li, Int.zero_add, rows_En, rows_En, lEntPhi]
  refine rounds_at x0.length (fun i => [.list ((entsN x0 i).map encEn), .int i]) rfl (fun _ => rfl) (fun i hi => ?_) ?_
  · have hwi : IntKind.i64.wrap ((i : Int) + 1) = ((i + 1 : Nat) : Int) := by rw [w64 (by omega) (by omega)]; omega
    simp only [i_int, l_list, List.getElem?_cons_succ, List.getElem?_cons_zero, Option.getD_some, Int.toNat_natCast, List.length_map, and_true, eq_self, DV.list.injEq, List.cons.injEq, hwi, ents_len, ents_succ]
    refine ⟨fun _ => ⟨by omega, ?_⟩, fun h => absurd h (by omega)⟩
    repeat' (first | apply And.intro | intro)
    all_goals first
      | omega
      | (simp only [entW, entV, entX, bitU, *, decide_true, decide_false, Bool.false_eq_true, if_true, if_false, List.cons_append, List.nil_append, List.append_nil, List.map_append, List.map_cons, List.map_nil, encEn, encii]; done)
      | trace_state
  · simp only [i_int, l_list, List.getElem?_cons_succ, List.getElem?_cons_zero, Option.getD_some, List.length_map, rows_En, inj_LEn, rows_En, inj_LEn]
    exact ⟨fun h => absurd (Int.le_refl _) h, fun _ => rfl⟩
end Go.Proofs.YtkfjgggiopegbaaDoor
end
section
namespace Go.Proofs.YtkfjgggiopegbaaDoor
set_option linter.unusedVariables false
set_option linter.unusedSimpArgs false
set_option maxRecDepth 100000
theorem flatW_snoc (w : List Tii) (i : Nat) (h : i < w.length) : flatW (w.take (i + 1)) = flatW (w.take i) ++ [(w[i]?.getD dii).1, (w[i]?.getD dii).2] := by
  rw [List.take_add_one, List.getElem?_eq_getElem h]
  unfold flatW
  rw [List.flatMap_append]
  simp
end Go.Proofs.YtkfjgggiopegbaaDoor
end
section
namespace Go.Proofs.YtkfjgggiopegbaaDoor
set_option linter.unusedVariables false
set_option linter.unusedSimpArgs false
set_option maxRecDepth 100000
def record3 (v : Int) (w : List Tii) : List (List UInt8) := if validM v w = true then sectsM ((padM (strN (nums3 (v :: flatW w)))).length / 27) (padM (strN (nums3 (v :: flatW w)))) else []
def rRecordE (v : Int) (w : List Tii) : List DV := [.list ((record3 v w).map .str)]
theorem record3_eq {v : Int} {w : List Tii} (hw : rgeW w) : record3 v w = recordM v w := by
  unfold record3 recordM bodyM
  split
  · rename_i hv
    obtain ⟨_, v1, v2, v3⟩ := validM_iff.1 hv
    have hl : (v :: flatW w).length ≤ 65 := by rw [List.length_cons, flatW_len]; omega
    rw [nums3_eq (by omega) fun n hn => by
      rcases List.mem_cons.1 hn with e | e
      · omega
      · exact flatW_rge hw n e]
  · rfl
theorem sumM_rge (s : List UInt8) : 0 ≤ sumM s ∧ sumM s < 4294967296 := by
  obtain ⟨a, b, c, d⟩ := sumS_rge s
  unfold sumM
  omega
theorem le4_ops (n : Int) (h0 : 0 ≤ n) (h1 : n < 4294967296) : List.map (fun d : DV => UInt8.ofNat d.i.toNat) [.int (IntKind.u8.wrap (n.tmod 256)), .int (IntKind.u8.wrap ((IntKind.i64.wrap (n.tdiv 256)).tmod 256)), .int (IntKind.u8.wrap ((IntKind.i64.wrap (n.tdiv 65536)).tmod 256)), .int (IntKind.u8.wrap (IntKind.i64.wrap (n.tdiv 16777216)))] = le4 n := by
  unfold le4
  simp only [List.map_cons, List.map_nil, i_int]
  rw [Int.tmod_eq_emod_of_nonneg h0, Int.tdiv_eq_ediv_of_nonneg h0, Int.tdiv_eq_ediv_of_nonneg h0, Int.tdiv_eq_ediv_of_nonneg h0, w64 (n := n / 256) (by omega) (by omega), w64 (n := n / 65536) (by omega) (by omega), w64 (n := n / 16777216) (by omega) (by omega), Int.tmod_eq_emod_of_nonneg (by omega), Int.tmod_eq_emod_of_nonneg (by omega)]
  rw [u8_wrap (n % 256) (by omega) (by omega), u8_wrap (n / 256 % 256) (by omega) (by omega), u8_wrap (n / 65536 % 256) (by omega) (by omega), u8_wrap (n / 16777216) (by omega) (by omega)]
  have : n / 16777216 % 256 = n / 16777216 := by omega
  rw [this]
theorem head_ops (k : Int) (c : List UInt8) : List.map (fun d : DV => UInt8.ofNat d.i.toNat) [.int (IntKind.u8.wrap k)] ++ c = headS k c := by
  show UInt8.ofNat (IntKind.u8.wrap k).toNat :: c = _
  rw [wrap_u8n]
  rfl
def rRecordF (ds : List DV) : List DV := rRecordE (gi ds 0) (gLii ds 1)
def rRecordTree : PT :=
(.asrt (.bin .le (.un .len (.var 1)) (.int 9223372036854775807))
 (.br (.un .not (.bin .idx (.fn 114 (.bin .cons (.var 0) (.bin .cons (.var 1) .nil))) (.int 0)))
  (.leaf [.nil])
  (.loop 2 [(.bin .cons (.var 0) .nil), (.int 0)]
   (.br (.un .not (.bin .le (.un .len (.var 1)) (.var 3)))
    (.asrt (.bin .le (.int 0) (.var 3))
     (.asrt (.bin .le (.bin .add (.un .len (.var 2)) (.int 2)) (.int 4294967296))
      (.leaf [(.bin .app (.var 2) (.bin .cons (.bin .idx (.bin .idx (.var 1) (.bin .add (.int 0) (.var 3))) (.int 0)) (.bin .cons (.bin .idx (.bin .idx (.var 1) (.bin .add (.int 0) (.var 3))) (.int 1)) .nil))), (.un (.wrap .i64) (.bin .add (.var 3) (.int 1)))])))
    .fail)
   (.br (.un .not (.bin .le (.un .len (.var 1)) (.var 3)))
    (.asrt (.bin .le (.int 0) (.var 3))
     (.asrt (.bin .le (.bin .add (.un .len (.var 2)) (.int 2)) (.int 4294967296))
      .fail))
    (.asrt (.bin .le (.un .len (.var 2)) (.int 1000))
     (.loop 4 [(.un .str8 (.bin .idx (.fn 118 (.bin .cons (.var 2) .nil)) (.int 0)))]
      (.br (.un .not (.bin .eq (.bin .tmod (.un .slen (.var 4)) (.int 27)) (.int 0)))
       (.asrt (.bin .le (.bin .add (.un .slen (.var 4)) (.int 1)) (.int 9223372036854775807))
        (.leaf [(.bin .cat (.var 4) (.str [0]))]))
       .fail)
      (.br (.un .not (.bin .eq (.bin .tmod (.un .slen (.var 4)) (.int 27)) (.int 0)))
       (.asrt (.bin .le (.bin .add (.un .slen (.var 4)) (.int 1)) (.int 9223372036854775807))
        .fail)
       (.loop 5 [.nil, (.int 0)]
        (.br (.un .not (.bin .le (.un (.wrap .i64) (.bin .tdiv (.un .slen (.var 4)) (.int 27))) (.var 6)))
         (.asrt (.bin .le (.int 0) (.un (.wrap .i64) (.bin .add (.un (.wrap .i64) (.bin .mul (.int 27) (.var 6))) (.int 27))))
          (.asrt (.bin .le (.un (.wrap .i64) (.bin .add (.un (.wrap .i64) (.bin .mul (.int 27) (.var 6))) (.int 27))) (.un .slen (.var 4)))
           (.asrt (.bin .le (.int 0) (.un (.wrap .i64) (.bin .mul (.int 27) (.var 6))))
            (.asrt (.bin .le (.un (.wrap .i64) (.bin .mul (.int 27) (.var 6))) (.un (.wrap .i64) (.bin .add (.un (.wrap .i64) (.bin .mul (.int 27) (.var 6))) (.int 27))))
             (.asrt (.bin .le (.bin .add (.int 1) (.un .slen (.bin .sdrop (.bin .stake (.var 4) (.un (.wrap .i64) (.bin .add (.un (.wrap .i64) (.bin .mul (.int 27) (.var 6))) (.int 27)))) (.un (.wrap .i64) (.bin .mul (.int 27) (.var 6)))))) (.int 9223372036854775807))
              (.asrt (.bin .le (.un .slen (.bin .cat (.un .str8 (.bin .cons (.un (.wrap .u8) (.un (.wrap .i64) (.bin .sub (.un (.wrap .i64) (.bin .sub (.un (.wrap .i64) (.bin .tdiv (.un .slen (.var 4)) (.int 27))) (.int 1))) (.var 6)))) .nil)) (.bin .sdrop (.bin .stake (.var 4) (.un (.wrap .i64) (.bin .add (.un (.wrap .i64) (.bin .mul (.int 27) (.var 6))) (.int 27)))) (.un (.wrap .i64) (.bin .mul (.int 27) (.var 6)))))) (.int 1000000))
               (.asrt (.bin .le (.bin .add (.un .len (.var 5)) (.int 1)) (.int 4294967296))
                (.leaf [(.bin .snoc (.var 5) (.bin .cat (.bin .cat (.un .str8 (.bin .cons (.un (.wrap .u8) (.un (.wrap .i64) (.bin .sub (.un (.wrap .i64) (.bin .sub (.un (.wrap .i64) (.bin .tdiv (.un .slen (.var 4)) (.int 27))) (.int 1))) (.var 6)))) .nil)) (.bin .sdrop (.bin .stake (.var 4) (.un (.wrap .i64) (.bin .add (.un (.wrap .i64) (.bin .mul (.int 27) (.var 6))) (.int 27)))) (.un (.wrap .i64) (.bin .mul (.int 27) (.var 6))))) (.un .str8 (.bin .cons (.un (.wrap .u8) (.bin .tmod (.bin .idx (.fn 116 (.bin .cons (.bin .cat (.un .str8 (.bin .cons (.un (.wrap .u8) (.un (.wrap .i64) (.bin .sub (.un (.wrap .i64) (.bin .sub (.un (.wrap .i64) (.bin .tdiv (.un .slen (.var 4)) (.int 27))) (.int 1))) (.var 6)))) .nil)) (.bin .sdrop (.bin .stake (.var 4) (.un (.wrap .i64) (.bin .add (.un (.wrap .i64) (.bin .mul (.int 27) (.var 6))) (.int 27)))) (.un (.wrap .i64) (.bin .mul (.int 27) (.var 6))))) .nil)) (.int 0)) (.int 256))) (.bin .cons (.un (.wrap .u8) (.bin .tmod (.un (.wrap .i64) (.bin .tdiv (.bin .idx (.fn 116 (.bin .cons (.bin .cat (.un .str8 (.bin .cons (.un (.wrap .u8) (.un (.wrap .i64) (.bin .sub (.un (.wrap .i64) (.bin .sub (.un (.wrap .i64) (.bin .tdiv (.un .slen (.var 4)) (.int 27))) (.int 1))) (.var 6)))) .nil)) (.bin .sdrop (.bin .stake (.var 4) (.un (.wrap .i64) (.bin .add (.un (.wrap .i64) (.bin .mul (.int 27) (.var 6))) (.int 27)))) (.un (.wrap .i64) (.bin .mul (.int 27) (.var 6))))) .nil)) (.int 0)) (.int 256))) (.int 256))) (.bin .cons (.un (.wrap .u8) (.bin .tmod (.un (.wrap .i64) (.bin .tdiv (.bin .idx (.fn 116 (.bin .cons (.bin .cat (.un .str8 (.bin .cons (.un (.wrap .u8) (.un (.wrap .i64) (.bin .sub (.un (.wrap .i64) (.bin .sub (.un (.wrap .i64) (.bin .tdiv (.un .slen (.var 4)) (.int 27))) (.int 1))) (.var 6)))) .nil)) (.bin .sdrop (.bin .stake (.var 4) (.un (.wrap .i64) (.bin .add (.un (.wrap .i64) (.bin .mul (.int 27) (.var 6))) (.int 27)))) (.un (.wrap .i64) (.bin .mul (.int 27) (.var 6))))) .nil)) (.int 0)) (.int 65536))) (.int 256))) (.bin .cons (.un (.wrap .u8) (.un (.wrap .i64) (.bin .tdiv (.bin .idx (.fn 116 (.bin .cons (.bin .cat (.un .str8 (.bin .cons (.un (.wrap .u8) (.un (.wrap .i64) (.bin .sub (.un (.wrap .i64) (.bin .sub (.un (.wrap .i64) (.bin .tdiv (.un .slen (.var 4)) (.int 27))) (.int 1))) (.var 6)))) .nil)) (.bin .sdrop (.bin .stake (.var 4) (.un (.wrap .i64) (.bin .add (.un (.wrap .i64) (.bin .mul (.int 27) (.var 6))) (.int 27)))) (.un (.wrap .i64) (.bin .mul (.int 27) (.var 6))))) .nil)) (.int 0)) (.int 16777216)))) .nil))))))), (.un (.wrap .i64) (.bin .add (.var 6) (.int 1)))]))))))))
         .fail)
        (.br (.un .not (.bin .le (.un (.wrap .i64) (.bin .tdiv (.un .slen (.var 4)) (.int 27))) (.var 6)))
         (.asrt (.bin .le (.int 0) (.un (.wrap .i64) (.bin .add (.un (.wrap .i64) (.bin .mul (.int 27) (.var 6))) (.int 27))))
          (.asrt (.bin .le (.un (.wrap .i64) (.bin .add (.un (.wrap .i64) (.bin .mul (.int 27) (.var 6))) (.int 27))) (.un .slen (.var 4)))
           (.asrt (.bin .le (.int 0) (.un (.wrap .i64) (.bin .mul (.int 27) (.var 6))))
            (.asrt (.bin .le (.un (.wrap .i64) (.bin .mul (.int 27) (.var 6))) (.un (.wrap .i64) (.bin .add (.un (.wrap .i64) (.bin .mul (.int 27) (.var 6))) (.int 27))))
             (.asrt (.bin .le (.bin .add (.int 1) (.un .slen (.bin .sdrop (.bin .stake (.var 4) (.un (.wrap .i64) (.bin .add (.un (.wrap .i64) (.bin .mul (.int 27) (.var 6))) (.int 27)))) (.un (.wrap .i64) (.bin .mul (.int 27) (.var 6)))))) (.int 9223372036854775807))
              (.asrt (.bin .le (.un .slen (.bin .cat (.un .str8 (.bin .cons (.un (.wrap .u8) (.un (.wrap .i64) (.bin .sub (.un (.wrap .i64) (.bin .sub (.un (.wrap .i64) (.bin .tdiv (.un .slen (.var 4)) (.int 27))) (.int 1))) (.var 6)))) .nil)) (.bin .sdrop (.bin .stake (.var 4) (.un (.wrap .i64) (.bin .add (.un (.wrap .i64) (.bin .mul (.int 27) (.var 6))) (.int 27)))) (.un (.wrap .i64) (.bin .mul (.int 27) (.var 6)))))) (.int 1000000))
               (.asrt (.bin .le (.bin .add (.un .len (.var 5)) (.int 1)) (.int 4294967296))
                .fail)))))))
         (.leaf [(.var 5)]))))))))))
def rRecordSm : List (Nat × Smy) := [(72, ⟨114, [.agg [.pl (.int .i64), .rows false [.int .i64, .int .i64]]], [.one (.pl .bool)], lenC [(1, 9223372036854775807)], none⟩), (73, ⟨118, [.one (.rows false [.int .i64])], [.one (.rows true [.int .u8])], lenC [(0, 1000)], none⟩), (74, ⟨116, [.one (.pl .str)], [.one (.pl (.int .i64))], fun es => (fun _ => []) es ++ slenC [(0, 0, 1000000)] es, none⟩)]
def rRecordLa : List (LK × LA) := [(⟨99, 15, 6, 5, 5⟩, ⟨[(8, (.sl 6 1 (.int 0) (.un .len (.var 5)) none)), (9, (.int .i64 (.var 6))), (10, .any), (11, .any), (55, .any), (56, .any), (57, .any), (58, .any), (59, .any), (60, .any), (61, .any), (62, .any), (63, .any), (64, .any), (65, .any), (66, .any), (67, .any), (68, .any), (69, .any), (70, .any), (71, .any), (72, .any), (73, .any), (74, .any), (75, .any), (76, .any), (77, .any), (78, .any), (79, .any), (80, .any), (81, .any), (82, .any), (83, .any), (84, .any), (85, .any), (86, .any), (87, .any), (88, .any), (89, .any), (90, .any), (91, .any), (92, .any), (93, .any), (94, .any), (95, .any), (96, .any), (97, .any)], [(6, (.rows [.str] (.var 5)))], [], 2, 1⟩),
  (⟨99, 10, 6, 4, 4⟩, ⟨[(6, (.str (.var 4))), (44, .any), (45, .any), (46, .any), (47, .any), (48, .any), (49, .any), (50, .any), (51, .any)], [], [], 1, 0⟩),
  (⟨99, 6, 4, 2, 2⟩, ⟨[(4, (.sl 4 1 (.int 0) (.un .len (.var 2)) none)), (5, (.int .i64 (.var 3))), (19, .any), (20, .any), (21, .any), (22, .any), (23, .any), (24, .any), (25, .any), (26, .any), (27, .any), (28, .any), (29, .any), (30, .any), (31, .any), (32, .any), (33, .any), (34, .any), (35, .any), (36, .any), (37, .any), (38, .any), (39, .any), (40, .any)], [(4, (.rows [.int .i64] (.var 2)))], [3], 2, 1⟩)]
def rRecordPhi : Fs := ⟨fun n d => match n with
  | 114 => .list (rValidF d.l)
  | 118 => .list (r3NumsF d.l)
  | 116 => .list (rSum23F d.l)
  | _ => d, 147⟩
theorem rRecordS : SmyOk true Tryd.prog rRecordPhi rRecordSm := (smy_cons (lenP [(1, 9223372036854775807)]) rValidF rValid_pure (len_hp [(1, 9223372036854775807)]) (fun _ => rfl) (fun _ h => by cases h) (smy_cons (lenP [(0, 1000)]) r3NumsF r3Nums_pure (len_hp [(0, 1000)]) (fun _ => rfl) (fun _ h => by cases h) (smy_cons (fun ds => (fun _ => True) ds ∧ slenP [(0, 0, 1000000)] ds) rSum23F rSum23_pure (slen_hp (C := fun _ => []) (Q := fun _ => True) [(0, 0, 1000000)] (fun _ _ _ _ => trivial)) (fun _ => rfl) (fun _ h => by cases h) smy_nil)))
theorem rRecordT : treeOk ⟨Tryd.prog, rRecordSm, rRecordLa, true⟩ 4000 38 [.agg [.pl (.int .i64), .rows false [.int .i64, .int .i64]]] [.one (.rows true [.str])] ([]) rRecordTree = true := by decide +kernel
set_option maxHeartbeats 1000000 in
theorem rRecord_pure : PureE true Tryd.prog 38 [.agg [.pl (.int .i64), .rows false [.int .i64, .int .i64]]] [.one (.rows true [.str])] (lenP [(1, 1000000)]) rRecordF := by
  refine pure_tree (X := ⟨Tryd.prog, rRecordSm, rRecordLa, true⟩) (by decide +kernel) (Checked.mixed Tryd.checked) rRecordS (by decide +kernel) (by decide +kernel) rRecordT (by decide +kernel) ?_
  intro ds hl hp
  obtain ⟨d0, d1, rfl⟩ := len2 hl
  have b1 : (d1.l.length : Int) ≤ 1000000 := hp (1, 1000000) (by simp)
  have hF : rRecordF [d0, d1] = rRecordE d0.i (d1.l.map decii) := rfl
  rw [hF]
  clear hF hp hl
  have hN : nrmL (clsOf [.agg [.pl (.int .i64), .rows false [.int .i64, .int .i64]]]) [d0, d1] = [.int d0.i, .list ((d1.l.map decii).map encii)] := by
    simp only [clsOf, Sh.cls, List.append_nil, nrmL, Cl.nrm, CK.nrm, map_Lii]
  rw [hN]
  clear hN
  generalize d0.i = x0
  rw [← List.length_map (f := decii)] at b1
  generalize d1.l.map decii = x1 at b1 ⊢
  refine ⟨facts_nil _, ?_⟩
  unfold rRecordTree rRecordE
  simp only [Sat, clsOf, Sh.cls, List.append_nil, List.cons_append, List.nil_append, nrmL, Cl.nrm, List.map_cons, List.map_nil, List.length_cons, List.length_nil, List.cons.injEq, DV.list.injEq, and_true, true_and]
  simp only [q_le, q_eq, q_not, iff_true, iff_false, Bool.not_true, Bool.not_false, Bool.false_eq_true, eq_self]
  simp only [SE.den, evU, ev_add, ev_sub, ev_mul, ev_tdiv, ev_tmod, ev_cat, ev_idx, ev_cons, ev_snoc, ev_app, ev_stake, ev_sdrop, i_int, b_bool, s_str, l_list, envL, List.getElem?_cons_succ, List.getElem?_cons_zero, Option.getD_some, Int.toNat_zero, Int.reduceToNat, List.length_map, rows_s, Int.zero_add, rRecordPhi, rValidF, rValidE, r3NumsF, r3NumsE, rSum23F, rSum23E, gi, gs, gLi, gLii, deces_ii]
  refine ⟨by omega, fun h => ?_, fun hv => ?_⟩
  · unfold record3
    rw [if_neg (by simp [h])]
    rfl
  · obtain ⟨_, v1, v2, v3⟩ := validM_iff.1 hv
    refine rounds_at x1.length (fun i => [.list ((x0 :: flatW (x1.take i)).map .int), .int i]) rfl (fun _ => rfl) (fun i hi => ?_) ?_
    · have e1 : ¬ (x1.length : Int) ≤ i := by omega
      have hwi : IntKind.i64.wrap ((i : Int) + 1) = ((i + 1 : Nat) : Int) := by rw [w64 (by omega) (by omega)]; omega
      have hl : (flatW (x1.take i)).length = 2 * i := by rw [flatW_len, List.length_take]; omega
      rw [flatW_snoc _ _ hi]
      simp only [i_int, l_list, List.getElem?_cons_succ, List.getElem?_cons_zero, Option.getD_some, Int.toNat_natCast, List.length_map, and_true, eq_self, not_false_eq_true, DV.list.injEq, List.cons.injEq, e1, hwi, raw_ii_0, raw_ii_1, List.length_cons, hl]
      refine ⟨fun _ => ⟨by omega, by omega, ?_⟩, fun h => h.elim⟩
      simp
    · rw [List.take_length]
      generalize hL : x0 :: flatW x1 = L
      have hLl : L.length ≤ 65 := by rw [← hL, List.length_cons, flatW_len]; omega
      have hn := nums3_len L
      obtain ⟨B, hB⟩ : ∃ B, B = padM (strN (nums3 L)) := ⟨_, rfl⟩
      have hBl : B.length = ((nums3 L).length + 26) / 27 * 27 := by rw [hB, pad_len, strN_len]
      have hR : record3 x0 x1 = sectsM (B.length / 27) B := by
        unfold record3
        rw [if_pos hv, hL, ← hB]
      obtain ⟨M, hMe⟩ : ∃ M, M = ((nums3 L).length + 26) / 27 := ⟨_, rfl⟩
      have hBM : B.length / 27 = M := by omega
      rw [hBM] at hR
      obtain ⟨N, hN⟩ : ∃ N, N = strN (nums3 L) := ⟨_, rfl⟩
      have hNl : N.length = (nums3 L).length := by rw [hN, strN_len]
      simp only [i_int, l_list, List.getElem?_cons_succ, List.getElem?_cons_zero, Option.getD_some, List.length_map, dece_i, dece_i, str8_Li, hR]
      refine ⟨fun h => absurd (Int.le_refl _) h, fun _ => ⟨by omega, ?_⟩⟩
      rw [← hN]
      rw [← hN] at hB
      refine ⟨rfl, ?_⟩
      have hBe : B = N ++ List.replicate (27 * M - N.length) 0 := by rw [hB]; unfold padM; congr 2; omega
      refine rounds_inv (fun y => ∃ k : Nat, y = [.str (N ++ List.replicate k 0)] ∧ k ≤ 27 * M - N.length) (fun y => 27 * M - ((y[0]?).getD (DV.int 0)).s.length) ⟨0, by rw [List.replicate_zero, List.append_nil], Nat.zero_le _⟩ ?_
      rintro y ⟨k, rfl, hk⟩
      have hlen : ((N ++ List.replicate k 0).length : Int) = N.length + k := by simp
      simp only [s_str, List.getElem?_cons_succ, List.getElem?_cons_zero, Option.getD_some, List.cons_append, List.nil_append, hlen]
      have htm : ((N.length : Int) + k).tmod 27 = ((N.length + k) % 27 : Nat) := by rw [Int.tmod_eq_emod_of_nonneg (by omega)]; omega
      rw [htm]
      by_cases hk2 : (N.length + k) % 27 = 0
      · left
        have hkk : k = 27 * M - N.length := by omega
        rw [hkk, ← hBe] at hlen ⊢
        have h0 : (((N.length + (27 * M - N.length)) % 27 : Nat) : Int) = 0 := by omega
        refine ⟨fun h => absurd h0 h, fun _ => ⟨rfl, ?_⟩⟩
        have hdiv : IntKind.i64.wrap ((B.length : Int).tdiv 27) = M := by
          have : (B.length : Int).tdiv 27 = M := by rw [Int.tdiv_eq_ediv_of_nonneg (by omega)]; omega
          rw [this, w64 (by omega) (by omega)]
        have hdiv2 : IntKind.i64.wrap (((N.length : Int) + ((27 * M - N.length : Nat) : Int)).tdiv 27) = M := by
          rw [← hlen]; exact hdiv
        refine rounds_at M (fun i => [.list (((sectsM M B).take i).map .str), .int i]) rfl (fun _ => rfl) (fun i hi => ?_) ?_
        · have e1 : ¬ (M : Int) ≤ i := by omega
          have hwi : IntKind.i64.wrap ((i : Int) + 1) = ((i + 1 : Nat) : Int) := by rw [w64 (by omega) (by omega)]; omega
          have hw3 : IntKind.i64.wrap (27 * (i : Int)) = ((27 * i : Nat) : Int) := by rw [w64 (by omega) (by omega)]; omega
          have hw2 : IntKind.i64.wrap (((27 * i : Nat) : Int) + 27) = ((27 * (i + 1) : Nat) : Int) := by rw [w64 (by omega) (by omega)]; omega
          have hw4 : IntKind.i64.wrap (IntKind.i64.wrap ((M : Int) - 1) - i) = ((M - 1 - i : Nat) : Int) := by rw [w64 (n := (M : Int) - 1) (by omega) (by omega), w64 (by omega) (by omega)]; omega
          have hc : List.drop (27 * i) (List.take (27 * (i + 1)) B) = List.take 27 (List.drop (27 * i) B) := by rw [List.drop_take]; congr 1; omega
          have hcl : (List.take 27 (List.drop (27 * i) B)).length = 27 := by rw [List.length_take, List.length_drop]; omega
          have ht : (sectsM M B).take (i + 1) = (sectsM M B).take i ++ [sectorM ((M - 1 - i : Nat) : Int) (List.take 27 (List.drop (27 * i) B))] := by
            rw [List.take_add_one, ← sects_at M B i hi, List.getElem?_eq_getElem (by rw [sects_len]; exact hi)]; rfl
          have htl : ((sectsM M B).take i).length = i := by rw [List.length_take, sects_len]; omega
          rw [ht]
          simp only [i_int, l_list, List.getElem?_cons_succ, List.getElem?_cons_zero, Option.getD_some, Int.toNat_natCast, List.length_map, inj_Ls, and_true, eq_self, not_false_eq_true, DV.list.injEq, List.cons.injEq, e1, hwi, hw2, hw3, hw4, hdiv2, Int.toNat_natCast, hc, hcl, htl, snoc_Ls, head_ops]
          generalize hS : List.take 27 (List.drop (27 * i) B) = C at hcl
          obtain ⟨s0, s1⟩ := sumM_rge (headS ((M - 1 - i : Nat) : Int) C)
          rw [le4_ops _ s0 s1]
          have hhl : (headS ((M - 1 - i : Nat) : Int) C).length = 28 := by unfold headS; rw [List.length_cons, hcl]
          refine ⟨fun _ => ⟨by omega, by omega, by omega, by omega, by omega, by omega, by omega, ?_⟩, fun h => h⟩
          rfl
        · have : List.take M (sectsM M B) = sectsM M B := List.take_of_length_le (by rw [sects_len]; omega)
          rw [this]
          simp only [i_int, l_list, List.getElem?_cons_succ, List.getElem?_cons_zero, Option.getD_some, List.length_map, rows_s, eq_self, hdiv2]
          exact ⟨fun h => absurd (Int.le_refl _) h, fun _ => True.intro⟩
      · right
        have h0 : ¬ (((N.length + k) % 27 : Nat) : Int) = 0 := by omega
        refine ⟨[.str (N ++ List.replicate (k + 1) 0)], ⟨fun _ => ⟨by omega, ?_⟩, fun h => absurd h h0⟩, rfl, ⟨k + 1, rfl, by omega⟩, ?_⟩
        · rw [List.replicate_succ', ← List.append_assoc]
        · simp only [s_str, List.getElem?_cons_zero, Option.getD_some, List.length_replicate, List.length_append, List.length_replicate]; omega
end Go.Proofs.YtkfjgggiopegbaaDoor
end
section
namespace Go.Proofs.YtkfjgggiopegbaaDoor
set_option linter.unusedVariables false
set_option linter.unusedSimpArgs false
set_option maxRecDepth 100000
def recAM (at' : Int) (r : List (List UInt8)) (n : Nat) : List Tiiiis := (List.range n).map fun i : Nat => (5, IntKind.i64.wrap (at' + i), 0, 0, r[i]?.getD [])
theorem recA_len (at' : Int) (r : List (List UInt8)) (n : Nat) : (recAM at' r n).length = n := by simp [recAM]
theorem recA_succ (at' : Int) (r : List (List UInt8)) (n : Nat) : recAM at' r (n + 1) = recAM at' r n ++ [(5, IntKind.i64.wrap (at' + n), 0, 0, r[n]?.getD [])] := by
  unfold recAM
  rw [List.range_succ, List.map_append]
  rfl
theorem record3_le (v : Int) (w : List Tii) : (record3 v w).length ≤ 1000 := by
  unfold record3
  split
  · rename_i hv
    obtain ⟨_, v1, v2, v3⟩ := validM_iff.1 hv
    have hl : (v :: flatW w).length ≤ 65 := by rw [List.length_cons, flatW_len]; omega
    have hn := nums3_len (v :: flatW w)
    rw [sects_len, pad_len, strN_len]
    omega
  · simp
theorem raw_str {l : List (List UInt8)} {j : Nat} (h : j < l.length) : ((l.map DV.str)[j]?).getD (DV.int 0) = .str ((l[j]?).getD []) := by rw [List.getElem?_map, List.getElem?_eq_getElem h]; rfl
def accsM (v : Int) (w : List Tii) (at' : Int) : List Tiiiis := recAM at' (record3 v w) (record3 v w).length ++ [(6, 0, 0, 0, [])]
def lRecE (v : Int) (w : List Tii) (at' : Int) : List DV := [.list ((accsM v w at').map enciiiis)]
def lRecF (ds : List DV) : List DV := lRecE (gi ds 0) (gLii ds 1) (gi ds 2)
def lRecTree : PT :=
(.asrt (.bin .le (.un .len (.var 1)) (.int 1000000))
 (.loop 3 [.nil, (.int 0)]
  (.br (.un .not (.bin .le (.un .len (.bin .idx (.fn 119 (.bin .cons (.var 0) (.bin .cons (.var 1) .nil))) (.int 0))) (.var 4)))
   (.asrt (.bin .le (.int 0) (.var 4))
    (.asrt (.bin .le (.bin .add (.un .len (.var 3)) (.int 1)) (.int 4294967296))
     (.leaf [(.bin .snoc (.var 3) (.bin .cons (.int 5) (.bin .cons (.un (.wrap .i64) (.bin .add (.var 2) (.var 4))) (.bin .cons (.int 0) (.bin .cons (.int 0) (.bin .cons (.bin .idx (.bin .idx (.fn 119 (.bin .cons (.var 0) (.bin .cons (.var 1) .nil))) (.int 0)) (.bin .add (.int 0) (.var 4))) .nil)))))), (.un (.wrap .i64) (.bin .add (.var 4) (.int 1)))])))
   .fail)
  (.br (.un .not (.bin .le (.un .len (.bin .idx (.fn 119 (.bin .cons (.var 0) (.bin .cons (.var 1) .nil))) (.int 0))) (.var 4)))
   (.asrt (.bin .le (.int 0) (.var 4))
    (.asrt (.bin .le (.bin .add (.un .len (.var 3)) (.int 1)) (.int 4294967296))
     .fail))
   (.asrt (.bin .le (.bin .add (.un .len (.var 3)) (.int 1)) (.int 4294967296))
    (.leaf [(.bin .snoc (.var 3) (.bin .cons (.int 6) (.bin .cons (.int 0) (.bin .cons (.int 0) (.bin .cons (.int 0) (.bin .cons (.str []) .nil))))))])))))
def lRecSm : List (Nat × Smy) := [(38, ⟨119, [.agg [.pl (.int .i64), .rows false [.int .i64, .int .i64]]], [.one (.rows true [.str])], lenC [(1, 1000000)], none⟩)]
def lRecLa : List (LK × LA) := [(⟨31, 4, 5, 3, 1⟩, ⟨[(6, (.sl 5 5 (.int 0) (.un .len (.var 3)) none)), (7, (.int .i64 (.var 4))), (10, .any), (11, .any), (12, .any), (13, .any), (14, .any), (15, .any), (16, .any), (17, .any), (18, .any), (19, .any), (20, .any), (21, .any), (22, .any), (23, .any), (24, .any), (25, .any), (26, .any)], [(5, (.rows [.int .i64, .int .i64, .int .i64, .int .i64, .str] (.var 3)))], [], 2, 1⟩)]
def lRecPhi : Fs := ⟨fun n d => match n with
  | 119 => .list (rRecordF d.l)
  | _ => d, 147⟩
theorem lRecS : SmyOk true Tryd.prog lRecPhi lRecSm := (smy_cons (lenP [(1, 1000000)]) rRecordF rRecord_pure (len_hp [(1, 1000000)]) (fun _ => rfl) (fun _ h => by cases h) smy_nil)
theorem lRecT : treeOk ⟨Tryd.prog, lRecSm, lRecLa, true⟩ 4000 31 [.agg [.pl (.int .i64), .rows false [.int .i64, .int .i64]], .one (.pl (.int .i64))] [.one (.rows true [.int .i64, .int .i64, .int .i64, .int .i64, .str])] ([]) lRecTree = true := by decide +kernel
set_option maxHeartbeats 1000000 in
theorem lRec_pure : PureE true Tryd.prog 31 [.agg [.pl (.int .i64), .rows false [.int .i64, .int .i64]], .one (.pl (.int .i64))] [.one (.rows true [.int .i64, .int .i64, .int .i64, .int .i64, .str])] (lenP [(1, 1000000)]) lRecF := by
  refine pure_tree (X := ⟨Tryd.prog, lRecSm, lRecLa, true⟩) (by decide +kernel) (Checked.mixed Tryd.checked) lRecS (by decide +kernel) (by decide +kernel) lRecT (by decide +kernel) ?_
  intro ds hl hp
  obtain ⟨d0, d1, d2, rfl⟩ := len3 hl
  have b1 : (d1.l.length : Int) ≤ 1000000 := hp (1, 1000000) (by simp)
  have hF : lRecF [d0, d1, d2] = lRecE d0.i (d1.l.map decii) d2.i := rfl
  rw [hF]
  clear hF hp hl
  have hN : nrmL (clsOf [.agg [.pl (.int .i64), .rows false [.int .i64, .int .i64]], .one (.pl (.int .i64))]) [d0, d1, d2] = [.int d0.i, .list ((d1.l.map decii).map encii), .int d2.i] := by
    simp only [clsOf, Sh.cls, List.append_nil, List.cons_append, List.nil_append, nrmL, Cl.nrm, CK.nrm, map_Lii]
  rw [hN]
  clear hN
  generalize d0.i = x0
  rw [← List.length_map (f := decii)] at b1
  generalize d1.l.map decii = x1 at b1 ⊢
  generalize d2.i = x2
  refine ⟨facts_nil _, ?_⟩
  unfold lRecTree lRecE accsM
  simp only [Sat, clsOf, Sh.cls, List.append_nil, List.cons_append, List.nil_append, nrmL, Cl.nrm, List.map_cons, List.map_nil, List.length_cons, List.length_nil, List.cons.injEq, DV.list.injEq, and_true, true_and]
  try simp only [q_le, q_not, iff_true, iff_false, Bool.not_true, Bool.not_false, Bool.false_eq_true, eq_self]
  simp only [SE.den, evU, ev_add, ev_idx, ev_cons, ev_snoc, i_int, l_list, envL, List.getElem?_cons_succ, List.getElem?_cons_zero, Option.getD_some, Int.toNat_zero, List.length_map, Int.zero_add, rows_iiiis, rows_iiiis, rows_iiiis, rows_iiiis, rows_iiiis, lRecPhi, rRecordF, rRecordE, gi, gLii, deces_ii]
  have hr := record3_le x0 x1
  generalize record3 x0 x1 = r at *
  refine ⟨by omega, ?_⟩
  refine rounds_at r.length (fun i => [.list ((recAM x2 r i).map enciiiis), .int i]) rfl (fun _ => rfl) (fun i hi => ?_) ?_
  · have hwi : IntKind.i64.wrap ((i : Int) + 1) = ((i + 1 : Nat) : Int) := by rw [w64 (by omega) (by omega)]; omega
    simp only [i_int, l_list, List.getElem?_cons_succ, List.getElem?_cons_zero, Option.getD_some, Int.toNat_natCast, List.length_map, and_true, eq_self, DV.list.injEq, List.cons.injEq, hwi, recA_len, recA_succ]
    exact ⟨fun _ => ⟨by omega, by omega, by rw [raw_str hi, List.map_append]; rfl⟩, fun h => absurd h (by omega)⟩
  · simp only [i_int, l_list, List.getElem?_cons_succ, List.getElem?_cons_zero, Option.getD_some, List.length_map, recA_len]
    have e : List.map enciiiis (recAM x2 r r.length) ++ [DV.list [DV.int 6, DV.int 0, DV.int 0, DV.int 0, DV.str []]] = List.map enciiiis (recAM x2 r r.length ++ [(6, 0, 0, 0, [])]) := by rw [List.map_append]; rfl
    exact ⟨fun h => absurd (Int.le_refl _) h, fun _ => ⟨by omega, by rw [e, rows_iiiis]⟩⟩
end Go.Proofs.YtkfjgggiopegbaaDoor
end
section
namespace Go.Proofs.YtkfjgggiopegbaaDoor
set_option linter.unusedVariables false
set_option linter.unusedSimpArgs false
def secOkM (s : List UInt8) : Bool := decide ((s.length : Int) = 32)
def wasOkM (n : Int) (w : Tis) : Bool := decide (0 ≤ w.1 ∧ w.1 < n ∧ (w.2.length : Int) = 32)
def rightDM (sec : List (List UInt8)) (was : List Tis) : Bool := decide ((sec.length : Int) ≤ 512) && (sec.all secOkM && was.all (wasOkM sec.length))
theorem all_of {α : Type} {l : List α} {p : α → Bool} (d : α) (h : ∀ i, i < l.length → p (l[i]?.getD d) = true) : l.all p = true := by
  rw [List.all_eq_true]
  intro x hx
  obtain ⟨i, hi, rfl⟩ := List.getElem_of_mem hx
  have := h i hi
  rw [List.getElem?_eq_getElem hi] at this
  exact this
theorem not_all {α : Type} {l : List α} {p : α → Bool} (d : α) {i : Nat} (hi : i < l.length) (h : p (l[i]?.getD d) = false) : l.all p = false := by
  rw [List.getElem?_eq_getElem hi] at h
  rw [List.all_eq_false]
  exact ⟨l[i], List.getElem_mem hi, by rw [show p l[i] = false from h]; simp⟩
end Go.Proofs.YtkfjgggiopegbaaDoor
end
section
namespace Go.Proofs.YtkfjgggiopegbaaDoor
set_option linter.unusedVariables false
set_option linter.unusedSimpArgs false
set_option maxRecDepth 100000
def rDRightE (sec : List (List UInt8)) (was : List Tis) : List DV := [.bool (rightDM sec was)]
def rDRightF (ds : List DV) : List DV := rDRightE (gLs ds 0) (gLis ds 1)
def rDRightTree : PT :=
(.br (.un .not (.bin .le (.un .len (.var 0)) (.int 512)))
 (.leaf [(.bool false)])
 (.loop 2 [(.int 0)]
  (.br (.un .not (.bin .le (.un .len (.var 0)) (.var 2)))
   (.asrt (.bin .le (.int 0) (.var 2))
    (.br (.un .not (.bin .eq (.un .slen (.bin .idx (.var 0) (.bin .add (.int 0) (.var 2)))) (.int 32)))
     .fail
     (.leaf [(.un (.wrap .i64) (.bin .add (.var 2) (.int 1)))])))
   .fail)
  (.br (.un .not (.bin .le (.un .len (.var 0)) (.var 2)))
   (.asrt (.bin .le (.int 0) (.var 2))
    (.br (.un .not (.bin .eq (.un .slen (.bin .idx (.var 0) (.bin .add (.int 0) (.var 2)))) (.int 32)))
     (.leaf [(.bool false)])
     .fail))
   (.loop 3 [(.int 0)]
    (.br (.un .not (.bin .le (.un .len (.var 1)) (.var 3)))
     (.asrt (.bin .le (.int 0) (.var 3))
      (.br (.un .not (.bin .le (.int 0) (.bin .idx (.bin .idx (.var 1) (.bin .add (.int 0) (.var 3))) (.int 0))))
       .fail
       (.br (.bin .le (.un .len (.var 0)) (.bin .idx (.bin .idx (.var 1) (.bin .add (.int 0) (.var 3))) (.int 0)))
        .fail
        (.br (.un .not (.bin .eq (.un .slen (.bin .idx (.bin .idx (.var 1) (.bin .add (.int 0) (.var 3))) (.int 1))) (.int 32)))
         .fail
         (.leaf [(.un (.wrap .i64) (.bin .add (.var 3) (.int 1)))])))))
     .fail)
    (.br (.un .not (.bin .le (.un .len (.var 1)) (.var 3)))
     (.asrt (.bin .le (.int 0) (.var 3))
      (.br (.un .not (.bin .le (.int 0) (.bin .idx (.bin .idx (.var 1) (.bin .add (.int 0) (.var 3))) (.int 0))))
       (.leaf [(.bool false)])
       (.br (.bin .le (.un .len (.var 0)) (.bin .idx (.bin .idx (.var 1) (.bin .add (.int 0) (.var 3))) (.int 0)))
        (.leaf [(.bool false)])
        (.br (.un .not (.bin .eq (.un .slen (.bin .idx (.bin .idx (.var 1) (.bin .add (.int 0) (.var 3))) (.int 1))) (.int 32)))
         (.leaf [(.bool false)])
         .fail))))
     (.leaf [(.bool true)]))))))
def rDRightSm : List (Nat × Smy) := []
def rDRightLa : List (LK × LA) := [(⟨59, 9, 3, 3, 2⟩, ⟨[(4, (.int .i64 (.var 3))), (23, .any), (24, .any), (25, .any), (26, .any), (27, .any), (28, .any), (29, .any), (30, .any), (31, .any), (32, .any), (33, .any), (34, .any), (35, .any), (36, .any), (37, .any), (38, .any), (39, .any), (40, .any), (41, .any), (42, .any), (43, .any), (44, .any), (45, .any), (46, .any), (47, .any), (48, .any), (49, .any), (50, .any), (51, .any), (52, .any), (53, .any), (54, .any), (55, .any), (56, .any), (57, .any), (58, .any)], [], [], 1, 0⟩),
  (⟨59, 4, 3, 2, 1⟩, ⟨[(3, (.int .i64 (.var 2))), (9, .any), (10, .any), (11, .any), (12, .any), (13, .any), (14, .any), (15, .any), (16, .any), (17, .any), (18, .any), (19, .any), (20, .any), (21, .any), (22, .any)], [], [], 1, 0⟩)]
def rDRightPhi : Fs := ⟨fun n d => match n with
  | _ => d, 147⟩
theorem rDRightS : SmyOk true Tryd.prog rDRightPhi rDRightSm := smy_nil
theorem rDRightT : treeOk ⟨Tryd.prog, rDRightSm, rDRightLa, true⟩ 4000 22 [.agg [.rows false [.str], .rows false [.int .i64, .str]]] [.one (.pl .bool)] ([]) rDRightTree = true := by decide +kernel
set_option maxHeartbeats 1000000 in
theorem rDRight_pure : PureE true Tryd.prog 22 [.agg [.rows false [.str], .rows false [.int .i64, .str]]] [.one (.pl .bool)] (lenP [(0, 1000000), (1, 1000000)]) rDRightF := by
  refine pure_tree (X := ⟨Tryd.prog, rDRightSm, rDRightLa, true⟩) (by decide +kernel) (Checked.mixed Tryd.checked) rDRightS (by decide +kernel) (by decide +kernel) rDRightT (by decide +kernel) ?_
  intro ds hl hp
  obtain ⟨d0, d1, rfl⟩ := len2 hl
  have b0 : (d0.l.length : Int) ≤ 1000000 := hp (0, 1000000) (by simp)
  have b1 : (d1.l.length : Int) ≤ 1000000 := hp (1, 1000000) (by simp)
  have hF : rDRightF [d0, d1] = rDRightE (d0.l.map DV.s) (d1.l.map decis) := rfl
  rw [hF]
  clear hF hp hl
  have hN : nrmL (clsOf [.agg [.rows false [.str], .rows false [.int .i64, .str]]]) [d0, d1] = [.list ((d0.l.map DV.s).map DV.str), .list ((d1.l.map decis).map encis)] := by
    simp only [clsOf, Sh.cls, List.append_nil, nrmL, Cl.nrm, map_Lis, map_Ls]
  rw [hN]
  clear hN
  rw [← List.length_map (f := DV.s)] at b0
  generalize d0.l.map DV.s = x0 at b0 ⊢
  rw [← List.length_map (f := decis)] at b1
  generalize d1.l.map decis = x1 at b1 ⊢
  refine ⟨facts_nil _, ?_⟩
  unfold rDRightTree rDRightE
  simp only [Sat, clsOf, Sh.cls, List.append_nil, List.cons_append, List.nil_append, nrmL, Cl.nrm, CK.nrm, List.map_cons, List.map_nil, List.length_cons, List.length_nil, List.cons.injEq, DV.bool.injEq, and_true, true_and]
  try simp only [q_le, q_eq, q_not, q_bool, iff_true, iff_false, Bool.not_true, Bool.not_false, Bool.false_eq_true, eq_self]
  simp only [SE.den, evU, ev_add, ev_idx, i_int, b_bool, l_list, envL, List.getElem?_cons_succ, List.getElem?_cons_zero, Option.getD_some, Int.toNat_zero, Int.reduceToNat, List.length_map, get_Ls, Int.zero_add, f_is_0, f_is_1]
  refine ⟨fun h => by unfold rightDM; rw [decide_eq_false (by omega)]; rfl, fun h512 => ?_⟩
  have hd : rightDM x0 x1 = (x0.all secOkM && x1.all (wasOkM x0.length)) := by unfold rightDM; rw [decide_eq_true h512]; rfl
  rw [hd]
  refine rounds_find x0.length (fun i => [DV.int i]) (fun i => ¬ ((x0[i]?.getD []).length : Int) = 32) rfl (fun _ => rfl) (fun i hi hs hj => ?_) (fun i hi hs hj => ?_) (fun hj => ?_)
  · have h1 : ¬ (x0.length : Int) ≤ i := by omega
    have hs : ((x0[i]?.getD []).length : Int) = 32 := Classical.not_not.1 hs
    simp only [i_int, List.getElem?_cons_zero, Option.getD_some, Int.toNat_natCast, and_true, eq_self, not_true_eq_false, not_false_eq_true, DV.int.injEq, List.cons.injEq, h1, hs, w64 (n := (i : Int) + 1) (by omega) (by omega)]
    simp
  · have h1 : ¬ (x0.length : Int) ≤ i := by omega
    have ha : x0.all secOkM = false := not_all [] hi (decide_eq_false hs)
    simp only [i_int, List.getElem?_cons_zero, Option.getD_some, Int.toNat_natCast, not_false_eq_true, h1, hs, ha]
    simp
  · have ha : x0.all secOkM = true := all_of [] fun i hi => decide_eq_true (Classical.not_not.1 (hj i hi))
    simp only [i_int, List.getElem?_cons_zero, Option.getD_some, Int.toNat_natCast, ha]
    refine ⟨fun h => absurd (Int.le_refl _) h, fun _ => ⟨rfl, ?_⟩⟩
    refine rounds_find x1.length (fun i => [DV.int i]) (fun i => wasOkM x0.length (x1[i]?.getD dis) = false) rfl (fun _ => rfl) (fun i hi hs hj => ?_) (fun i hi hs hj => ?_) (fun hj => ?_)
    · have h1 : ¬ (x1.length : Int) ≤ i := by omega
      have hs : wasOkM x0.length (x1[i]?.getD dis) = true := by simpa using hs
      have hs := of_decide_eq_true hs
      simp only [i_int, List.getElem?_cons_succ, List.getElem?_cons_zero, Option.getD_some, Int.toNat_natCast, and_true, eq_self, not_false_eq_true, DV.int.injEq, List.cons.injEq, List.cons_append, List.nil_append, h1, w64 (n := (i : Int) + 1) (by omega) (by omega)]
      grind
    · have h1 : ¬ (x1.length : Int) ≤ i := by omega
      have hb : x1.all (wasOkM x0.length) = false := not_all dis hi hs
      have hs := of_decide_eq_false hs
      simp only [i_int, List.getElem?_cons_succ, List.getElem?_cons_zero, Option.getD_some, Int.toNat_natCast, not_false_eq_true, List.cons_append, List.nil_append, h1, hb]
      grind
    · have hb : x1.all (wasOkM x0.length) = true := all_of dis fun i hi => by simpa using hj i hi
      simp only [i_int, List.getElem?_cons_succ, List.getElem?_cons_zero, Option.getD_some, Int.toNat_natCast, List.cons_append, List.nil_append, hb]
      simp
end Go.Proofs.YtkfjgggiopegbaaDoor
end
section
set_option linter.unusedSimpArgs false
namespace Go.Proofs.YtkfjgggiopegbaaDoor
def rightC (sym a b : Nat) (es : List SE) : SE := .bin .idx (.fn sym (lstE [es.getD a .nil, es.getD b .nil])) (.int 0)
theorem right_hp {φ : Fs} {pre : List DV → Prop} {cpre : List SE → List SE} (sym a b : Nat) (h0 : ∀ (ρ : Env) (es : List SE), ρ.f = φ → (∀ c ∈ cpre es, (c.den ρ).b = true) → pre (es.map (·.den ρ))) (hφ : ∀ ds, (φ.f sym (.list ds)).l = rDRightF ds) :
    ∀ (ρ : Env) (es : List SE), ρ.f = φ → (∀ c ∈ cpre es ++ [rightC sym a b es], (c.den ρ).b = true) → pre (es.map (·.den ρ)) ∧ rightDM (gLs (es.map (·.den ρ)) a) (gLis (es.map (·.den ρ)) b) = true := by
  intro ρ es hρ h
  refine ⟨h0 ρ es hρ fun c hc => h c (List.mem_append_left _ hc), ?_⟩
  have hc := h (rightC sym a b es) (by simp)
  have e : ((rightC sym a b es).den ρ).b = rightDM (((es.getD a .nil).den ρ).l.map DV.s) (((es.getD b .nil).den ρ).l.map decis) := by
    show (((ρ.f.f sym ((lstE [es.getD a .nil, es.getD b .nil]).den ρ)).l[(0 : Int).toNat]?).getD (.int 0)).b = _
    rw [lst_den, hρ, hφ]
    rfl
  rw [e] at hc
  have g : ∀ n : Nat, ((es.map (fun e : SE => e.den ρ))[n]?.getD (DV.int 0)).l = ((es.getD n SE.nil).den ρ).l := fun n => by
    rw [List.getElem?_map, List.getD_eq_getElem?_getD]
    cases es[n]? <;> rfl
  unfold gLs gLis
  rw [g, g]
  exact hc
end Go.Proofs.YtkfjgggiopegbaaDoor
end
section
namespace Go.Proofs.YtkfjgggiopegbaaDoor
set_option linter.unusedVariables false
set_option linter.unusedSimpArgs false
set_option maxRecDepth 100000
def syncedM (sec : List (List UInt8)) (was : List Tis) (j : Nat) (at' : Int) : List UInt8 := match (was.drop j).find? (fun w => decide (w.1 = at')) with | some w => w.2 | none => sec[at'.toNat]?.getD []
def allSyncedM (sec : List (List UInt8)) (was : List Tis) (j : Nat) : List (List UInt8) := (List.range sec.length).map fun a : Nat => syncedM sec was j a
def putsM (sec : List (List UInt8)) (was : List Tis) (j : Nat) : List (List UInt8) := (List.range was.length).map fun i => if j ≤ i then syncedM sec was (i + 1) (was[i]?.getD dis).1 else []
theorem synced_step {sec : List (List UInt8)} {was : List Tis} {j : Nat} (hj : j < was.length) (a : Int) : syncedM sec was j a = if (was[j]?.getD dis).1 = a then (was[j]?.getD dis).2 else syncedM sec was (j + 1) a := by
  have e : was[j]?.getD dis = was[j] := by rw [List.getElem?_eq_getElem hj]; rfl
  unfold syncedM
  rw [e, List.drop_eq_getElem_cons hj, List.find?_cons]
  by_cases h : was[j].1 = a
  · simp [h]
  · simp [h]
theorem synced_end (sec : List (List UInt8)) (was : List Tis) (a : Int) : syncedM sec was was.length a = sec[a.toNat]?.getD [] := by
  unfold syncedM
  rw [List.drop_length]
  rfl
theorem allSynced_len (sec : List (List UInt8)) (was : List Tis) (j : Nat) : (allSyncedM sec was j).length = sec.length := by simp [allSyncedM]
theorem allSynced_get {sec : List (List UInt8)} {was : List Tis} {j : Nat} {a : Nat} (h : a < sec.length) : (allSyncedM sec was j)[a]?.getD [] = syncedM sec was j a := by simp [allSyncedM, h]
theorem allSynced_end (sec : List (List UInt8)) (was : List Tis) : allSyncedM sec was was.length = sec := by
  apply List.ext_getElem?
  intro i
  by_cases hi : i < sec.length
  · simp [allSyncedM, hi, synced_end]
  · rw [List.getElem?_eq_none (by rw [allSynced_len]; omega), List.getElem?_eq_none (by omega)]
theorem allSynced_step {sec : List (List UInt8)} {was : List Tis} {j : Nat} (hj : j < was.length) (h0 : 0 ≤ (was[j]?.getD dis).1) (h1 : (was[j]?.getD dis).1 < sec.length) :
    (allSyncedM sec was (j + 1)).set (was[j]?.getD dis).1.toNat (was[j]?.getD dis).2 = allSyncedM sec was j := by
  apply List.ext_getElem?
  intro i
  by_cases hi : i < sec.length
  · have e : (allSyncedM sec was j)[i]? = some (syncedM sec was j i) := by simp [allSyncedM, hi]
    have e' : (allSyncedM sec was (j + 1))[i]? = some (syncedM sec was (j + 1) i) := by simp [allSyncedM, hi]
    rw [e, synced_step hj]
    by_cases hw : (was[j]?.getD dis).1 = (i : Int)
    · have : (was[j]?.getD dis).1.toNat = i := by omega
      rw [this, List.getElem?_set_self (by rw [allSynced_len]; exact hi), if_pos hw]
    · rw [List.getElem?_set_ne (by omega), e', if_neg hw]
  · rw [List.getElem?_eq_none (by rw [List.length_set, allSynced_len]; omega), List.getElem?_eq_none (by rw [allSynced_len]; omega)]
theorem puts_len (sec : List (List UInt8)) (was : List Tis) (j : Nat) : (putsM sec was j).length = was.length := by simp [putsM]
theorem puts_end (sec : List (List UInt8)) (was : List Tis) : putsM sec was was.length = List.replicate was.length [] := by
  apply List.ext_getElem?
  intro i
  by_cases hi : i < was.length
  · simp [putsM, hi]; omega
  · rw [List.getElem?_eq_none (by rw [puts_len]; omega), List.getElem?_eq_none (by simp; omega)]
theorem puts_step {sec : List (List UInt8)} {was : List Tis} {j : Nat} (hj : j < was.length) : (putsM sec was (j + 1)).set j (syncedM sec was (j + 1) (was[j]?.getD dis).1) = putsM sec was j := by
  apply List.ext_getElem?
  intro i
  by_cases hi : i < was.length
  · by_cases hij : i = j
    · subst hij
      rw [List.getElem?_set_self (by rw [puts_len]; exact hi)]
      simp [putsM, hi]
    · rw [List.getElem?_set_ne (by omega)]
      simp only [putsM, List.getElem?_map, List.getElem?_range hi, Option.map_some]
      by_cases h : j ≤ i
      · rw [if_pos h, if_pos (by omega)]
      · rw [if_neg h, if_neg (by omega)]
  · rw [List.getElem?_eq_none (by rw [List.length_set, puts_len]; omega), List.getElem?_eq_none (by rw [puts_len]; omega)]
theorem right_was {sec : List (List UInt8)} {was : List Tis} (h : rightDM sec was = true) {i : Nat} (hi : i < was.length) : 0 ≤ (was[i]?.getD dis).1 ∧ (was[i]?.getD dis).1 < sec.length ∧ ((was[i]?.getD dis).2.length : Int) = 32 := by
  unfold rightDM at h
  simp only [Bool.and_eq_true] at h
  have := List.all_eq_true.1 h.2.2 (was[i]) (List.getElem_mem hi)
  rw [List.getElem?_eq_getElem hi]
  exact of_decide_eq_true this
theorem right_sec {sec : List (List UInt8)} {was : List Tis} (h : rightDM sec was = true) {i : Nat} (hi : i < sec.length) : ((sec[i]?.getD []).length : Int) = 32 := by
  unfold rightDM at h
  simp only [Bool.and_eq_true] at h
  have := List.all_eq_true.1 h.2.1 (sec[i]) (List.getElem_mem hi)
  rw [List.getElem?_eq_getElem hi]
  exact of_decide_eq_true this
theorem raw_is_1 {l : List Tis} {j : Nat} (h : j < l.length) : (((((l.map encis)[j]?).getD (DV.int 0)).l[1]?).getD (DV.int 0)) = .str ((l[j]?).getD dis).2 := by rw [List.getElem?_map, List.getElem?_eq_getElem h]; rfl
theorem raw_s {l : List (List UInt8)} {j : Nat} (h : j < l.length) : ((l.map DV.str)[j]?).getD (DV.int 0) = .str ((l[j]?).getD []) := by rw [List.getElem?_map, List.getElem?_eq_getElem h]; rfl
def undoneE (sec : List (List UInt8)) (was : List Tis) : List DV := [.list ((allSyncedM sec was 0).map DV.str), .list ((putsM sec was 0).map DV.str)]
def undoneF (ds : List DV) : List DV := undoneE (gLs ds 0) (gLis ds 1)
def undoneTree : PT :=
(.asrt (.bin .le (.un .len (.var 0)) (.int 1000000))
 (.asrt (.bin .le (.un .len (.var 1)) (.int 1000000))
  (.loop 2 [(.var 1), (.bin .rep (.un .len (.var 1)) (.str [])), (.bin .idx (.fn 65 (.bin .cons (.var 0) .nil)) (.int 0))]
   (.br (.un .not (.bin .le (.un .len (.var 2)) (.int 0)))
    (.asrt (.bin .le (.int 0) (.un (.wrap .i64) (.bin .sub (.un .len (.var 2)) (.int 1))))
     (.asrt (.un .not (.bin .le (.un .len (.var 2)) (.un (.wrap .i64) (.bin .sub (.un .len (.var 2)) (.int 1)))))
      (.asrt (.bin .le (.int 0) (.bin .idx (.bin .idx (.var 2) (.bin .add (.int 0) (.un (.wrap .i64) (.bin .sub (.un .len (.var 2)) (.int 1))))) (.int 0)))
       (.asrt (.un .not (.bin .le (.un .len (.bin .idx (.fn 65 (.bin .cons (.var 0) .nil)) (.int 0))) (.bin .idx (.bin .idx (.var 2) (.bin .add (.int 0) (.un (.wrap .i64) (.bin .sub (.un .len (.var 2)) (.int 1))))) (.int 0))))
        (.asrt (.un .not (.bin .le (.un .len (.var 4)) (.bin .add (.int 0) (.bin .idx (.bin .idx (.var 2) (.bin .add (.int 0) (.un (.wrap .i64) (.bin .sub (.un .len (.var 2)) (.int 1))))) (.int 0)))))
         (.asrt (.un .not (.bin .le (.un .len (.var 1)) (.un (.wrap .i64) (.bin .sub (.un .len (.var 2)) (.int 1)))))
          (.asrt (.un .not (.bin .le (.un .len (.var 3)) (.bin .add (.int 0) (.un (.wrap .i64) (.bin .sub (.un .len (.var 2)) (.int 1))))))
           (.leaf [(.bin .take (.bin .drop (.var 2) (.int 0)) (.bin .sub (.un (.wrap .i64) (.bin .sub (.un .len (.var 2)) (.int 1))) (.int 0))), (.tri .set (.var 3) (.bin .add (.int 0) (.un (.wrap .i64) (.bin .sub (.un .len (.var 2)) (.int 1)))) (.bin .idx (.var 4) (.bin .add (.int 0) (.bin .idx (.bin .idx (.var 2) (.bin .add (.int 0) (.un (.wrap .i64) (.bin .sub (.un .len (.var 2)) (.int 1))))) (.int 0))))), (.tri .set (.var 4) (.bin .add (.int 0) (.bin .idx (.bin .idx (.var 2) (.bin .add (.int 0) (.un (.wrap .i64) (.bin .sub (.un .len (.var 2)) (.int 1))))) (.int 0))) (.bin .idx (.bin .idx (.var 2) (.bin .add (.int 0) (.un (.wrap .i64) (.bin .sub (.un .len (.var 2)) (.int 1))))) (.int 1)))]))))))))
    .fail)
   (.br (.un .not (.bin .le (.un .len (.var 2)) (.int 0)))
    (.asrt (.bin .le (.int 0) (.un (.wrap .i64) (.bin .sub (.un .len (.var 2)) (.int 1))))
     (.asrt (.un .not (.bin .le (.un .len (.var 2)) (.un (.wrap .i64) (.bin .sub (.un .len (.var 2)) (.int 1)))))
      (.asrt (.bin .le (.int 0) (.bin .idx (.bin .idx (.var 2) (.bin .add (.int 0) (.un (.wrap .i64) (.bin .sub (.un .len (.var 2)) (.int 1))))) (.int 0)))
       (.asrt (.un .not (.bin .le (.un .len (.bin .idx (.fn 65 (.bin .cons (.var 0) .nil)) (.int 0))) (.bin .idx (.bin .idx (.var 2) (.bin .add (.int 0) (.un (.wrap .i64) (.bin .sub (.un .len (.var 2)) (.int 1))))) (.int 0))))
        (.asrt (.un .not (.bin .le (.un .len (.var 4)) (.bin .add (.int 0) (.bin .idx (.bin .idx (.var 2) (.bin .add (.int 0) (.un (.wrap .i64) (.bin .sub (.un .len (.var 2)) (.int 1))))) (.int 0)))))
         (.asrt (.un .not (.bin .le (.un .len (.var 1)) (.un (.wrap .i64) (.bin .sub (.un .len (.var 2)) (.int 1)))))
          (.asrt (.un .not (.bin .le (.un .len (.var 3)) (.bin .add (.int 0) (.un (.wrap .i64) (.bin .sub (.un .len (.var 2)) (.int 1))))))
           .fail)))))))
    (.asrt (.bin .le (.bin .add (.int 0) (.un .len (.bin .idx (.fn 65 (.bin .cons (.var 0) .nil)) (.int 0)))) (.un .len (.var 4)))
     (.asrt (.bin .le (.bin .add (.int 0) (.un .len (.var 1))) (.un .len (.var 3)))
      (.leaf [(.bin .take (.bin .drop (.var 4) (.int 0)) (.un .len (.bin .idx (.fn 65 (.bin .cons (.var 0) .nil)) (.int 0)))), (.bin .take (.bin .drop (.var 3) (.int 0)) (.un .len (.var 1)))])))))))
def undoneSm : List (Nat × Smy) := [(22, ⟨78, [.agg [.rows false [.str], .rows false [.int .i64, .str]]], [.one (.pl .bool)], lenC [(0, 1000000), (1, 1000000)], none⟩), (94, ⟨65, [.one (.rows false [.str])], [.one (.rows true [.str])], lenC [(0, 1000000)], none⟩)]
def undoneLa : List (LK × LA) := [(⟨50, 4, 5, 2, 2⟩, ⟨[(4, (.sl 5 2 (.int 0) (.un .len (.var 2)) none)), (5, .any), (15, .any), (16, .any), (17, .any), (18, .any), (19, .any), (20, .any), (21, .any), (22, .any), (23, .any), (24, .any), (25, .any), (26, .any), (27, .any), (28, .any), (29, .any), (30, .any), (31, .any), (32, .any), (33, .any), (34, .any), (35, .any), (36, .any), (37, .any), (38, .any), (39, .any), (40, .any), (41, .any), (42, .any), (43, .any), (44, .any), (45, .any), (46, .any), (47, .any)], [(4, (.rows [.str] (.var 3))), (3, (.rows [.str] (.var 4))), (5, (.ro [.int .i64, .str] (.var 2)))], [], 3, 1⟩)]
def undonePhi : Fs := ⟨fun n d => match n with
  | 78 => .list (rDRightF d.l)
  | 65 => .list (clSF d.l)
  | _ => d, 147⟩
theorem undoneS : SmyOk true Tryd.prog undonePhi undoneSm := (smy_cons (lenP [(0, 1000000), (1, 1000000)]) rDRightF rDRight_pure (len_hp [(0, 1000000), (1, 1000000)]) (fun _ => rfl) (fun _ h => by cases h) (smy_cons (lenP [(0, 1000000)]) clSF clS_pure (len_hp [(0, 1000000)]) (fun _ => rfl) (fun _ h => by cases h) smy_nil))
theorem undoneT : treeOk ⟨Tryd.prog, undoneSm, undoneLa, true⟩ 4000 70 [.agg [.rows false [.str], .rows false [.int .i64, .str]]] [.one (.rows true [.str]), .one (.rows true [.str])] ([]) undoneTree = true := by decide +kernel
set_option maxHeartbeats 1000000 in
theorem undone_pure : PureE true Tryd.prog 70 [.agg [.rows false [.str], .rows false [.int .i64, .str]]] [.one (.rows true [.str]), .one (.rows true [.str])] (fun ds => (lenP [(0, 1000000), (1, 1000000)]) ds ∧ rightDM (gLs ds 0) (gLis ds 1) = true) undoneF := by
  refine pure_tree (X := ⟨Tryd.prog, undoneSm, undoneLa, true⟩) (by decide +kernel) (Checked.mixed Tryd.checked) undoneS (by decide +kernel) (by decide +kernel) undoneT (by decide +kernel) ?_
  intro ds hl hp
  obtain ⟨d0, d1, rfl⟩ := len2 hl
  have b0 : (d0.l.length : Int) ≤ 1000000 := hp.1 (0, 1000000) (by simp)
  have b1 : (d1.l.length : Int) ≤ 1000000 := hp.1 (1, 1000000) (by simp)
  have hx : rightDM (d0.l.map DV.s) (d1.l.map decis) = true := hp.2
  have hF : undoneF [d0, d1] = undoneE (d0.l.map DV.s) (d1.l.map decis) := rfl
  rw [hF]
  clear hF hp hl
  have hN : nrmL (clsOf [.agg [.rows false [.str], .rows false [.int .i64, .str]]]) [d0, d1] = [.list ((d0.l.map DV.s).map DV.str), .list ((d1.l.map decis).map encis)] := by
    simp only [clsOf, Sh.cls, List.append_nil, nrmL, Cl.nrm, map_Lis, map_Ls]
  rw [hN]
  clear hN
  rw [← List.length_map (f := DV.s)] at b0
  generalize d0.l.map DV.s = x0 at b0 hx ⊢
  rw [← List.length_map (f := decis)] at b1
  generalize d1.l.map decis = x1 at b1 hx ⊢
  refine ⟨facts_nil _, ?_⟩
  unfold undoneTree undoneE
  simp only [Sat, clsOf, Sh.cls, List.append_nil, List.cons_append, List.nil_append, nrmL, Cl.nrm, List.map_cons, List.map_nil, List.length_cons, List.length_nil, List.cons.injEq, DV.list.injEq, and_true, true_and]
  try simp only [q_le, q_not, iff_true, iff_false, Bool.not_true, Bool.not_false, Bool.false_eq_true, eq_self]
  simp only [SE.den, evU, evT, ev_add, ev_sub, ev_idx, ev_cons, ev_take, ev_drop, ev_rep, i_int, l_list, envL, List.getElem?_cons_succ, List.getElem?_cons_zero, Option.getD_some, Int.toNat_natCast, Int.toNat_zero, Int.reduceToNat, List.length_map, rows_s, Int.zero_add, undonePhi, rDRightF, rDRightE, clSF, clSE, gLs, dece_s, gLis]
  have hzz : List.replicate x1.length (DV.str []) = (putsM x0 x1 x1.length).map DV.str := by rw [puts_end, List.map_replicate]
  have hss : x0.map DV.str = (allSyncedM x0 x1 x1.length).map DV.str := by rw [allSynced_end]
  have h0 : [DV.list (List.map encis x1), DV.list (List.replicate x1.length (DV.str [])), DV.list (List.map DV.str x0)] = (fun i => [.list ((x1.take (x1.length - i)).map encis), .list ((putsM x0 x1 (x1.length - i)).map DV.str), .list ((allSyncedM x0 x1 (x1.length - i)).map DV.str)]) 0 := by
    simp only [Nat.sub_zero, List.take_length, ← hzz, ← hss]
  refine ⟨by omega, by omega, ?_⟩
  refine rounds_at x1.length (fun i => [.list ((x1.take (x1.length - i)).map encis), .list ((putsM x0 x1 (x1.length - i)).map DV.str), .list ((allSyncedM x0 x1 (x1.length - i)).map DV.str)]) h0 (fun _ => rfl) (fun i hi => ?_) ?_
  · obtain ⟨j, hj⟩ : ∃ j, x1.length - i = j + 1 := ⟨x1.length - i - 1, by omega⟩
    have hj2 : x1.length - (i + 1) = j := by omega
    have hjl : j < x1.length := by omega
    rw [hj, hj2]
    obtain ⟨w0, w1, w2⟩ := right_was hx hjl
    have hlen : (List.map encis (List.take (j + 1) x1)).length = j + 1 := by simp; omega
    have hw : IntKind.i64.wrap (((j + 1 : Nat) : Int) - 1) = j := by rw [w64 (by omega) (by omega)]; omega
    have ht : (List.take (j + 1) x1)[j]?.getD dis = x1[j]?.getD dis := by rw [List.getElem?_take, if_pos (by omega)]
    have hr : (((((List.take (j + 1) x1).map encis)[j]?).getD (DV.int 0)).l[1]?).getD (DV.int 0) = .str (x1[j]?.getD dis).2 := by rw [raw_is_1 (by simp; omega), ht]
    have hwn : (x1[j]?.getD dis).1.toNat < x0.length := by omega
    have hsec : ((List.map DV.str (allSyncedM x0 x1 (j + 1)))[(x1[j]?.getD dis).1.toNat]?).getD (DV.int 0) = .str (syncedM x0 x1 (j + 1) (x1[j]?.getD dis).1) := by
      rw [raw_s (by rw [allSynced_len]; exact hwn), allSynced_get hwn]
      congr 2
      omega
    have e1 : ¬ (((j + 1 : Nat) : Int) ≤ 0) := by omega
    have e2 : ¬ (((j + 1 : Nat) : Int) ≤ j) := by omega
    have e3 : ¬ ((x0.length : Int) ≤ (x1[j]?.getD dis).1) := by omega
    have e4 : ¬ ((x1.length : Int) ≤ j) := by omega
    simp only [l_list, List.getElem?_cons_succ, List.getElem?_cons_zero, Option.getD_some, Int.toNat_natCast, List.length_map, and_true, true_and, eq_self, not_false_eq_true, DV.list.injEq, List.cons.injEq, f_is_0, hlen, hw, ht, hr, hsec, e1, e2, e3, e4, w0, Int.sub_zero, List.drop_zero, allSynced_len, puts_len]
    have p1 := puts_step (sec := x0) hjl
    have p2 := allSynced_step hjl w0 w1
    have g1 : List.map DV.str (putsM x0 x1 j) = (List.map DV.str (putsM x0 x1 (j + 1))).set j (.str (syncedM x0 x1 (j + 1) (x1[j]?.getD dis).1)) := by rw [← p1, List.map_set]
    have g2 : List.map DV.str (allSyncedM x0 x1 j) = (List.map DV.str (allSyncedM x0 x1 (j + 1))).set (x1[j]?.getD dis).1.toNat (.str (x1[j]?.getD dis).2) := by rw [← p2, List.map_set]
    have g3 : List.take j (List.map encis (List.take (j + 1) x1)) = List.map encis (List.take j x1) := by rw [← List.map_take, List.take_take, Nat.min_eq_left (by omega)]
    rw [g1, g2, ← g3]
    simp
    try omega
  · simp only [l_list, List.getElem?_cons_succ, List.getElem?_cons_zero, List.getElem?_nil, Option.getD_some, Option.getD_none, List.length_map, Nat.sub_self, List.take_zero, List.map_nil, List.length_nil, allSynced_len, puts_len, List.drop_zero]
    have t1 : List.take x0.length (List.map DV.str (allSyncedM x0 x1 0)) = List.map DV.str (allSyncedM x0 x1 0) := List.take_of_length_le (by rw [List.length_map, allSynced_len]; exact Nat.le_refl _)
    have t2 : List.take x1.length (List.map DV.str (putsM x0 x1 0)) = List.map DV.str (putsM x0 x1 0) := List.take_of_length_le (by rw [List.length_map, puts_len]; exact Nat.le_refl _)
    rw [t1, t2]
    simp
    exact ⟨fun _ _ => rfl, fun _ _ => rfl⟩
end Go.Proofs.YtkfjgggiopegbaaDoor
end
section
namespace Go.Proofs.YtkfjgggiopegbaaDoor
set_option linter.unusedVariables false
set_option linter.unusedSimpArgs false
def cutC (cuts : List Int) (i : Nat) : Nat := if cuts.length ≤ i then 32 else ((cuts[i]?.getD 0) % 33).toNat
def crashM (sec : List (List UInt8)) (was : List Tis) (cuts : List Int) : Nat → List (List UInt8)
  | 0 => allSyncedM sec was 0
  | i + 1 => (crashM sec was cuts i).set (was[i]?.getD dis).1.toNat ((syncedM sec was (i + 1) (was[i]?.getD dis).1).take (cutC cuts i) ++ ((crashM sec was cuts i)[(was[i]?.getD dis).1.toNat]?.getD []).drop (cutC cuts i))
theorem crash_len (sec : List (List UInt8)) (was : List Tis) (cuts : List Int) : ∀ i, (crashM sec was cuts i).length = sec.length
  | 0 => allSynced_len _ _ _
  | i + 1 => by unfold crashM; rw [List.length_set]; exact crash_len sec was cuts i
theorem synced_len {sec : List (List UInt8)} {was : List Tis} (h : rightDM sec was = true) (j : Nat) {a : Nat} (ha : a < sec.length) : (syncedM sec was j a).length = 32 := by
  unfold syncedM
  split
  · rename_i w hw
    have hm : w ∈ was := List.mem_of_mem_drop (List.mem_of_find?_eq_some hw)
    unfold rightDM at h
    simp only [Bool.and_eq_true] at h
    have := of_decide_eq_true (List.all_eq_true.1 h.2.2 w hm)
    omega
  · have := right_sec h ha
    simp only [Int.toNat_natCast]
    omega
theorem cut_le (cuts : List Int) (i : Nat) : cutC cuts i ≤ 32 := by
  unfold cutC
  split <;> omega
theorem crash_32 {sec : List (List UInt8)} {was : List Tis} (cuts : List Int) (h : rightDM sec was = true) : ∀ i, i ≤ was.length → ∀ a, a < sec.length → ((crashM sec was cuts i)[a]?.getD []).length = 32
  | 0, _, a, ha => by
    show ((allSyncedM sec was 0)[a]?.getD []).length = 32
    rw [allSynced_get ha]
    exact synced_len h 0 ha
  | i + 1, hi, a, ha => by
    obtain ⟨w0, w1, w2⟩ := right_was h (show i < was.length by omega)
    have hwn : (was[i]?.getD dis).1.toNat < sec.length := by omega
    unfold crashM
    by_cases e : a = (was[i]?.getD dis).1.toNat
    · subst e
      rw [List.getElem?_set_self (by rw [crash_len]; exact ha)]
      have h1 := crash_32 cuts h i (by omega) _ hwn
      have h2 := synced_len h (i + 1) hwn
      rw [show (((was[i]?.getD dis).1.toNat : Nat) : Int) = (was[i]?.getD dis).1 by omega] at h2
      have h3 := cut_le cuts i
      simp only [Option.getD_some, List.length_append, List.length_take, List.length_drop, h1, h2]
      omega
    · rw [List.getElem?_set_ne (by omega)]
      exact crash_32 cuts h i (by omega) a ha
theorem cut_eq (n : Int) : (IntKind.i64.wrap (IntKind.i64.wrap (n.tmod 33 + 32) + 1)).tmod 33 = n % 33 := by
  have h : n.tmod 33 = n % 33 ∨ (n.tmod 33 < 0 ∧ n.tmod 33 + 33 = n % 33) := by
    rcases Int.lt_or_le n 0 with hn | hn
    · have e : n.tmod 33 = -((-n) % 33) := by
        conv => lhs; rw [show n = -(-n) by omega, Int.neg_tmod, Int.tmod_eq_emod_of_nonneg (by omega)]
      omega
    · left; exact Int.tmod_eq_emod_of_nonneg hn
  have h0 := Int.emod_nonneg n (show (33 : Int) ≠ 0 by omega)
  have h1 := Int.emod_lt_of_pos n (show (0 : Int) < 33 by omega)
  rcases h with h | ⟨h2, h⟩
  · rw [h, w64 (n := n % 33 + 32) (by omega) (by omega), w64 (n := n % 33 + 32 + 1) (by omega) (by omega), Int.tmod_eq_emod_of_nonneg (by omega)]
    omega
  · rw [w64 (n := n.tmod 33 + 32) (by omega) (by omega), w64 (n := n.tmod 33 + 32 + 1) (by omega) (by omega), Int.tmod_eq_emod_of_nonneg (by omega)]
    omega
theorem synced_skip {sec : List (List UInt8)} {was : List Tis} {a : Int} : ∀ (d m : Nat), m + d ≤ was.length → (∀ j, m ≤ j → j < m + d → (was[j]?.getD dis).1 ≠ a) → syncedM sec was m a = syncedM sec was (m + d) a
  | 0, m, _, _ => rfl
  | d + 1, m, h, hj => by
    rw [synced_step (show m < was.length by omega), if_neg (hj m (Nat.le_refl _) (by omega)), synced_skip d (m + 1) (by omega) (fun j h1 h2 => hj j (by omega) (by omega))]
    congr 1
    omega
theorem synced_find {sec : List (List UInt8)} {was : List Tis} {a : Int} (m k : Nat) (hmk : m ≤ k) (hk : k < was.length) (hj : ∀ j, m ≤ j → j < k → (was[j]?.getD dis).1 ≠ a) (ha : (was[k]?.getD dis).1 = a) : syncedM sec was m a = (was[k]?.getD dis).2 := by
  rw [synced_skip (k - m) m (by omega) (fun j h1 h2 => hj j h1 (by omega)), show m + (k - m) = k by omega, synced_step hk, if_pos ha]
theorem synced_none {sec : List (List UInt8)} {was : List Tis} {a : Int} (m : Nat) (hm : m ≤ was.length) (hj : ∀ j, m ≤ j → j < was.length → (was[j]?.getD dis).1 ≠ a) : syncedM sec was m a = sec[a.toNat]?.getD [] := by
  rw [synced_skip (was.length - m) m (by omega) (fun j h1 h2 => hj j h1 (by omega)), show m + (was.length - m) = was.length by omega, synced_end]
end Go.Proofs.YtkfjgggiopegbaaDoor
end
section
namespace Go.Proofs.YtkfjgggiopegbaaDoor
set_option linter.unusedVariables false
set_option linter.unusedSimpArgs false
set_option maxRecDepth 100000
def dCrashE (sec : List (List UInt8)) (was : List Tis) (cuts : List Int) : List DV := [.list ((crashM sec was cuts was.length).map DV.str), .list []]
def dCrashF (ds : List DV) : List DV := dCrashE (gLs ds 0) (gLis ds 1) (gLi ds 2)
def dCrashTree : PT :=
(.asrt (.bin .le (.un .len (.var 0)) (.int 1000000))
 (.asrt (.bin .le (.un .len (.var 1)) (.int 1000000))
  (.asrt (.bin .idx (.fn 78 (.bin .cons (.var 0) (.bin .cons (.var 1) .nil))) (.int 0))
   (.loop 3 [(.int 0), (.bin .idx (.fn 83 (.bin .cons (.var 0) (.bin .cons (.var 1) .nil))) (.int 0))]
    (.br (.un .not (.bin .le (.un .len (.var 1)) (.var 3)))
     (.asrt (.bin .le (.int 0) (.var 3))
      (.br (.bin .le (.un .len (.var 2)) (.var 3))
       (.asrt (.un .not (.bin .le (.un .len (.bin .idx (.fn 83 (.bin .cons (.var 0) (.bin .cons (.var 1) .nil))) (.int 1))) (.var 3)))
        (.asrt (.bin .le (.int 32) (.un .slen (.bin .idx (.bin .idx (.fn 83 (.bin .cons (.var 0) (.bin .cons (.var 1) .nil))) (.int 1)) (.bin .add (.int 0) (.var 3)))))
         (.asrt (.bin .le (.int 0) (.bin .idx (.bin .idx (.var 1) (.bin .add (.int 0) (.var 3))) (.int 0)))
          (.asrt (.un .not (.bin .le (.un .len (.bin .idx (.fn 83 (.bin .cons (.var 0) (.bin .cons (.var 1) .nil))) (.int 0))) (.bin .idx (.bin .idx (.var 1) (.bin .add (.int 0) (.var 3))) (.int 0))))
           (.asrt (.un .not (.bin .le (.un .len (.var 4)) (.bin .add (.int 0) (.bin .idx (.bin .idx (.var 1) (.bin .add (.int 0) (.var 3))) (.int 0)))))
            (.asrt (.bin .le (.int 32) (.un .slen (.bin .idx (.var 4) (.bin .add (.int 0) (.bin .idx (.bin .idx (.var 1) (.bin .add (.int 0) (.var 3))) (.int 0))))))
             (.asrt (.bin .le (.bin .add (.un .slen (.bin .sdrop (.bin .stake (.bin .idx (.bin .idx (.fn 83 (.bin .cons (.var 0) (.bin .cons (.var 1) .nil))) (.int 1)) (.bin .add (.int 0) (.var 3))) (.int 32)) (.int 0))) (.un .slen (.bin .sdrop (.bin .stake (.bin .idx (.var 4) (.bin .add (.int 0) (.bin .idx (.bin .idx (.var 1) (.bin .add (.int 0) (.var 3))) (.int 0)))) (.un .slen (.bin .idx (.var 4) (.bin .add (.int 0) (.bin .idx (.bin .idx (.var 1) (.bin .add (.int 0) (.var 3))) (.int 0)))))) (.int 32)))) (.int 9223372036854775807))
              (.leaf [(.un (.wrap .i64) (.bin .add (.var 3) (.int 1))), (.tri .set (.var 4) (.bin .add (.int 0) (.bin .idx (.bin .idx (.var 1) (.bin .add (.int 0) (.var 3))) (.int 0))) (.bin .cat (.bin .sdrop (.bin .stake (.bin .idx (.bin .idx (.fn 83 (.bin .cons (.var 0) (.bin .cons (.var 1) .nil))) (.int 1)) (.bin .add (.int 0) (.var 3))) (.int 32)) (.int 0)) (.bin .sdrop (.bin .stake (.bin .idx (.var 4) (.bin .add (.int 0) (.bin .idx (.bin .idx (.var 1) (.bin .add (.int 0) (.var 3))) (.int 0)))) (.un .slen (.bin .idx (.var 4) (.bin .add (.int 0) (.bin .idx (.bin .idx (.var 1) (.bin .add (.int 0) (.var 3))) (.int 0)))))) (.int 32))))]))))))))
       (.asrt (.un .not (.bin .le (.un .len (.bin .idx (.fn 83 (.bin .cons (.var 0) (.bin .cons (.var 1) .nil))) (.int 1))) (.var 3)))
        (.asrt (.bin .le (.int 0) (.bin .tmod (.un (.wrap .i64) (.bin .add (.un (.wrap .i64) (.bin .add (.bin .tmod (.bin .idx (.var 2) (.bin .add (.int 0) (.var 3))) (.int 33)) (.int 32))) (.int 1))) (.int 33)))
         (.asrt (.bin .le (.bin .tmod (.un (.wrap .i64) (.bin .add (.un (.wrap .i64) (.bin .add (.bin .tmod (.bin .idx (.var 2) (.bin .add (.int 0) (.var 3))) (.int 33)) (.int 32))) (.int 1))) (.int 33)) (.un .slen (.bin .idx (.bin .idx (.fn 83 (.bin .cons (.var 0) (.bin .cons (.var 1) .nil))) (.int 1)) (.bin .add (.int 0) (.var 3)))))
          (.asrt (.bin .le (.int 0) (.bin .idx (.bin .idx (.var 1) (.bin .add (.int 0) (.var 3))) (.int 0)))
           (.asrt (.un .not (.bin .le (.un .len (.bin .idx (.fn 83 (.bin .cons (.var 0) (.bin .cons (.var 1) .nil))) (.int 0))) (.bin .idx (.bin .idx (.var 1) (.bin .add (.int 0) (.var 3))) (.int 0))))
            (.asrt (.un .not (.bin .le (.un .len (.var 4)) (.bin .add (.int 0) (.bin .idx (.bin .idx (.var 1) (.bin .add (.int 0) (.var 3))) (.int 0)))))
             (.asrt (.bin .le (.bin .tmod (.un (.wrap .i64) (.bin .add (.un (.wrap .i64) (.bin .add (.bin .tmod (.bin .idx (.var 2) (.bin .add (.int 0) (.var 3))) (.int 33)) (.int 32))) (.int 1))) (.int 33)) (.un .slen (.bin .idx (.var 4) (.bin .add (.int 0) (.bin .idx (.bin .idx (.var 1) (.bin .add (.int 0) (.var 3))) (.int 0))))))
              (.asrt (.bin .le (.bin .add (.un .slen (.bin .sdrop (.bin .stake (.bin .idx (.bin .idx (.fn 83 (.bin .cons (.var 0) (.bin .cons (.var 1) .nil))) (.int 1)) (.bin .add (.int 0) (.var 3))) (.bin .tmod (.un (.wrap .i64) (.bin .add (.un (.wrap .i64) (.bin .add (.bin .tmod (.bin .idx (.var 2) (.bin .add (.int 0) (.var 3))) (.int 33)) (.int 32))) (.int 1))) (.int 33))) (.int 0))) (.un .slen (.bin .sdrop (.bin .stake (.bin .idx (.var 4) (.bin .add (.int 0) (.bin .idx (.bin .idx (.var 1) (.bin .add (.int 0) (.var 3))) (.int 0)))) (.un .slen (.bin .idx (.var 4) (.bin .add (.int 0) (.bin .idx (.bin .idx (.var 1) (.bin .add (.int 0) (.var 3))) (.int 0)))))) (.bin .tmod (.un (.wrap .i64) (.bin .add (.un (.wrap .i64) (.bin .add (.bin .tmod (.bin .idx (.var 2) (.bin .add (.int 0) (.var 3))) (.int 33)) (.int 32))) (.int 1))) (.int 33))))) (.int 9223372036854775807))
               (.leaf [(.un (.wrap .i64) (.bin .add (.var 3) (.int 1))), (.tri .set (.var 4) (.bin .add (.int 0) (.bin .idx (.bin .idx (.var 1) (.bin .add (.int 0) (.var 3))) (.int 0))) (.bin .cat (.bin .sdrop (.bin .stake (.bin .idx (.bin .idx (.fn 83 (.bin .cons (.var 0) (.bin .cons (.var 1) .nil))) (.int 1)) (.bin .add (.int 0) (.var 3))) (.bin .tmod (.un (.wrap .i64) (.bin .add (.un (.wrap .i64) (.bin .add (.bin .tmod (.bin .idx (.var 2) (.bin .add (.int 0) (.var 3))) (.int 33)) (.int 32))) (.int 1))) (.int 33))) (.int 0)) (.bin .sdrop (.bin .stake (.bin .idx (.var 4) (.bin .add (.int 0) (.bin .idx (.bin .idx (.var 1) (.bin .add (.int 0) (.var 3))) (.int 0)))) (.un .slen (.bin .idx (.var 4) (.bin .add (.int 0) (.bin .idx (.bin .idx (.var 1) (.bin .add (.int 0) (.var 3))) (.int 0)))))) (.bin .tmod (.un (.wrap .i64) (.bin .add (.un (.wrap .i64) (.bin .add (.bin .tmod (.bin .idx (.var 2) (.bin .add (.int 0) (.var 3))) (.int 33)) (.int 32))) (.int 1))) (.int 33)))))])))))))))))
     .fail)
    (.br (.un .not (.bin .le (.un .len (.var 1)) (.var 3)))
     (.asrt (.bin .le (.int 0) (.var 3))
      (.br (.bin .le (.un .len (.var 2)) (.var 3))
       (.asrt (.un .not (.bin .le (.un .len (.bin .idx (.fn 83 (.bin .cons (.var 0) (.bin .cons (.var 1) .nil))) (.int 1))) (.var 3)))
        (.asrt (.bin .le (.int 32) (.un .slen (.bin .idx (.bin .idx (.fn 83 (.bin .cons (.var 0) (.bin .cons (.var 1) .nil))) (.int 1)) (.bin .add (.int 0) (.var 3)))))
         (.asrt (.bin .le (.int 0) (.bin .idx (.bin .idx (.var 1) (.bin .add (.int 0) (.var 3))) (.int 0)))
          (.asrt (.un .not (.bin .le (.un .len (.bin .idx (.fn 83 (.bin .cons (.var 0) (.bin .cons (.var 1) .nil))) (.int 0))) (.bin .idx (.bin .idx (.var 1) (.bin .add (.int 0) (.var 3))) (.int 0))))
           (.asrt (.un .not (.bin .le (.un .len (.var 4)) (.bin .add (.int 0) (.bin .idx (.bin .idx (.var 1) (.bin .add (.int 0) (.var 3))) (.int 0)))))
            (.asrt (.bin .le (.int 32) (.un .slen (.bin .idx (.var 4) (.bin .add (.int 0) (.bin .idx (.bin .idx (.var 1) (.bin .add (.int 0) (.var 3))) (.int 0))))))
             (.asrt (.bin .le (.bin .add (.un .slen (.bin .sdrop (.bin .stake (.bin .idx (.bin .idx (.fn 83 (.bin .cons (.var 0) (.bin .cons (.var 1) .nil))) (.int 1)) (.bin .add (.int 0) (.var 3))) (.int 32)) (.int 0))) (.un .slen (.bin .sdrop (.bin .stake (.bin .idx (.var 4) (.bin .add (.int 0) (.bin .idx (.bin .idx (.var 1) (.bin .add (.int 0) (.var 3))) (.int 0)))) (.un .slen (.bin .idx (.var 4) (.bin .add (.int 0) (.bin .idx (.bin .idx (.var 1) (.bin .add (.int 0) (.var 3))) (.int 0)))))) (.int 32)))) (.int 9223372036854775807))
              .fail)))))))
       (.asrt (.un .not (.bin .le (.un .len (.bin .idx (.fn 83 (.bin .cons (.var 0) (.bin .cons (.var 1) .nil))) (.int 1))) (.var 3)))
        (.asrt (.bin .le (.int 0) (.bin .tmod (.un (.wrap .i64) (.bin .add (.un (.wrap .i64) (.bin .add (.bin .tmod (.bin .idx (.var 2) (.bin .add (.int 0) (.var 3))) (.int 33)) (.int 32))) (.int 1))) (.int 33)))
         (.asrt (.bin .le (.bin .tmod (.un (.wrap .i64) (.bin .add (.un (.wrap .i64) (.bin .add (.bin .tmod (.bin .idx (.var 2) (.bin .add (.int 0) (.var 3))) (.int 33)) (.int 32))) (.int 1))) (.int 33)) (.un .slen (.bin .idx (.bin .idx (.fn 83 (.bin .cons (.var 0) (.bin .cons (.var 1) .nil))) (.int 1)) (.bin .add (.int 0) (.var 3)))))
          (.asrt (.bin .le (.int 0) (.bin .idx (.bin .idx (.var 1) (.bin .add (.int 0) (.var 3))) (.int 0)))
           (.asrt (.un .not (.bin .le (.un .len (.bin .idx (.fn 83 (.bin .cons (.var 0) (.bin .cons (.var 1) .nil))) (.int 0))) (.bin .idx (.bin .idx (.var 1) (.bin .add (.int 0) (.var 3))) (.int 0))))
            (.asrt (.un .not (.bin .le (.un .len (.var 4)) (.bin .add (.int 0) (.bin .idx (.bin .idx (.var 1) (.bin .add (.int 0) (.var 3))) (.int 0)))))
             (.asrt (.bin .le (.bin .tmod (.un (.wrap .i64) (.bin .add (.un (.wrap .i64) (.bin .add (.bin .tmod (.bin .idx (.var 2) (.bin .add (.int 0) (.var 3))) (.int 33)) (.int 32))) (.int 1))) (.int 33)) (.un .slen (.bin .idx (.var 4) (.bin .add (.int 0) (.bin .idx (.bin .idx (.var 1) (.bin .add (.int 0) (.var 3))) (.int 0))))))
              (.asrt (.bin .le (.bin .add (.un .slen (.bin .sdrop (.bin .stake (.bin .idx (.bin .idx (.fn 83 (.bin .cons (.var 0) (.bin .cons (.var 1) .nil))) (.int 1)) (.bin .add (.int 0) (.var 3))) (.bin .tmod (.un (.wrap .i64) (.bin .add (.un (.wrap .i64) (.bin .add (.bin .tmod (.bin .idx (.var 2) (.bin .add (.int 0) (.var 3))) (.int 33)) (.int 32))) (.int 1))) (.int 33))) (.int 0))) (.un .slen (.bin .sdrop (.bin .stake (.bin .idx (.var 4) (.bin .add (.int 0) (.bin .idx (.bin .idx (.var 1) (.bin .add (.int 0) (.var 3))) (.int 0)))) (.un .slen (.bin .idx (.var 4) (.bin .add (.int 0) (.bin .idx (.bin .idx (.var 1) (.bin .add (.int 0) (.var 3))) (.int 0)))))) (.bin .tmod (.un (.wrap .i64) (.bin .add (.un (.wrap .i64) (.bin .add (.bin .tmod (.bin .idx (.var 2) (.bin .add (.int 0) (.var 3))) (.int 33)) (.int 32))) (.int 1))) (.int 33))))) (.int 9223372036854775807))
               .fail))))))))))
     (.asrt (.bin .le (.bin .add (.int 0) (.un .len (.bin .idx (.fn 83 (.bin .cons (.var 0) (.bin .cons (.var 1) .nil))) (.int 0)))) (.un .len (.var 4)))
      (.leaf [(.bin .take (.bin .drop (.var 4) (.int 0)) (.un .len (.bin .idx (.fn 83 (.bin .cons (.var 0) (.bin .cons (.var 1) .nil))) (.int 0)))), .nil])))))))
def dCrashSm : List (Nat × Smy) := [(22, ⟨78, [.agg [.rows false [.str], .rows false [.int .i64, .str]]], [.one (.pl .bool)], lenC [(0, 1000000), (1, 1000000)], none⟩), (70, ⟨83, [.agg [.rows false [.str], .rows false [.int .i64, .str]]], [.one (.rows true [.str]), .one (.rows true [.str])], fun es => (lenC [(0, 1000000), (1, 1000000)]) es ++ [rightC 78 0 1 es], none⟩)]
def dCrashLa : List (LK × LA) := [(⟨49, 4, 8, 3, 3⟩, ⟨[(8, .any), (9, .any), (10, .any), (20, (.int .i64 (.var 3))), (21, .any), (22, .any), (23, .any), (24, .any), (25, .any), (26, .any), (27, .any), (28, .any), (29, .any), (30, .any), (31, .any), (32, .any), (33, .any), (34, .any), (35, .any), (36, .any), (37, .any), (38, .any), (39, .any), (40, .any), (41, .any), (42, .any), (43, .any), (44, .any), (45, .any), (46, .any)], [(6, (.rows [.str] (.var 4)))], [], 2, 0⟩)]
def dCrashPhi : Fs := ⟨fun n d => match n with
  | 78 => .list (rDRightF d.l)
  | 83 => .list (undoneF d.l)
  | _ => d, 147⟩
theorem dCrashS : SmyOk true Tryd.prog dCrashPhi dCrashSm := (smy_cons (lenP [(0, 1000000), (1, 1000000)]) rDRightF rDRight_pure (len_hp [(0, 1000000), (1, 1000000)]) (fun _ => rfl) (fun _ h => by cases h) (smy_cons (fun ds => (lenP [(0, 1000000), (1, 1000000)]) ds ∧ rightDM (gLs ds 0) (gLis ds 1) = true) undoneF undone_pure (right_hp 78 0 1 (len_hp [(0, 1000000), (1, 1000000)]) (fun _ => rfl)) (fun _ => rfl) (fun _ h => by cases h) smy_nil))
theorem dCrashT : treeOk ⟨Tryd.prog, dCrashSm, dCrashLa, true⟩ 4000 37 [.agg [.rows false [.str], .rows false [.int .i64, .str]], .one (.rows false [.int .i64])] [.agg [.rows false [.str], .rows false [.int .i64, .str]]] ([]) dCrashTree = true := by decide +kernel
set_option maxHeartbeats 1000000 in
theorem dCrash_pure : PureE true Tryd.prog 37 [.agg [.rows false [.str], .rows false [.int .i64, .str]], .one (.rows false [.int .i64])] [.agg [.rows false [.str], .rows false [.int .i64, .str]]] (fun ds => (lenP [(0, 1000000), (1, 1000000), (2, 1000000)]) ds ∧ rightDM (gLs ds 0) (gLis ds 1) = true) dCrashF := by
  refine pure_tree (X := ⟨Tryd.prog, dCrashSm, dCrashLa, true⟩) (by decide +kernel) (Checked.mixed Tryd.checked) dCrashS (by decide +kernel) (by decide +kernel) dCrashT (by decide +kernel) ?_
  intro ds hl hp
  obtain ⟨d0, d1, d2, rfl⟩ := len3 hl
  have b0 : (d0.l.length : Int) ≤ 1000000 := hp.1 (0, 1000000) (by simp)
  have b1 : (d1.l.length : Int) ≤ 1000000 := hp.1 (1, 1000000) (by simp)
  have b2 : (d2.l.length : Int) ≤ 1000000 := hp.1 (2, 1000000) (by simp)
  have hx : rightDM (d0.l.map DV.s) (d1.l.map decis) = true := hp.2
  have hF : dCrashF [d0, d1, d2] = dCrashE (d0.l.map DV.s) (d1.l.map decis) (d2.l.map DV.i) := rfl
  rw [hF]
  clear hF hp hl
  have hN : nrmL (clsOf [.agg [.rows false [.str], .rows false [.int .i64, .str]], .one (.rows false [.int .i64])]) [d0, d1, d2] = [.list ((d0.l.map DV.s).map DV.str), .list ((d1.l.map decis).map encis), .list ((d2.l.map DV.i).map DV.int)] := by
    simp only [clsOf, Sh.cls, List.append_nil, List.cons_append, List.nil_append, nrmL, Cl.nrm, map_Li, map_Lis, map_Ls]
  rw [hN]
  clear hN
  rw [← List.length_map (f := DV.s)] at b0
  generalize d0.l.map DV.s = x0 at b0 hx ⊢
  rw [← List.length_map (f := decis)] at b1
  generalize d1.l.map decis = x1 at b1 hx ⊢
  rw [← List.length_map (f := DV.i)] at b2
  generalize d2.l.map DV.i = x2 at b2 ⊢
  refine ⟨facts_nil _, ?_⟩
  unfold dCrashTree dCrashE
  simp only [Sat, clsOf, Sh.cls, List.append_nil, List.cons_append, List.nil_append, nrmL, Cl.nrm, List.map_cons, List.map_nil, List.length_cons, List.length_nil, List.cons.injEq, DV.list.injEq, and_true, true_and]
  try simp only [q_le, q_not, iff_true, iff_false, Bool.not_true, Bool.not_false, Bool.false_eq_true, eq_self]
  simp only [SE.den, evU, evT, ev_add, ev_tmod, ev_cat, ev_idx, ev_cons, ev_take, ev_drop, ev_stake, ev_sdrop, i_int, b_bool, s_str, l_list, envL, List.getElem?_cons_succ, List.getElem?_cons_zero, Option.getD_some, Int.toNat_natCast, Int.toNat_zero, Int.reduceToNat, List.length_map, get_Li, get_Ls, rows_s, Int.zero_add, and_true, eq_self, f_is_0, dCrashPhi, rDRightF, rDRightE, undoneF, undoneE, gLs, dece_s, gLis, deces_is]
  refine ⟨by omega, by omega, hx, ?_⟩
  refine rounds_at x1.length (fun i => [.int i, .list ((crashM x0 x1 x2 i).map DV.str)]) rfl (fun _ => rfl) (fun i hi => ?_) ?_
  · obtain ⟨w0, w1, w2⟩ := right_was hx hi
    have hwn : (x1[i]?.getD dis).1.toNat < x0.length := by omega
    have hput : (putsM x0 x1 0)[i]?.getD [] = syncedM x0 x1 (i + 1) (x1[i]?.getD dis).1 := by simp [putsM, hi]
    have hp32 : (syncedM x0 x1 (i + 1) (x1[i]?.getD dis).1).length = 32 := by
      have := synced_len hx (i + 1) hwn
      rw [show (((x1[i]?.getD dis).1.toNat : Nat) : Int) = (x1[i]?.getD dis).1 by omega] at this
      exact this
    have hraw : ((List.map DV.str (crashM x0 x1 x2 i))[(x1[i]?.getD dis).1.toNat]?).getD (DV.int 0) = .str ((crashM x0 x1 x2 i)[(x1[i]?.getD dis).1.toNat]?.getD []) := raw_s (by rw [crash_len]; exact hwn)
    have hs32 := crash_32 x2 hx i (by omega) _ hwn
    have e1 : ¬ (x1.length : Int) ≤ i := by omega
    have e2 : ¬ (x0.length : Int) ≤ (x1[i]?.getD dis).1 := by omega
    have ec : crashM x0 x1 x2 (i + 1) = (crashM x0 x1 x2 i).set (x1[i]?.getD dis).1.toNat ((syncedM x0 x1 (i + 1) (x1[i]?.getD dis).1).take (cutC x2 i) ++ ((crashM x0 x1 x2 i)[(x1[i]?.getD dis).1.toNat]?.getD []).drop (cutC x2 i)) := rfl
    have hw : IntKind.i64.wrap ((i : Int) + 1) = i + 1 := w64 (by omega) (by omega)
    simp only [i_int, s_str, l_list, List.getElem?_cons_succ, List.getElem?_cons_zero, Option.getD_some, Int.toNat_natCast, List.length_map, and_true, true_and, eq_self, not_false_eq_true, DV.int.injEq, DV.list.injEq, List.cons.injEq, e1, e2, hput, hraw, puts_len, allSynced_len, crash_len, hp32, hs32, w0, hw, cut_eq, List.drop_zero, ec]
    generalize hS : (crashM x0 x1 x2 i)[(x1[i]?.getD dis).1.toNat]?.getD [] = s0 at *
    generalize hP : syncedM x0 x1 (i + 1) (x1[i]?.getD dis).1 = p0 at *
    have t32 : List.take 32 s0 = s0 := List.take_of_length_le (by omega)
    by_cases hcu : (x2.length : Int) ≤ i
    · have hc : cutC x2 i = 32 := by unfold cutC; rw [if_pos (by omega)]
      simp only [hcu, hc, t32, List.map_set, List.length_take, List.length_drop, hp32, hs32]
      simp
      try omega
    · have hc : cutC x2 i = ((x2[i]?.getD 0) % 33).toNat := by unfold cutC; rw [if_neg (by omega)]
      have h0 := Int.emod_nonneg (x2[i]?.getD 0) (show (33 : Int) ≠ 0 by omega)
      have h1 := Int.emod_lt_of_pos (x2[i]?.getD 0) (show (0 : Int) < 33 by omega)
      have h2 : (x2[i]?.getD 0) % 33 ≤ 32 := by omega
      simp only [hcu, hc, t32, List.map_set, List.length_take, List.length_drop, hp32, hs32, h0]
      simp
      try omega
  · simp only [i_int, l_list, List.getElem?_cons_succ, List.getElem?_cons_zero, Option.getD_some, Int.toNat_natCast, List.length_map, get_Ls, allSynced_len, crash_len, List.drop_zero]
    have t1 : List.take x0.length (List.map DV.str (crashM x0 x1 x2 x1.length)) = List.map DV.str (crashM x0 x1 x2 x1.length) := List.take_of_length_le (by rw [List.length_map, crash_len]; exact Nat.le_refl _)
    rw [t1]
    simp
    try exact fun _ _ => rfl
end Go.Proofs.YtkfjgggiopegbaaDoor
end
section
namespace Go.Proofs.YtkfjgggiopegbaaDoor
set_option linter.unusedVariables false
set_option linter.unusedSimpArgs false
def recM (l : List (List UInt8)) : Nat → Int → Int → List TEn × Int
  | 0, a, _ => ([], a)
  | n + 1, a, last => match parseM l a with
    | none => ([], a)
    | some r => if r.1.1 ≤ last then ([], a) else (r.1 :: (recM l n (a + r.2) r.1.1).1, (recM l n (a + r.2) r.1.1).2)
def recoverM (l : List (List UInt8)) : List TEn × Int := recM l (l.length + 1) 0 0
theorem recM_none {l : List (List UInt8)} {n : Nat} {a last : Int} (h : parseM l a = none) : recM l (n + 1) a last = ([], a) := by unfold recM; rw [h]
theorem recM_old {l : List (List UInt8)} {n : Nat} {a last : Int} {r : TEn × Nat} (h : parseM l a = some r) (h1 : r.1.1 ≤ last) : recM l (n + 1) a last = ([], a) := by
  rw [recM, h]
  exact if_pos h1
theorem recM_some {l : List (List UInt8)} {n : Nat} {a last : Int} {r : TEn × Nat} (h : parseM l a = some r) (h1 : ¬ r.1.1 ≤ last) : recM l (n + 1) a last = (r.1 :: (recM l n (a + r.2) r.1.1).1, (recM l n (a + r.2) r.1.1).2) := by
  rw [recM, h]
  exact if_neg h1
theorem parse_w {l : List (List UInt8)} {a : Int} {r : TEn × Nat} (h : parseM l a = some r) : r.1.2.length ≤ 32 := by
  obtain ⟨c1, _⟩ := parse_canon (e := r.1) (n := r.2) h
  exact (validM_iff.1 c1).2.2.2
theorem recM_w : ∀ (n : Nat) (l : List (List UInt8)) (a last : Int), ∀ e ∈ (recM l n a last).1, e.2.length ≤ 32
  | 0, l, a, last, e, h => by simp [recM] at h
  | n + 1, l, a, last, e, h => by
    cases hp : parseM l a with
    | none => rw [recM_none hp] at h; simp at h
    | some r =>
      by_cases hr : r.1.1 ≤ last
      · rw [recM_old hp hr] at h; simp at h
      · rw [recM_some hp hr] at h
        rcases List.mem_cons.1 h with h | h
        · rw [h]; exact parse_w hp
        · exact recM_w n l _ _ e h
theorem recM_len : ∀ (n : Nat) (l : List (List UInt8)) (a last : Int), (recM l n a last).1.length ≤ n
  | 0, l, a, last => by simp [recM]
  | n + 1, l, a, last => by
    cases hp : parseM l a with
    | none => rw [recM_none hp]; simp
    | some r =>
      by_cases hr : r.1.1 ≤ last
      · rw [recM_old hp hr]; simp
      · rw [recM_some hp hr, List.length_cons]
        have := recM_len n l (a + r.2) r.1.1
        omega
theorem recover_w (l : List (List UInt8)) (i : Nat) : (((recoverM l).1[i]?).getD dEn).2.length ≤ 32 := by
  cases h : (recoverM l).1[i]? with
  | none => simp [dEn]
  | some e => exact recM_w _ _ _ _ e (List.mem_of_getElem? h)
theorem recover_len (l : List (List UInt8)) : (recoverM l).1.length ≤ l.length + 1 := recM_len _ _ _ _
end Go.Proofs.YtkfjgggiopegbaaDoor
end
section
namespace Go.Proofs.YtkfjgggiopegbaaDoor
set_option linter.unusedVariables false
set_option linter.unusedSimpArgs false
set_option maxRecDepth 100000
def wRecoverE (l : List (List UInt8)) : List DV := [.list ((recoverM l).1.map encEn), .int (recoverM l).2]
def wRecoverF (ds : List DV) : List DV := wRecoverE (gLs ds 0)
def wRecoverTree : PT :=
(.loop 1 [.nil, (.int 0), (.int 0)]
 (.asrt (.bin .le (.un .len (.var 0)) (.int 1000))
  (.br (.un .not (.bin .eq (.bin .idx (.fn 105 (.bin .cons (.var 0) (.bin .cons (.var 2) .nil))) (.int 3)) (.int 0)))
   .fail
   (.br (.bin .le (.bin .idx (.fn 105 (.bin .cons (.var 0) (.bin .cons (.var 2) .nil))) (.int 0)) (.var 3))
    .fail
    (.asrt (.bin .le (.bin .add (.un .len (.var 1)) (.int 1)) (.int 4294967296))
     (.leaf [(.bin .snoc (.var 1) (.bin .cons (.bin .idx (.fn 105 (.bin .cons (.var 0) (.bin .cons (.var 2) .nil))) (.int 0)) (.bin .cons (.bin .idx (.fn 105 (.bin .cons (.var 0) (.bin .cons (.var 2) .nil))) (.int 1)) .nil))), (.un (.wrap .i64) (.bin .add (.var 2) (.bin .idx (.fn 105 (.bin .cons (.var 0) (.bin .cons (.var 2) .nil))) (.int 2)))), (.bin .idx (.fn 105 (.bin .cons (.var 0) (.bin .cons (.var 2) .nil))) (.int 0))])))))
 (.asrt (.bin .le (.un .len (.var 0)) (.int 1000))
  (.br (.un .not (.bin .eq (.bin .idx (.fn 105 (.bin .cons (.var 0) (.bin .cons (.var 2) .nil))) (.int 3)) (.int 0)))
   (.leaf [(.var 1), (.var 2)])
   (.br (.bin .le (.bin .idx (.fn 105 (.bin .cons (.var 0) (.bin .cons (.var 2) .nil))) (.int 0)) (.var 3))
    (.leaf [(.var 1), (.var 2)])
    (.asrt (.bin .le (.bin .add (.un .len (.var 1)) (.int 1)) (.int 4294967296))
     .fail)))))
def wRecoverSm : List (Nat × Smy) := [(10, ⟨105, [.one (.rows false [.str]), .one (.pl (.int .i64))], [.agg [.pl (.int .i64), .rows true [.int .i64, .int .i64]], .one (.pl (.int .i64)), .one (.pl (.int .i64))], lenC [(0, 1000)], none⟩)]
def wRecoverLa : List (LK × LA) := [(⟨36, 3, 1, 1, 0⟩, ⟨[(4, (.sl 1 2 (.int 0) (.un .len (.var 1)) none)), (5, (.int .i64 (.var 2))), (6, (.int .i64 (.var 3))), (7, .any), (8, .any), (9, .any), (10, .any), (11, .any), (12, .any), (13, .any), (14, .any), (15, .any), (16, .any), (17, .any), (18, .any), (19, .any), (20, .any), (21, .any), (22, .any), (23, .any), (24, .any), (25, .any), (26, .any), (27, .any), (28, .any), (29, .any), (30, .any), (31, .any), (32, .any), (33, .any), (34, .any), (35, .any)], [(1, (.nrows [.pl (.int .i64), .sub [.int .i64, .int .i64]] (.var 1)))], [], 3, 1⟩)]
def wRecoverPhi : Fs := ⟨fun n d => match n with
  | 105 => .list (wParseF d.l)
  | _ => d, 147⟩
theorem wRecoverS : SmyOk true Tryd.prog wRecoverPhi wRecoverSm := (smy_cons (lenP [(0, 1000)]) wParseF wParse_pure (len_hp [(0, 1000)]) (fun _ => rfl) (fun _ h => by cases h) smy_nil)
theorem wRecoverT : treeOk ⟨Tryd.prog, wRecoverSm, wRecoverLa, true⟩ 4000 12 [.one (.rows false [.str])] [.one (.nst [.pl (.int .i64), .sub [.int .i64, .int .i64]]), .one (.pl (.int .i64))] ([]) wRecoverTree = true := by decide +kernel
set_option maxHeartbeats 1000000 in
theorem wRecover_pure : PureE true Tryd.prog 12 [.one (.rows false [.str])] [.one (.nst [.pl (.int .i64), .sub [.int .i64, .int .i64]]), .one (.pl (.int .i64))] (lenP [(0, 1000)]) wRecoverF := by
  refine pure_tree (X := ⟨Tryd.prog, wRecoverSm, wRecoverLa, true⟩) (by decide +kernel) (Checked.mixed Tryd.checked) wRecoverS (by decide +kernel) (by decide +kernel) wRecoverT (by decide +kernel) ?_
  intro ds hl hp
  obtain ⟨d0, rfl⟩ := len1 hl
  have b0 : (d0.l.length : Int) ≤ 1000 := hp (0, 1000) (by simp)
  have hF : wRecoverF [d0] = wRecoverE (d0.l.map DV.s) := rfl
  rw [hF]
  clear hF hp hl
  have hN : nrmL (clsOf [.one (.rows false [.str])]) [d0] = [.list ((d0.l.map DV.s).map DV.str)] := by
    simp only [clsOf, Sh.cls, List.append_nil, nrmL, Cl.nrm, map_Ls]
  rw [hN]
  clear hN
  rw [← List.length_map (f := DV.s)] at b0
  generalize d0.l.map DV.s = x0 at b0 ⊢
  refine ⟨facts_nil _, ?_⟩
  unfold wRecoverTree wRecoverE
  simp only [Sat, clsOf, Sh.cls, List.append_nil, List.cons_append, List.nil_append, nrmL, Cl.nrm, CK.nrm, List.map_cons, List.map_nil, List.length_cons, List.length_nil, List.cons.injEq, DV.int.injEq, DV.list.injEq, and_true, true_and]
  try simp only [q_le, q_eq, q_not, iff_true, iff_false, Bool.not_true, Bool.not_false, Bool.false_eq_true, eq_self]
  simp only [SE.den, evU, ev_add, ev_idx, ev_cons, ev_snoc, i_int, l_list, envL, List.getElem?_cons_succ, List.getElem?_cons_zero, Option.getD_some, Int.toNat_zero, Int.reduceToNat, List.length_map, rows_En, rows_En, wRecoverPhi, wParseF, wParseE, gi, gLs, dece_s]
  refine rounds_inv (fun y => ∃ (acc : List TEn) (a last : Int) (n : Nat), y = [DV.list (acc.map encEn), DV.int a, DV.int last] ∧ 0 ≤ a ∧ a ≤ x0.length ∧ (acc.length : Int) ≤ a ∧ (x0.length : Int) - a < n ∧ acc ++ (recM x0 n a last).1 = (recoverM x0).1 ∧ (recM x0 n a last).2 = (recoverM x0).2) (fun y => ((x0.length : Int) - (((y[1]?).getD (DV.int 0)).i)).toNat) ⟨[], 0, 0, x0.length + 1, rfl, by omega, by omega, by simp, by omega, rfl, rfl⟩ ?_
  rintro y ⟨acc, a, last, n, rfl, h0, h1, h2, h3, h4, h5⟩
  cases n with
  | zero => omega
  | succ n =>
  cases hp : parseM x0 a with
  | none =>
    rw [recM_none hp] at h4 h5
    left
    simp only [i_int, l_list, List.getElem?_cons_succ, List.getElem?_cons_zero, Option.getD_some, List.length_map, rows_En, inj_LEn, rows_En, inj_LEn, hp, parse4]
    exact ⟨b0, fun _ => ⟨by simpa using h4, h5⟩, fun h => absurd h (by omega)⟩
  | some r =>
    by_cases hr : r.1.1 ≤ last
    · rw [recM_old hp hr] at h4 h5
      left
      simp only [i_int, l_list, List.getElem?_cons_succ, List.getElem?_cons_zero, Option.getD_some, List.length_map, eq_self, not_true_eq_false, rows_En, inj_LEn, rows_En, inj_LEn, hp, parse4]
      exact ⟨b0, fun h => h.elim, fun _ => ⟨fun _ => ⟨by simpa using h4, h5⟩, fun h => absurd hr h⟩⟩
    · rw [recM_some hp hr] at h4 h5
      obtain ⟨_, _, _, c4, c5, _, _⟩ := parse_canon (e := r.1) (n := r.2) hp
      have hw : IntKind.i64.wrap (a + (r.2 : Int)) = a + r.2 := w64 (by omega) (by omega)
      right
      simp only [i_int, l_list, List.getElem?_cons_succ, List.getElem?_cons_zero, Option.getD_some, List.length_map, eq_self, not_true_eq_false, hp, parse4, hw]
      refine ⟨_, ⟨b0, fun h => h, fun _ => ⟨fun h => absurd h hr, fun _ => ⟨by omega, rfl⟩⟩⟩, rfl, ⟨acc ++ [r.1], a + r.2, r.1.1, n, ?_, by omega, by omega, by simp only [List.length_append, List.length_cons, List.length_nil]; omega, by omega, ?_, h5⟩, ?_⟩
      · rw [List.map_append]; rfl
      · rw [List.append_assoc]; exact h4
      · show ((x0.length : Int) - (a + r.2)).toNat < _
        omega
end Go.Proofs.YtkfjgggiopegbaaDoor
end
section
namespace Go.Proofs.YtkfjgggiopegbaaDoor
set_option linter.unusedVariables false
set_option linter.unusedSimpArgs false
def lastM : List TEn → Int → Option (Tii × Int)
  | [], _ => none
  | e :: r, k => match lastM r k with
    | some x => some x
    | none => (e.2.find? fun w => decide (w.1 = k)).map fun w => (w, e.1)
theorem last_app (b : List TEn) (k : Int) : ∀ a : List TEn, lastM (a ++ b) k = match lastM b k with | some x => some x | none => lastM a k
  | [] => by cases h : lastM b k <;> simp [h, lastM]
  | e :: a => by
    have ih := last_app b k a
    have e1 : ∀ r, lastM (e :: r) k = match lastM r k with | some x => some x | none => (e.2.find? fun w => decide (w.1 = k)).map fun w => (w, e.1) := fun _ => rfl
    show lastM (e :: (a ++ b)) k = _
    rw [e1, e1, ih]
    cases h : lastM b k <;> simp
theorem last_at {es : List TEn} {i : Nat} (hi : i < es.length) (k : Int) : lastM (es.drop i) k = match lastM (es.drop (i + 1)) k with | some x => some x | none => ((es[i]?.getD dEn).2.find? fun w => decide (w.1 = k)).map fun w => (w, (es[i]?.getD dEn).1) := by
  rw [List.drop_eq_getElem_cons hi, List.getElem?_eq_getElem hi]
  rfl
theorem last_app_some {es : List TEn} {k : Int} {n : Nat} {x : Tii × Int} (h : lastM (es.drop n) k = some x) : lastM es k = some x := by
  have := last_app (es.drop n) k (es.take n)
  rw [List.take_append_drop, h] at this
  exact this
theorem find_first {w : List Tii} {k : Int} {x : Tii} (h : w.find? (fun w => decide (w.1 = k)) = some x) : ∃ j, j < w.length ∧ w[j]?.getD dii = x ∧ x.1 = k ∧ ∀ t, t < j → (w[t]?.getD dii).1 ≠ k := by
  induction w with
  | nil => cases h
  | cons a w ih =>
    rw [List.find?_cons] at h
    by_cases ha : a.1 = k
    · simp only [ha, decide_true, Option.some.injEq] at h
      exact ⟨0, by simp, by simpa using h, by rw [← h]; exact ha, fun t ht => absurd ht (by omega)⟩
    · simp only [ha, decide_false] at h
      obtain ⟨j, h1, h2, h3, h4⟩ := ih h
      refine ⟨j + 1, by simpa using h1, by simpa using h2, h3, fun t ht => ?_⟩
      cases t with
      | zero => simpa using ha
      | succ t => simpa using h4 t (by omega)
theorem find_none {w : List Tii} {k : Int} (h : w.find? (fun w => decide (w.1 = k)) = none) : ∀ j, j < w.length → (w[j]?.getD dii).1 ≠ k := by
  intro j hj
  rw [List.getElem?_eq_getElem hj]
  have := List.find?_eq_none.1 h (w[j]) (List.getElem_mem hj)
  simpa using this
theorem raw_En_0 (l : List TEn) (j : Nat) : ((((l.map encEn)[j]?).getD (DV.int 0)).l[0]?).getD (DV.int 0) = .int ((l[j]?).getD dEn).1 := by rw [List.getElem?_map]; cases l[j]? <;> rfl
theorem scan_loop {B : List DV → List DV → Prop} {R : List DV → Prop} {w : List Tii} {k : Int} {j : Nat} (hj : j ≤ w.length) (hno : ∀ t, t < j → (w[t]?.getD dii).1 ≠ k)
    (hB : ∀ t : Nat, t < w.length → (w[t]?.getD dii).1 ≠ k → B [.int t] [.int ((t + 1 : Nat) : Int)]) (hR : R [.int (j : Nat)]) : Rounds B R [.int 0] :=
  rounds_at j (fun t => [.int t]) rfl (fun _ => rfl) (fun t ht => hB t (by omega) (hno t ht)) hR
theorem last_loop {B : List DV → List DV → Prop} {R : List DV → Prop} (es : List TEn) (k : Int)
    (hB : ∀ i, i < es.length → (∀ j, j < (es[i]?.getD dEn).2.length → ((es[i]?.getD dEn).2[j]?.getD dii).1 ≠ k) → B [.int (i : Nat)] [.int ((i : Int) - 1)])
    (hN : lastM es k = none → R [.int (-1)])
    (hS : ∀ i j, i < es.length → j < (es[i]?.getD dEn).2.length → (∀ t, t < j → ((es[i]?.getD dEn).2[t]?.getD dii).1 ≠ k) → ((es[i]?.getD dEn).2[j]?.getD dii).1 = k → lastM es k = some ((es[i]?.getD dEn).2[j]?.getD dii, (es[i]?.getD dEn).1) → R [.int (i : Nat)]) :
    Rounds B R [.int ((es.length : Int) - 1)] := by
  have : ∀ n, n ≤ es.length → lastM (es.drop n) k = none → Rounds B R [.int ((n : Int) - 1)] := by
    intro n
    induction n with
    | zero => intro _ h; exact .done (hN h)
    | succ n ih =>
      intro hn h
      have e : (((n + 1 : Nat) : Int) - 1) = (n : Int) := by omega
      rw [e]
      have ha := last_at (show n < es.length by omega) k
      rw [h] at ha
      cases hf : (es[n]?.getD dEn).2.find? (fun w => decide (w.1 = k)) with
      | none =>
        rw [hf] at ha
        exact .step _ (hB n (by omega) (find_none hf)) rfl (ih (by omega) ha)
      | some x =>
        rw [hf] at ha
        obtain ⟨j, h1, h2, h3, h4⟩ := find_first hf
        refine .done (hS n j (by omega) h1 h4 (by rw [h2]; exact h3) ?_)
        rw [h2]
        exact last_app_some ha
  exact this es.length (Nat.le_refl _) (by rw [List.drop_length]; rfl)
def cellG (base locs ck sp en : Int) (V W : Int → Int) (i : Int) : Int :=
  if i = 0 then ck else if i = 1 then sp else if i = 3 then en else if i < base ∨ base + 4 * locs ≤ i then 0
  else if (i - base) % 4 = 0 then W ((i - base) / 4) else if (i - base) % 4 = 1 then V ((i - base) / 4) else 0
def cellsG (n : Nat) (base locs ck sp en : Int) (V W : Int → Int) : List Int := (List.range n).map fun i : Nat => cellG base locs ck sp en V W i
theorem cells_len (n : Nat) (base locs ck sp en : Int) (V W : Int → Int) : (cellsG n base locs ck sp en V W).length = n := by simp [cellsG]
theorem cells_get {n : Nat} {base locs ck sp en : Int} {V W : Int → Int} {i : Nat} (h : i < n) : (cellsG n base locs ck sp en V W)[i]?.getD 0 = cellG base locs ck sp en V W i := by simp [cellsG, h]
theorem cells_ext {n : Nat} {f g : Nat → Int} (h : ∀ i : Nat, i < n → f i = g i) : (List.range n).map f = (List.range n).map g := by
  apply List.map_congr_left
  intro i hi
  exact h i (List.mem_range.1 hi)
theorem set_range {n : Nat} (f : Nat → Int) (j : Nat) (v : Int) : ((List.range n).map f).set j v = (List.range n).map fun i => if i = j then v else f i := by
  apply List.ext_getElem?
  intro i
  rw [List.getElem?_set]
  by_cases hi : i < n
  · by_cases hj : j = i
    · subst hj; simp [hi]
    · have : ¬ (i = j) := by omega
      simp [hi, hj, this]
  · simp [hi]
    intro h
    omega
theorem cells_zero (n : Nat) (base locs : Int) : List.replicate n (0 : Int) = cellsG n base locs 0 0 0 (fun _ => 0) (fun _ => 0) := by
  apply List.ext_getElem?
  intro i
  by_cases hi : i < n
  · simp [cellsG, hi, cellG]
  · simp [cellsG, hi]
def updF (V : Int → Int) (k v : Int) : Int → Int := fun x => if x = k then v else V x
section
variable {n : Nat} {base locs ck sp en : Int} {V W : Int → Int}
theorem set_ck (c : Int) : (cellsG n base locs ck sp en V W).set 0 c = cellsG n base locs c sp en V W := by
  unfold cellsG
  rw [set_range]
  refine cells_ext fun i hi => ?_
  unfold cellG
  by_cases h : i = 0
  · subst h
    rw [if_pos rfl]
    simp
  · have h2 : ¬ (i : Int) = 0 := by omega
    rw [if_neg h]
    simp only [h2, if_false]
theorem set_sp (c : Int) : (cellsG n base locs ck sp en V W).set 1 c = cellsG n base locs ck c en V W := by
  unfold cellsG
  rw [set_range]
  refine cells_ext fun i hi => ?_
  unfold cellG
  by_cases h : i = 1
  · subst h
    rw [if_pos rfl]
    simp
  · have h2 : ¬ (i : Int) = 1 := by omega
    rw [if_neg h]
    simp only [h2, if_false]
theorem set_en (c : Int) : (cellsG n base locs ck sp en V W).set 3 c = cellsG n base locs ck sp c V W := by
  unfold cellsG
  rw [set_range]
  refine cells_ext fun i hi => ?_
  unfold cellG
  by_cases h : i = 3
  · subst h
    rw [if_pos rfl]
    simp
  · have h2 : ¬ (i : Int) = 3 := by omega
    rw [if_neg h]
    simp only [h2, if_false]
theorem set_V {k : Int} (v : Int) (h0 : 0 ≤ k) (h1 : k < locs) (hb : 4 ≤ base) : (cellsG n base locs ck sp en V W).set (base + 4 * k + 1).toNat v = cellsG n base locs ck sp en (updF V k v) W := by
  unfold cellsG
  rw [set_range]
  refine cells_ext fun i hi => ?_
  unfold cellG updF
  by_cases hk : i = (base + 4 * k + 1).toNat
  · have h4 : ((i : Int) - base) % 4 = 1 := by omega
    have hd : ((i : Int) - base) / 4 = k := by omega
    rw [if_pos hk, if_neg (by omega), if_neg (by omega), if_neg (by omega), if_neg (by omega), if_neg (by omega), if_pos h4, if_pos hd]
  · rw [if_neg hk]
    by_cases h2 : (i : Int) = 0
    · rw [if_pos h2, if_pos h2]
    rw [if_neg h2, if_neg h2]
    by_cases h3 : (i : Int) = 1
    · rw [if_pos h3, if_pos h3]
    rw [if_neg h3, if_neg h3]
    by_cases h4 : (i : Int) = 3
    · rw [if_pos h4, if_pos h4]
    rw [if_neg h4, if_neg h4]
    by_cases h5 : (i : Int) < base ∨ base + 4 * locs ≤ i
    · rw [if_pos h5, if_pos h5]
    rw [if_neg h5, if_neg h5]
    by_cases h6 : ((i : Int) - base) % 4 = 0
    · rw [if_pos h6, if_pos h6]
    rw [if_neg h6, if_neg h6]
    by_cases h7 : ((i : Int) - base) % 4 = 1
    · rw [if_pos h7, if_pos h7, if_neg (by omega)]
    rw [if_neg h7, if_neg h7]
theorem set_W {k : Int} (v : Int) (h0 : 0 ≤ k) (h1 : k < locs) (hb : 4 ≤ base) : (cellsG n base locs ck sp en V W).set (base + 4 * k).toNat v = cellsG n base locs ck sp en V (updF W k v) := by
  unfold cellsG
  rw [set_range]
  refine cells_ext fun i hi => ?_
  unfold cellG updF
  by_cases hk : i = (base + 4 * k).toNat
  · have h4 : ((i : Int) - base) % 4 = 0 := by omega
    have hd : ((i : Int) - base) / 4 = k := by omega
    rw [if_pos hk, if_neg (by omega), if_neg (by omega), if_neg (by omega), if_neg (by omega), if_pos h4, if_pos hd]
  · rw [if_neg hk]
    by_cases h2 : (i : Int) = 0
    · rw [if_pos h2, if_pos h2]
    rw [if_neg h2, if_neg h2]
    by_cases h3 : (i : Int) = 1
    · rw [if_pos h3, if_pos h3]
    rw [if_neg h3, if_neg h3]
    by_cases h4 : (i : Int) = 3
    · rw [if_pos h4, if_pos h4]
    rw [if_neg h4, if_neg h4]
    by_cases h5 : (i : Int) < base ∨ base + 4 * locs ≤ i
    · rw [if_pos h5, if_pos h5]
    rw [if_neg h5, if_neg h5]
    by_cases h6 : ((i : Int) - base) % 4 = 0
    · rw [if_pos h6, if_pos h6, if_neg (by omega)]
    rw [if_neg h6, if_neg h6]
theorem cells_congr {V' W' : Int → Int} (hV : ∀ k, 0 ≤ k → k < locs → V k = V' k) (hW : ∀ k, 0 ≤ k → k < locs → W k = W' k) : cellsG n base locs ck sp en V W = cellsG n base locs ck sp en V' W' := by
  refine cells_ext fun i hi => ?_
  unfold cellG
  by_cases h5 : (i : Int) < base ∨ base + 4 * locs ≤ i
  · rw [if_pos h5, if_pos h5]
  · rw [if_neg h5, if_neg h5, hV _ (by omega) (by omega), hW _ (by omega) (by omega)]
end
def freeM (v : Int) : Int := IntKind.i64.wrap (2 * v)
def valM (es : List TEn) (first : List Int) (k : Int) : Int := match lastM es k with | some x => x.1.2 | none => first[k.toNat]?.getD 0
def wordM (es : List TEn) (k : Int) : Int := match lastM es k with | some x => freeM x.2 | none => 0
def clkM (es : List TEn) : Int := (es[es.length - 1]?.getD dEn).1
theorem clk_take {es : List TEn} {i : Nat} (h : i < es.length) : clkM (es.take (i + 1)) = (es[i]?.getD dEn).1 := by
  unfold clkM
  rw [List.length_take, Nat.min_eq_left (by omega), Nat.add_sub_cancel, List.getElem?_take, if_pos (by omega)]
def bootM (n : Nat) (base locs : Int) (first : List Int) (es : List TEn) (en : Int) : List Int := cellsG n base locs (clkM es) 1 en (valM es first) (wordM es)
theorem boot_len (n : Nat) (base locs : Int) (first : List Int) (es : List TEn) (en : Int) : (bootM n base locs first es en).length = n := cells_len ..
theorem place_in {locs base : Int} {n : Nat} {a : Int} (h0 : 0 ≤ base) (h1 : base ≤ 1000) (h2 : (n : Int) < locs) (h3 : locs ≤ 100) (ha : 0 ≤ a) (ha2 : a ≤ 4) : placeM base locs n 4 a = base + 4 * n + a := by
  unfold placeM
  rw [if_neg (by omega)]
  simp only [w64_eq]
  omega
def stageC (n : Nat) (base locs : Int) (first : List Int) (es : List TEn) (en : Int) (j : Nat) : List Int := cellsG n base locs (clkM es) 1 en (fun k => if k < (j : Int) then valM es first k else first[k.toNat]?.getD 0) (fun k => if k < (j : Int) then wordM es k else 0)
theorem stageC_len (n : Nat) (base locs : Int) (first : List Int) (es : List TEn) (en : Int) (j : Nat) : (stageC n base locs first es en j).length = n := cells_len ..
section
variable {n : Nat} {base locs : Int} {first : List Int} {es : List TEn} {en : Int} {j : Nat}
theorem stageC_end : stageC n base locs first es en locs.toNat = bootM n base locs first es en := by
  refine cells_congr (fun k h0 h1 => ?_) (fun k h0 h1 => ?_) <;> exact if_pos (by omega)
theorem upd_step {V : Int → Int} {v : Int} {z : Int → Int} (hv : V j = v) (k : Int) : updF (fun k => if k < (j : Int) then V k else z k) j v k = if k < ((j + 1 : Nat) : Int) then V k else z k := by
  show (if k = (j : Int) then v else if k < (j : Int) then V k else z k) = _
  by_cases hk : k = (j : Int)
  · rw [if_pos hk, if_pos (by omega), hk, hv]
  · rw [if_neg hk]
    by_cases h : k < (j : Int)
    · rw [if_pos h, if_pos (by omega)]
    · rw [if_neg h, if_neg (by omega)]
theorem stay_step {V : Int → Int} {z : Int → Int} (hv : V j = z j) (k : Int) : (if k < (j : Int) then V k else z k) = if k < ((j + 1 : Nat) : Int) then V k else z k := by
  by_cases hk : k = (j : Int)
  · subst hk
    rw [if_neg (by omega), if_pos (by omega), hv]
  · by_cases h : k < (j : Int)
    · rw [if_pos h, if_pos (by omega)]
    · rw [if_neg h, if_neg (by omega)]
theorem stageC_none (h : lastM es j = none) : stageC n base locs first es en (j + 1) = stageC n base locs first es en j := by
  refine cells_congr (fun k h0 h1 => ?_) (fun k h0 h1 => ?_)
  · refine (stay_step (V := valM es first) (z := fun k => first[k.toNat]?.getD 0) ?_ k).symm
    simp [valM, h]
  · refine (stay_step (V := wordM es) (z := fun _ => 0) ?_ k).symm
    simp [wordM, h]
theorem stageC_some {x : Tii × Int} (h : lastM es j = some x) (hj : (j : Int) < locs) (hb : 4 ≤ base) : ((stageC n base locs first es en j).set (base + 4 * j + 1).toNat x.1.2).set (base + 4 * j).toNat (freeM x.2) = stageC n base locs first es en (j + 1) := by
  unfold stageC
  rw [set_V _ (by omega) hj hb, set_W _ (by omega) hj hb]
  refine cells_congr (fun k h0 h1 => ?_) (fun k h0 h1 => ?_)
  · exact upd_step (V := valM es first) (z := fun k => first[k.toNat]?.getD 0) (by simp [valM, h]) k
  · exact upd_step (V := wordM es) (z := fun _ => 0) (by simp [wordM, h]) k
end
def initV (first : List Int) (n : Nat) : Int → Int := fun k => if k < (n : Int) then first[k.toNat]?.getD 0 else 0
theorem do_store {m : List Int} {c : Int} (h0 : 0 ≤ c) (h1 : c < m.length) (n : Int) : doM m 2 c 0 n [] = (m.set c.toNat n, (m[c.toNat]?.getD 0, true), 0) := by
  have hr : rightM 2 c 0 n [] = true := by simp [rightM, h0]
  unfold doM
  rw [if_pos hr, if_pos h1]
  simp [nextM]
theorem allM_snoc (m0 : List Int) (a : Tiiiis) : ∀ (l : List Tiiiis) (m : List Int) (told : List Tib) (m1 : List Int) (t1 : List Tib), allM m0 l m told = (m1, t1, 0) → (doM m1 a.1 a.2.1 a.2.2.1 a.2.2.2.1 a.2.2.2.2).2.2 = 0 →
    allM m0 (l ++ [a]) m told = ((doM m1 a.1 a.2.1 a.2.2.1 a.2.2.2.1 a.2.2.2.2).1, t1 ++ [(doM m1 a.1 a.2.1 a.2.2.1 a.2.2.2.1 a.2.2.2.2).2.1], 0)
  | [], m, told, m1, t1, h, h0 => by
    have h : (m, told, (0 : Int)) = (m1, t1, 0) := h
    simp only [Prod.mk.injEq] at h
    obtain ⟨rfl, rfl, _⟩ := h
    show allM m0 [a] m told = _
    unfold allM
    rw [if_pos h0]
    rfl
  | x :: l, m, told, m1, t1, h, h0 => by
    show allM m0 (x :: (l ++ [a])) m told = _
    unfold allM at h ⊢
    by_cases hx : (doM m x.1 x.2.1 x.2.2.1 x.2.2.2.1 x.2.2.2.2).2.2 = 0
    · rw [if_pos hx] at h ⊢
      exact allM_snoc m0 a l _ _ m1 t1 h h0
    · rw [if_neg hx] at h
      simp only [Prod.mk.injEq] at h
      exact absurd h.2.2 hx
theorem inits_all {sz : Nat} {locs base : Int} (first : List Int) (h0 : 4 ≤ base) (h1 : base ≤ 1000) (h3 : locs ≤ 100) (h4 : base + 4 * locs ≤ sz) (h5 : 4 ≤ sz) : ∀ n : Nat, (n : Int) ≤ locs →
    ∃ t, allM (List.replicate sz 0) ((2, 1, 0, 1, []) :: initsM locs base first n) (List.replicate sz 0) [] = (cellsG sz base locs 0 1 0 (initV first n) (fun _ => 0), t, 0)
  | 0, _ => by
    have e := do_store (m := List.replicate sz (0 : Int)) (c := 1) (by omega) (by simp; omega) 1
    refine ⟨[((List.replicate sz (0 : Int))[(1 : Int).toNat]?.getD 0, true)], ?_⟩
    have h : allM (List.replicate sz 0) [(2, 1, 0, 1, [])] (List.replicate sz 0) [] = ((List.replicate sz 0).set 1 1, [((List.replicate sz (0 : Int))[(1 : Int).toNat]?.getD 0, true)], 0) := by
      unfold allM
      rw [e]
      rfl
    refine h.trans ?_
    rw [cells_zero sz base locs, set_sp]
    congr 1
    refine cells_congr (fun k a b => ?_) fun _ _ _ => rfl
    unfold initV
    rw [if_neg (by omega)]
  | n + 1, hn => by
    obtain ⟨t, ht⟩ := inits_all first h0 h1 h3 h4 h5 n (by omega)
    have hp := place_in (n := n) (a := 1) (show 0 ≤ base by omega) h1 (show (n : Int) < locs by omega) h3 (by omega) (by omega)
    have e := do_store (m := cellsG sz base locs 0 1 0 (initV first n) (fun _ => 0)) (c := placeM base locs n 4 1) (by omega) (by rw [cells_len]; omega) (first[n]?.getD 0)
    have := allM_snoc _ (2, placeM base locs n 4 1, 0, first[n]?.getD 0, []) _ _ _ _ _ ht (by simp only [e])
    simp only [e] at this
    refine ⟨t ++ [((cellsG sz base locs 0 1 0 (initV first n) (fun _ => 0))[(placeM base locs n 4 1).toNat]?.getD 0, true)], this.trans ?_⟩
    rw [hp, set_V _ (by omega) (by omega) h0]
    congr 1
    refine cells_congr (fun k a b => ?_) fun _ _ _ => rfl
    exact upd_step (V := fun k => first[k.toNat]?.getD 0) (z := fun _ => 0) (by simp) k
theorem stage_zero {sz : Nat} {base locs en : Int} {first : List Int} {es : List TEn} {n : Nat} (hn : (n : Int) = first.length ∨ (n : Int) = locs) : cellsG sz base locs (clkM es) 1 en (initV first n) (fun _ => 0) = stageC sz base locs first es en 0 := by
  refine cells_congr (fun k h0 h1 => ?_) (fun k h0 h1 => ?_)
  · unfold initV
    rw [if_neg (show ¬ k < ((0 : Nat) : Int) by omega)]
    by_cases hk : k < (n : Int)
    · rw [if_pos hk]
    · rw [if_neg hk, List.getElem?_eq_none (by omega)]
      rfl
  · rw [if_neg (by omega)]
theorem stage_nil {sz : Nat} {base locs en : Int} {first : List Int} {V : Int → Int} (h : cellsG sz base locs (clkM []) 1 en V (fun _ => 0) = stageC sz base locs first [] en 0) : cellsG sz base locs 0 1 en V (fun _ => 0) = bootM sz base locs first [] en := by
  refine (show cellsG sz base locs 0 1 en V (fun _ => 0) = cellsG sz base locs (clkM []) 1 en V (fun _ => 0) from rfl).trans (h.trans ?_)
  refine cells_congr (fun k h0 h1 => ?_) (fun k h0 h1 => ?_)
  · rw [if_neg (by omega)]; rfl
  · rw [if_neg (by omega)]; rfl
end Go.Proofs.YtkfjgggiopegbaaDoor
end
section
namespace Go.Proofs.YtkfjgggiopegbaaDoor
set_option linter.unusedVariables false
set_option linter.unusedSimpArgs false
set_option maxRecDepth 100000
def dBootE (t l k s m a0 a1 a2 a3 a4 a5 a6 a7 : Int) (first : List Int) (sec : List (List UInt8)) (was : List Tis) : List DV := [.list ((bootM a7.toNat a6 l first (recoverM sec).1 (recoverM sec).2).map DV.int), .list ((recoverM sec).1.map encEn)]
def dBootF (ds : List DV) : List DV := dBootE (gi ds 0) (gi ds 1) (gi ds 2) (gi ds 3) (gi ds 4) (gi ds 5) (gi ds 6) (gi ds 7) (gi ds 8) (gi ds 9) (gi ds 10) (gi ds 11) (gi ds 12) (gLi ds 13) (gLs ds 14) (gLis ds 15)
def dBootTree : PT :=
(.asrt (.bin .le (.un .len (.var 14)) (.int 1000))
 (.asrt (.bin .le (.int 0) (.var 12))
  (.asrt (.bin .le (.var 12) (.int 1000000))
   (.asrt (.bin .le (.un .len (.var 13)) (.int 1000000))
    (.asrt (.bin .le (.int 0) (.var 1))
     (.asrt (.bin .le (.var 1) (.int 1000))
      (.asrt (.bin .le (.bin .add (.int 0) (.var 12)) (.un .len (.bin .rep (.var 12) (.int 0))))
       (.asrt (.bin .le (.un .len (.bin .take (.bin .drop (.bin .rep (.var 12) (.int 0)) (.int 0)) (.var 12))) (.int 1000000))
        (.asrt (.bin .le (.un .len (.bin .idx (.fn 27 (.bin .cons (.var 0) (.bin .cons (.var 1) (.bin .cons (.var 2) (.bin .cons (.var 3) (.bin .cons (.var 4) (.bin .cons (.var 5) (.bin .cons (.var 6) (.bin .cons (.var 7) (.bin .cons (.var 8) (.bin .cons (.var 9) (.bin .cons (.var 10) (.bin .cons (.var 11) (.bin .cons (.var 12) (.bin .cons (.var 13) .nil))))))))))))))) (.int 0))) (.int 1000000))
         (.br (.bin .le (.un .len (.bin .idx (.fn 8 (.bin .cons (.bin .take (.bin .drop (.bin .rep (.var 12) (.int 0)) (.int 0)) (.var 12)) (.bin .cons (.bin .idx (.fn 27 (.bin .cons (.var 0) (.bin .cons (.var 1) (.bin .cons (.var 2) (.bin .cons (.var 3) (.bin .cons (.var 4) (.bin .cons (.var 5) (.bin .cons (.var 6) (.bin .cons (.var 7) (.bin .cons (.var 8) (.bin .cons (.var 9) (.bin .cons (.var 10) (.bin .cons (.var 11) (.bin .cons (.var 12) (.bin .cons (.var 13) .nil))))))))))))))) (.int 0)) .nil))) (.int 0))) (.int 0))
          (.both
           .fail
           (.asrt (.bin .le (.int 0) (.var 8))
            .fail))
          (.asrt (.bin .le (.un .len (.bin .idx (.fn 8 (.bin .cons (.bin .take (.bin .drop (.bin .rep (.var 12) (.int 0)) (.int 0)) (.var 12)) (.bin .cons (.bin .idx (.fn 27 (.bin .cons (.var 0) (.bin .cons (.var 1) (.bin .cons (.var 2) (.bin .cons (.var 3) (.bin .cons (.var 4) (.bin .cons (.var 5) (.bin .cons (.var 6) (.bin .cons (.var 7) (.bin .cons (.var 8) (.bin .cons (.var 9) (.bin .cons (.var 10) (.bin .cons (.var 11) (.bin .cons (.var 12) (.bin .cons (.var 13) .nil))))))))))))))) (.int 0)) .nil))) (.int 0))) (.int 4294967296))
           (.asrt (.bin .le (.int 0) (.var 8))
            (.asrt (.un .not (.bin .le (.un .len (.bin .idx (.fn 8 (.bin .cons (.bin .take (.bin .drop (.bin .rep (.var 12) (.int 0)) (.int 0)) (.var 12)) (.bin .cons (.bin .idx (.fn 27 (.bin .cons (.var 0) (.bin .cons (.var 1) (.bin .cons (.var 2) (.bin .cons (.var 3) (.bin .cons (.var 4) (.bin .cons (.var 5) (.bin .cons (.var 6) (.bin .cons (.var 7) (.bin .cons (.var 8) (.bin .cons (.var 9) (.bin .cons (.var 10) (.bin .cons (.var 11) (.bin .cons (.var 12) (.bin .cons (.var 13) .nil))))))))))))))) (.int 0)) .nil))) (.int 0))) (.var 8)))
             (.br (.un .not (.bin .le (.un .len (.bin .idx (.fn 153 (.bin .cons (.var 14) .nil)) (.int 0))) (.int 0)))
              (.asrt (.bin .le (.int 0) (.un (.wrap .i64) (.bin .sub (.un .len (.bin .idx (.fn 153 (.bin .cons (.var 14) .nil)) (.int 0))) (.int 1))))
               (.asrt (.un .not (.bin .le (.un .len (.bin .idx (.fn 153 (.bin .cons (.var 14) .nil)) (.int 0))) (.un (.wrap .i64) (.bin .sub (.un .len (.bin .idx (.fn 153 (.bin .cons (.var 14) .nil)) (.int 0))) (.int 1)))))
                (.asrt (.bin .le (.int 0) (.var 5))
                 (.asrt (.un .not (.bin .le (.un .len (.bin .idx (.fn 8 (.bin .cons (.bin .take (.bin .drop (.bin .rep (.var 12) (.int 0)) (.int 0)) (.var 12)) (.bin .cons (.bin .idx (.fn 27 (.bin .cons (.var 0) (.bin .cons (.var 1) (.bin .cons (.var 2) (.bin .cons (.var 3) (.bin .cons (.var 4) (.bin .cons (.var 5) (.bin .cons (.var 6) (.bin .cons (.var 7) (.bin .cons (.var 8) (.bin .cons (.var 9) (.bin .cons (.var 10) (.bin .cons (.var 11) (.bin .cons (.var 12) (.bin .cons (.var 13) .nil))))))))))))))) (.int 0)) .nil))) (.int 0))) (.var 5)))
                  (.asrt (.un .not (.bin .le (.un .len (.tri .set (.bin .idx (.fn 8 (.bin .cons (.bin .take (.bin .drop (.bin .rep (.var 12) (.int 0)) (.int 0)) (.var 12)) (.bin .cons (.bin .idx (.fn 27 (.bin .cons (.var 0) (.bin .cons (.var 1) (.bin .cons (.var 2) (.bin .cons (.var 3) (.bin .cons (.var 4) (.bin .cons (.var 5) (.bin .cons (.var 6) (.bin .cons (.var 7) (.bin .cons (.var 8) (.bin .cons (.var 9) (.bin .cons (.var 10) (.bin .cons (.var 11) (.bin .cons (.var 12) (.bin .cons (.var 13) .nil))))))))))))))) (.int 0)) .nil))) (.int 0)) (.bin .add (.int 0) (.var 8)) (.bin .idx (.fn 153 (.bin .cons (.var 14) .nil)) (.int 1)))) (.bin .add (.int 0) (.var 5))))
                   (.loop 16 [(.int 0), (.tri .set (.tri .set (.bin .idx (.fn 8 (.bin .cons (.bin .take (.bin .drop (.bin .rep (.var 12) (.int 0)) (.int 0)) (.var 12)) (.bin .cons (.bin .idx (.fn 27 (.bin .cons (.var 0) (.bin .cons (.var 1) (.bin .cons (.var 2) (.bin .cons (.var 3) (.bin .cons (.var 4) (.bin .cons (.var 5) (.bin .cons (.var 6) (.bin .cons (.var 7) (.bin .cons (.var 8) (.bin .cons (.var 9) (.bin .cons (.var 10) (.bin .cons (.var 11) (.bin .cons (.var 12) (.bin .cons (.var 13) .nil))))))))))))))) (.int 0)) .nil))) (.int 0)) (.bin .add (.int 0) (.var 8)) (.bin .idx (.fn 153 (.bin .cons (.var 14) .nil)) (.int 1))) (.bin .add (.int 0) (.var 5)) (.bin .idx (.bin .idx (.bin .idx (.fn 153 (.bin .cons (.var 14) .nil)) (.int 0)) (.bin .add (.int 0) (.un (.wrap .i64) (.bin .sub (.un .len (.bin .idx (.fn 153 (.bin .cons (.var 14) .nil)) (.int 0))) (.int 1))))) (.int 0)))]
                    (.br (.un .not (.bin .le (.var 1) (.var 16)))
                     (.loop 18 [(.un (.wrap .i64) (.bin .sub (.un .len (.bin .idx (.fn 153 (.bin .cons (.var 14) .nil)) (.int 0))) (.int 1)))]
                      (.br (.bin .le (.int 0) (.var 18))
                       (.asrt (.un .not (.bin .le (.un .len (.bin .idx (.fn 153 (.bin .cons (.var 14) .nil)) (.int 0))) (.var 18)))
                        (.loop 19 [(.int 0)]
                         (.br (.un .not (.bin .le (.un .len (.bin .idx (.bin .idx (.bin .idx (.fn 153 (.bin .cons (.var 14) .nil)) (.int 0)) (.bin .add (.int 0) (.var 18))) (.int 1))) (.var 19)))
                          (.asrt (.bin .le (.int 0) (.var 19))
                           (.br (.bin .eq (.bin .idx (.bin .idx (.bin .idx (.bin .idx (.bin .idx (.fn 153 (.bin .cons (.var 14) .nil)) (.int 0)) (.bin .add (.int 0) (.var 18))) (.int 1)) (.var 19)) (.int 0)) (.var 16))
                            .fail
                            (.leaf [(.un (.wrap .i64) (.bin .add (.var 19) (.int 1)))])))
                          .fail)
                         (.br (.un .not (.bin .le (.un .len (.bin .idx (.bin .idx (.bin .idx (.fn 153 (.bin .cons (.var 14) .nil)) (.int 0)) (.bin .add (.int 0) (.var 18))) (.int 1))) (.var 19)))
                          (.asrt (.bin .le (.int 0) (.var 19))
                           .fail)
                          (.leaf [(.un (.wrap .i64) (.bin .sub (.var 18) (.int 1)))]))))
                       .fail)
                      (.br (.bin .le (.int 0) (.var 18))
                       (.asrt (.un .not (.bin .le (.un .len (.bin .idx (.fn 153 (.bin .cons (.var 14) .nil)) (.int 0))) (.var 18)))
                        (.loop 19 [(.int 0)]
                         (.br (.un .not (.bin .le (.un .len (.bin .idx (.bin .idx (.bin .idx (.fn 153 (.bin .cons (.var 14) .nil)) (.int 0)) (.bin .add (.int 0) (.var 18))) (.int 1))) (.var 19)))
                          (.asrt (.bin .le (.int 0) (.var 19))
                           (.br (.bin .eq (.bin .idx (.bin .idx (.bin .idx (.bin .idx (.bin .idx (.fn 153 (.bin .cons (.var 14) .nil)) (.int 0)) (.bin .add (.int 0) (.var 18))) (.int 1)) (.var 19)) (.int 0)) (.var 16))
                            .fail
                            (.leaf [(.un (.wrap .i64) (.bin .add (.var 19) (.int 1)))])))
                          .fail)
                         (.br (.un .not (.bin .le (.un .len (.bin .idx (.bin .idx (.bin .idx (.fn 153 (.bin .cons (.var 14) .nil)) (.int 0)) (.bin .add (.int 0) (.var 18))) (.int 1))) (.var 19)))
                          (.asrt (.bin .le (.int 0) (.var 19))
                           (.br (.bin .eq (.bin .idx (.bin .idx (.bin .idx (.bin .idx (.bin .idx (.fn 153 (.bin .cons (.var 14) .nil)) (.int 0)) (.bin .add (.int 0) (.var 18))) (.int 1)) (.var 19)) (.int 0)) (.var 16))
                            (.br (.un .not (.bin .le (.int 0) (.var 16)))
                             .fail
                             (.asrt (.bin .le (.int 0) (.un (.wrap .i64) (.bin .add (.un (.wrap .i64) (.bin .add (.var 11) (.un (.wrap .i64) (.bin .mul (.int 4) (.var 16))))) (.int 1))))
                              (.asrt (.un .not (.bin .le (.un .len (.bin .idx (.fn 8 (.bin .cons (.bin .take (.bin .drop (.bin .rep (.var 12) (.int 0)) (.int 0)) (.var 12)) (.bin .cons (.bin .idx (.fn 27 (.bin .cons (.var 0) (.bin .cons (.var 1) (.bin .cons (.var 2) (.bin .cons (.var 3) (.bin .cons (.var 4) (.bin .cons (.var 5) (.bin .cons (.var 6) (.bin .cons (.var 7) (.bin .cons (.var 8) (.bin .cons (.var 9) (.bin .cons (.var 10) (.bin .cons (.var 11) (.bin .cons (.var 12) (.bin .cons (.var 13) .nil))))))))))))))) (.int 0)) .nil))) (.int 0))) (.un (.wrap .i64) (.bin .add (.un (.wrap .i64) (.bin .add (.var 11) (.un (.wrap .i64) (.bin .mul (.int 4) (.var 16))))) (.int 1)))))
                               (.asrt (.un .not (.bin .le (.un .len (.var 17)) (.bin .add (.int 0) (.un (.wrap .i64) (.bin .add (.un (.wrap .i64) (.bin .add (.var 11) (.un (.wrap .i64) (.bin .mul (.int 4) (.var 16))))) (.int 1))))))
                                (.asrt (.bin .le (.int 0) (.un (.wrap .i64) (.bin .add (.un (.wrap .i64) (.bin .add (.var 11) (.un (.wrap .i64) (.bin .mul (.int 4) (.var 16))))) (.int 0))))
                                 (.asrt (.un .not (.bin .le (.un .len (.bin .idx (.fn 8 (.bin .cons (.bin .take (.bin .drop (.bin .rep (.var 12) (.int 0)) (.int 0)) (.var 12)) (.bin .cons (.bin .idx (.fn 27 (.bin .cons (.var 0) (.bin .cons (.var 1) (.bin .cons (.var 2) (.bin .cons (.var 3) (.bin .cons (.var 4) (.bin .cons (.var 5) (.bin .cons (.var 6) (.bin .cons (.var 7) (.bin .cons (.var 8) (.bin .cons (.var 9) (.bin .cons (.var 10) (.bin .cons (.var 11) (.bin .cons (.var 12) (.bin .cons (.var 13) .nil))))))))))))))) (.int 0)) .nil))) (.int 0))) (.un (.wrap .i64) (.bin .add (.un (.wrap .i64) (.bin .add (.var 11) (.un (.wrap .i64) (.bin .mul (.int 4) (.var 16))))) (.int 0)))))
                                  (.asrt (.un .not (.bin .le (.un .len (.tri .set (.var 17) (.bin .add (.int 0) (.un (.wrap .i64) (.bin .add (.un (.wrap .i64) (.bin .add (.var 11) (.un (.wrap .i64) (.bin .mul (.int 4) (.var 16))))) (.int 1)))) (.bin .idx (.bin .idx (.bin .idx (.bin .idx (.bin .idx (.fn 153 (.bin .cons (.var 14) .nil)) (.int 0)) (.bin .add (.int 0) (.var 18))) (.int 1)) (.var 19)) (.int 1)))) (.bin .add (.int 0) (.un (.wrap .i64) (.bin .add (.un (.wrap .i64) (.bin .add (.var 11) (.un (.wrap .i64) (.bin .mul (.int 4) (.var 16))))) (.int 0))))))
                                   (.leaf [(.un (.wrap .i64) (.bin .add (.var 16) (.int 1))), (.tri .set (.tri .set (.var 17) (.bin .add (.int 0) (.un (.wrap .i64) (.bin .add (.un (.wrap .i64) (.bin .add (.var 11) (.un (.wrap .i64) (.bin .mul (.int 4) (.var 16))))) (.int 1)))) (.bin .idx (.bin .idx (.bin .idx (.bin .idx (.bin .idx (.fn 153 (.bin .cons (.var 14) .nil)) (.int 0)) (.bin .add (.int 0) (.var 18))) (.int 1)) (.var 19)) (.int 1))) (.bin .add (.int 0) (.un (.wrap .i64) (.bin .add (.un (.wrap .i64) (.bin .add (.var 11) (.un (.wrap .i64) (.bin .mul (.int 4) (.var 16))))) (.int 0)))) (.bin (.shl .i64) (.bin .idx (.bin .idx (.bin .idx (.fn 153 (.bin .cons (.var 14) .nil)) (.int 0)) (.bin .add (.int 0) (.var 18))) (.int 0)) (.int 1)))]))))))))
                            .fail))
                          .fail)))
                       (.leaf [(.un (.wrap .i64) (.bin .add (.var 16) (.int 1))), (.var 17)])))
                     .fail)
                    (.br (.un .not (.bin .le (.var 1) (.var 16)))
                     (.loop 18 [(.un (.wrap .i64) (.bin .sub (.un .len (.bin .idx (.fn 153 (.bin .cons (.var 14) .nil)) (.int 0))) (.int 1)))]
                      (.br (.bin .le (.int 0) (.var 18))
                       (.asrt (.un .not (.bin .le (.un .len (.bin .idx (.fn 153 (.bin .cons (.var 14) .nil)) (.int 0))) (.var 18)))
                        (.loop 19 [(.int 0)]
                         (.br (.un .not (.bin .le (.un .len (.bin .idx (.bin .idx (.bin .idx (.fn 153 (.bin .cons (.var 14) .nil)) (.int 0)) (.bin .add (.int 0) (.var 18))) (.int 1))) (.var 19)))
                          (.asrt (.bin .le (.int 0) (.var 19))
                           (.br (.bin .eq (.bin .idx (.bin .idx (.bin .idx (.bin .idx (.bin .idx (.fn 153 (.bin .cons (.var 14) .nil)) (.int 0)) (.bin .add (.int 0) (.var 18))) (.int 1)) (.var 19)) (.int 0)) (.var 16))
                            .fail
                            (.leaf [(.un (.wrap .i64) (.bin .add (.var 19) (.int 1)))])))
                          .fail)
                         (.br (.un .not (.bin .le (.un .len (.bin .idx (.bin .idx (.bin .idx (.fn 153 (.bin .cons (.var 14) .nil)) (.int 0)) (.bin .add (.int 0) (.var 18))) (.int 1))) (.var 19)))
                          (.asrt (.bin .le (.int 0) (.var 19))
                           .fail)
                          (.leaf [(.un (.wrap .i64) (.bin .sub (.var 18) (.int 1)))]))))
                       .fail)
                      (.br (.bin .le (.int 0) (.var 18))
                       (.asrt (.un .not (.bin .le (.un .len (.bin .idx (.fn 153 (.bin .cons (.var 14) .nil)) (.int 0))) (.var 18)))
                        (.loop 19 [(.int 0)]
                         (.br (.un .not (.bin .le (.un .len (.bin .idx (.bin .idx (.bin .idx (.fn 153 (.bin .cons (.var 14) .nil)) (.int 0)) (.bin .add (.int 0) (.var 18))) (.int 1))) (.var 19)))
                          (.asrt (.bin .le (.int 0) (.var 19))
                           (.br (.bin .eq (.bin .idx (.bin .idx (.bin .idx (.bin .idx (.bin .idx (.fn 153 (.bin .cons (.var 14) .nil)) (.int 0)) (.bin .add (.int 0) (.var 18))) (.int 1)) (.var 19)) (.int 0)) (.var 16))
                            .fail
                            (.leaf [(.un (.wrap .i64) (.bin .add (.var 19) (.int 1)))])))
                          .fail)
                         (.br (.un .not (.bin .le (.un .len (.bin .idx (.bin .idx (.bin .idx (.fn 153 (.bin .cons (.var 14) .nil)) (.int 0)) (.bin .add (.int 0) (.var 18))) (.int 1))) (.var 19)))
                          (.asrt (.bin .le (.int 0) (.var 19))
                           (.br (.bin .eq (.bin .idx (.bin .idx (.bin .idx (.bin .idx (.bin .idx (.fn 153 (.bin .cons (.var 14) .nil)) (.int 0)) (.bin .add (.int 0) (.var 18))) (.int 1)) (.var 19)) (.int 0)) (.var 16))
                            (.br (.un .not (.bin .le (.int 0) (.var 16)))
                             .fail
                             (.asrt (.bin .le (.int 0) (.un (.wrap .i64) (.bin .add (.un (.wrap .i64) (.bin .add (.var 11) (.un (.wrap .i64) (.bin .mul (.int 4) (.var 16))))) (.int 1))))
                              (.asrt (.un .not (.bin .le (.un .len (.bin .idx (.fn 8 (.bin .cons (.bin .take (.bin .drop (.bin .rep (.var 12) (.int 0)) (.int 0)) (.var 12)) (.bin .cons (.bin .idx (.fn 27 (.bin .cons (.var 0) (.bin .cons (.var 1) (.bin .cons (.var 2) (.bin .cons (.var 3) (.bin .cons (.var 4) (.bin .cons (.var 5) (.bin .cons (.var 6) (.bin .cons (.var 7) (.bin .cons (.var 8) (.bin .cons (.var 9) (.bin .cons (.var 10) (.bin .cons (.var 11) (.bin .cons (.var 12) (.bin .cons (.var 13) .nil))))))))))))))) (.int 0)) .nil))) (.int 0))) (.un (.wrap .i64) (.bin .add (.un (.wrap .i64) (.bin .add (.var 11) (.un (.wrap .i64) (.bin .mul (.int 4) (.var 16))))) (.int 1)))))
                               (.asrt (.un .not (.bin .le (.un .len (.var 17)) (.bin .add (.int 0) (.un (.wrap .i64) (.bin .add (.un (.wrap .i64) (.bin .add (.var 11) (.un (.wrap .i64) (.bin .mul (.int 4) (.var 16))))) (.int 1))))))
                                (.asrt (.bin .le (.int 0) (.un (.wrap .i64) (.bin .add (.un (.wrap .i64) (.bin .add (.var 11) (.un (.wrap .i64) (.bin .mul (.int 4) (.var 16))))) (.int 0))))
                                 (.asrt (.un .not (.bin .le (.un .len (.bin .idx (.fn 8 (.bin .cons (.bin .take (.bin .drop (.bin .rep (.var 12) (.int 0)) (.int 0)) (.var 12)) (.bin .cons (.bin .idx (.fn 27 (.bin .cons (.var 0) (.bin .cons (.var 1) (.bin .cons (.var 2) (.bin .cons (.var 3) (.bin .cons (.var 4) (.bin .cons (.var 5) (.bin .cons (.var 6) (.bin .cons (.var 7) (.bin .cons (.var 8) (.bin .cons (.var 9) (.bin .cons (.var 10) (.bin .cons (.var 11) (.bin .cons (.var 12) (.bin .cons (.var 13) .nil))))))))))))))) (.int 0)) .nil))) (.int 0))) (.un (.wrap .i64) (.bin .add (.un (.wrap .i64) (.bin .add (.var 11) (.un (.wrap .i64) (.bin .mul (.int 4) (.var 16))))) (.int 0)))))
                                  (.asrt (.un .not (.bin .le (.un .len (.tri .set (.var 17) (.bin .add (.int 0) (.un (.wrap .i64) (.bin .add (.un (.wrap .i64) (.bin .add (.var 11) (.un (.wrap .i64) (.bin .mul (.int 4) (.var 16))))) (.int 1)))) (.bin .idx (.bin .idx (.bin .idx (.bin .idx (.bin .idx (.fn 153 (.bin .cons (.var 14) .nil)) (.int 0)) (.bin .add (.int 0) (.var 18))) (.int 1)) (.var 19)) (.int 1)))) (.bin .add (.int 0) (.un (.wrap .i64) (.bin .add (.un (.wrap .i64) (.bin .add (.var 11) (.un (.wrap .i64) (.bin .mul (.int 4) (.var 16))))) (.int 0))))))
                                   .fail)))))))
                            .fail))
                          .fail)))
                       .fail))
                     (.asrt (.bin .le (.bin .add (.int 0) (.un .len (.bin .idx (.fn 8 (.bin .cons (.bin .take (.bin .drop (.bin .rep (.var 12) (.int 0)) (.int 0)) (.var 12)) (.bin .cons (.bin .idx (.fn 27 (.bin .cons (.var 0) (.bin .cons (.var 1) (.bin .cons (.var 2) (.bin .cons (.var 3) (.bin .cons (.var 4) (.bin .cons (.var 5) (.bin .cons (.var 6) (.bin .cons (.var 7) (.bin .cons (.var 8) (.bin .cons (.var 9) (.bin .cons (.var 10) (.bin .cons (.var 11) (.bin .cons (.var 12) (.bin .cons (.var 13) .nil))))))))))))))) (.int 0)) .nil))) (.int 0)))) (.un .len (.var 17)))
                      (.leaf [(.bin .take (.bin .drop (.var 17) (.int 0)) (.un .len (.bin .idx (.fn 8 (.bin .cons (.bin .take (.bin .drop (.bin .rep (.var 12) (.int 0)) (.int 0)) (.var 12)) (.bin .cons (.bin .idx (.fn 27 (.bin .cons (.var 0) (.bin .cons (.var 1) (.bin .cons (.var 2) (.bin .cons (.var 3) (.bin .cons (.var 4) (.bin .cons (.var 5) (.bin .cons (.var 6) (.bin .cons (.var 7) (.bin .cons (.var 8) (.bin .cons (.var 9) (.bin .cons (.var 10) (.bin .cons (.var 11) (.bin .cons (.var 12) (.bin .cons (.var 13) .nil))))))))))))))) (.int 0)) .nil))) (.int 0)))), (.bin .idx (.fn 153 (.bin .cons (.var 14) .nil)) (.int 0))])))))))))
              (.loop 16 [(.int 0)]
               (.br (.un .not (.bin .le (.var 1) (.var 16)))
                (.loop 17 []
                 .fail
                 (.leaf [(.un (.wrap .i64) (.bin .add (.var 16) (.int 1)))]))
                .fail)
               (.br (.un .not (.bin .le (.var 1) (.var 16)))
                (.loop 17 []
                 .fail
                 .fail)
                (.leaf [(.tri .set (.bin .idx (.fn 8 (.bin .cons (.bin .take (.bin .drop (.bin .rep (.var 12) (.int 0)) (.int 0)) (.var 12)) (.bin .cons (.bin .idx (.fn 27 (.bin .cons (.var 0) (.bin .cons (.var 1) (.bin .cons (.var 2) (.bin .cons (.var 3) (.bin .cons (.var 4) (.bin .cons (.var 5) (.bin .cons (.var 6) (.bin .cons (.var 7) (.bin .cons (.var 8) (.bin .cons (.var 9) (.bin .cons (.var 10) (.bin .cons (.var 11) (.bin .cons (.var 12) (.bin .cons (.var 13) .nil))))))))))))))) (.int 0)) .nil))) (.int 0)) (.bin .add (.int 0) (.var 8)) (.bin .idx (.fn 153 (.bin .cons (.var 14) .nil)) (.int 1))), (.bin .idx (.fn 153 (.bin .cons (.var 14) .nil)) (.int 0))])))))))))))))))))
def dBootSm : List (Nat × Smy) := [(12, ⟨153, [.one (.rows false [.str])], [.one (.nst [.pl (.int .i64), .sub [.int .i64, .int .i64]]), .one (.pl (.int .i64))], lenC [(0, 1000)], none⟩), (52, ⟨8, [.agg [.rows false [.int .i64]], .one (.rows false [.int .i64, .int .i64, .int .i64, .int .i64, .str])], [.agg [.rows false [.int .i64]], .one (.rows true [.int .i64, .bool]), .one (.pl (.int .i64))], lenC [(0, 1000000), (1, 1000000)], none⟩), (53, ⟨27, [.agg [.pl (.int .i64), .pl (.int .i64), .pl (.int .i64), .pl (.int .i64), .pl (.int .i64), .pl (.int .i64), .pl (.int .i64), .pl (.int .i64), .pl (.int .i64), .pl (.int .i64), .pl (.int .i64), .pl (.int .i64), .pl (.int .i64)], .one (.rows false [.int .i64])], [.one (.rows true [.int .i64, .int .i64, .int .i64, .int .i64, .str])], fun es => lenC [(13, 1000000)] es ++ rgeC [(1, 0, 1000)] es, none⟩)]
def dBootLa : List (LK × LA) := [(⟨91, 9, 41, 16, 14⟩, ⟨[(15, .any), (16, .any), (17, .any), (18, .any), (62, (.int .i64 (.var 16))), (63, .any), (64, .any), (65, .any), (66, .any), (67, .any), (68, .any), (69, .any), (70, .any), (71, .any), (72, .any), (73, .any), (74, .any), (75, .any), (76, .any), (77, .any), (78, .any), (79, .any), (80, .any), (81, .any), (82, .any), (83, .any), (84, .any), (85, .any), (86, .any), (87, .any)], [], [], 1, 0⟩),
  (⟨19, 1, 48, 17, 15⟩, ⟨[(7, .any), (8, .any), (11, .any), (12, .any), (13, .any), (14, .any), (15, .any), (16, .any), (17, .any), (18, .any), (9, .any), (10, .any)], [], [], 0, 0⟩),
  (⟨91, 9, 52, 16, 19⟩, ⟨[(15, .any), (16, .any), (17, .any), (18, .any), (62, (.int .i64 (.var 16))), (63, .any), (64, .any), (65, .any), (66, .any), (67, .any), (68, .any), (69, .any), (70, .any), (71, .any), (72, .any), (73, .any), (74, .any), (75, .any), (76, .any), (77, .any), (78, .any), (79, .any), (80, .any), (81, .any), (82, .any), (83, .any), (84, .any), (85, .any), (86, .any), (87, .any)], [(40, (.rows [.int .i64] (.var 17)))], [], 2, 0⟩),
  (⟨19, 1, 59, 18, 20⟩, ⟨[(3, (.int .i64 (.var 18))), (7, .any), (8, .any), (9, .any), (10, .any), (11, .any), (12, .any), (13, .any), (14, .any), (15, .any), (16, .any), (17, .any), (18, .any)], [], [], 1, 0⟩),
  (⟨19, 2, 60, 19, 22⟩, ⟨[(5, .any), (8, (.int .i64 (.var 19))), (9, .any), (10, .any), (11, .any), (12, .any), (13, .any), (14, .any), (15, .any), (16, .any), (17, .any), (18, .any)], [], [], 1, 0⟩)]
def dBootPhi : Fs := ⟨fun n d => match n with
  | 153 => .list (wRecoverF d.l)
  | 8 => .list (memAllF d.l)
  | 27 => .list (layInitF d.l)
  | _ => d, 147⟩
theorem dBootS : SmyOk true Tryd.prog dBootPhi dBootSm := (smy_cons (lenP [(0, 1000)]) wRecoverF wRecover_pure (len_hp [(0, 1000)]) (fun _ => rfl) (fun _ h => by cases h) (smy_cons (lenP [(0, 1000000), (1, 1000000)]) memAllF memAll_pure (len_hp [(0, 1000000), (1, 1000000)]) (fun _ => rfl) (fun _ h => by cases h) (smy_cons (fun ds => lenP [(13, 1000000)] ds ∧ rgeP [(1, 0, 1000)] ds) layInitF layInit_pure (both_hp [(13, 1000000)] [(1, 0, 1000)]) (fun _ => rfl) (fun _ h => by cases h) smy_nil)))
theorem dBootT : treeOk ⟨Tryd.prog, dBootSm, dBootLa, true⟩ 4000 23 [.agg [.pl (.int .i64), .pl (.int .i64), .pl (.int .i64), .pl (.int .i64), .pl (.int .i64), .pl (.int .i64), .pl (.int .i64), .pl (.int .i64), .pl (.int .i64), .pl (.int .i64), .pl (.int .i64), .pl (.int .i64), .pl (.int .i64)], .one (.rows false [.int .i64]), .agg [.rows false [.str], .rows false [.int .i64, .str]]] [.agg [.rows false [.int .i64]], .one (.nst [.pl (.int .i64), .sub [.int .i64, .int .i64]])] ([]) dBootTree = true := by decide +kernel
set_option maxHeartbeats 1000000 in
theorem dBoot_pure : PureE true Tryd.prog 23 [.agg [.pl (.int .i64), .pl (.int .i64), .pl (.int .i64), .pl (.int .i64), .pl (.int .i64), .pl (.int .i64), .pl (.int .i64), .pl (.int .i64), .pl (.int .i64), .pl (.int .i64), .pl (.int .i64), .pl (.int .i64), .pl (.int .i64)], .one (.rows false [.int .i64]), .agg [.rows false [.str], .rows false [.int .i64, .str]]] [.agg [.rows false [.int .i64]], .one (.nst [.pl (.int .i64), .sub [.int .i64, .int .i64]])] (fun ds => (fun ds => lenP [(13, 1000000), (14, 1000), (15, 1000000)] ds ∧ rgeP [(1, 0, 32), (5, 0, 0), (6, 1, 1), (8, 3, 3), (11, 4, 60), (12, 4, 300)] ds) ds ∧ lyP ds) dBootF := by
  refine pure_tree (X := ⟨Tryd.prog, dBootSm, dBootLa, true⟩) (by decide +kernel) (Checked.mixed Tryd.checked) dBootS (by decide +kernel) (by decide +kernel) dBootT (by decide +kernel) ?_
  intro ds hl hp
  obtain ⟨d0, d1, d2, d3, d4, d5, d6, d7, d8, d9, d10, d11, d12, d13, d14, d15, rfl⟩ := len16 hl
  have hy : d11.i + 4 * d1.i ≤ d12.i := hp.2
  have b13 : (d13.l.length : Int) ≤ 1000000 := hp.1.1 (13, 1000000) (by simp)
  have b14 : (d14.l.length : Int) ≤ 1000 := hp.1.1 (14, 1000) (by simp)
  have b15 : (d15.l.length : Int) ≤ 1000000 := hp.1.1 (15, 1000000) (by simp)
  have r1 : 0 ≤ d1.i ∧ d1.i ≤ 32 := hp.1.2 (1, 0, 32) (by simp)
  have r5 : 0 ≤ d5.i ∧ d5.i ≤ 0 := hp.1.2 (5, 0, 0) (by simp)
  have r6 : 1 ≤ d6.i ∧ d6.i ≤ 1 := hp.1.2 (6, 1, 1) (by simp)
  have r8 : 3 ≤ d8.i ∧ d8.i ≤ 3 := hp.1.2 (8, 3, 3) (by simp)
  have r11 : 4 ≤ d11.i ∧ d11.i ≤ 60 := hp.1.2 (11, 4, 60) (by simp)
  have r12 : 4 ≤ d12.i ∧ d12.i ≤ 300 := hp.1.2 (12, 4, 300) (by simp)
  have hF : dBootF [d0, d1, d2, d3, d4, d5, d6, d7, d8, d9, d10, d11, d12, d13, d14, d15] = dBootE d0.i d1.i d2.i d3.i d4.i d5.i d6.i d7.i d8.i d9.i d10.i d11.i d12.i (d13.l.map DV.i) (d14.l.map DV.s) (d15.l.map decis) := rfl
  rw [hF]
  clear hF hp hl
  have hN : nrmL (clsOf [.agg [.pl (.int .i64), .pl (.int .i64), .pl (.int .i64), .pl (.int .i64), .pl (.int .i64), .pl (.int .i64), .pl (.int .i64), .pl (.int .i64), .pl (.int .i64), .pl (.int .i64), .pl (.int .i64), .pl (.int .i64), .pl (.int .i64)], .one (.rows false [.int .i64]), .agg [.rows false [.str], .rows false [.int .i64, .str]]]) [d0, d1, d2, d3, d4, d5, d6, d7, d8, d9, d10, d11, d12, d13, d14, d15] = [.int d0.i, .int d1.i, .int d2.i, .int d3.i, .int d4.i, .int d5.i, .int d6.i, .int d7.i, .int d8.i, .int d9.i, .int d10.i, .int d11.i, .int d12.i, .list ((d13.l.map DV.i).map DV.int), .list ((d14.l.map DV.s).map DV.str), .list ((d15.l.map decis).map encis)] := by
    simp only [clsOf, Sh.cls, List.append_nil, List.cons_append, List.nil_append, nrmL, Cl.nrm, CK.nrm, map_Li, map_Lis, map_Ls]
  rw [hN]
  clear hN
  generalize d0.i = x0
  generalize d1.i = x1 at r1 hy ⊢
  generalize d2.i = x2
  generalize d3.i = x3
  generalize d4.i = x4
  generalize d5.i = x5 at r5 ⊢
  generalize d6.i = x6 at r6 ⊢
  generalize d7.i = x7
  generalize d8.i = x8 at r8 ⊢
  generalize d9.i = x9
  generalize d10.i = x10
  generalize d11.i = x11 at r11 hy ⊢
  generalize d12.i = x12 at r12 hy ⊢
  rw [← List.length_map (f := DV.i)] at b13
  generalize d13.l.map DV.i = x13 at b13 ⊢
  rw [← List.length_map (f := DV.s)] at b14
  generalize d14.l.map DV.s = x14 at b14 ⊢
  rw [← List.length_map (f := decis)] at b15
  generalize d15.l.map decis = x15 at b15 ⊢
  refine ⟨facts_nil _, ?_⟩
  unfold dBootTree dBootE
  obtain rfl : x5 = 0 := by omega
  obtain rfl : x6 = 1 := by omega
  obtain rfl : x8 = 3 := by omega
  obtain ⟨N, rfl⟩ : ∃ N : Nat, x12 = N := ⟨x12.toNat, by omega⟩
  obtain ⟨L, rfl⟩ : ∃ L : Nat, x1 = L := ⟨x1.toNat, by omega⟩
  obtain ⟨m1, m2, m3⟩ := manyI_le (L : Int) x13 r1.1
  obtain ⟨t, ht⟩ := inits_all (sz := N) x13 r11.1 (by omega) (by omega) hy (by omega) (manyI L x13) m2
  have hz : List.map DV.i (List.take N (List.drop 0 (List.replicate N (DV.int 0)))) = List.replicate N 0 := by
    rw [List.drop_zero, List.take_of_length_le (by simp), List.map_replicate]; rfl
  have hrl := recover_len x14
  have hrw := recover_w x14
  simp only [Sat, clsOf, Sh.cls, List.append_nil, List.cons_append, List.nil_append, nrmL, Cl.nrm, List.map_cons, List.map_nil, List.length_cons, List.length_nil, List.cons.injEq, DV.list.injEq, and_true, true_and]
  try simp only [q_le, q_eq, q_not, iff_true, iff_false, Bool.not_true, Bool.not_false, Bool.false_eq_true, eq_self]
  simp only [SE.den, evU, evT, ev_add, ev_sub, ev_mul, ev_shl, ev_idx, ev_cons, ev_take, ev_drop, ev_rep, i_int, l_list, envL, List.getElem?_cons_succ, List.getElem?_cons_zero, Option.getD_some, Int.toNat_natCast, Int.toNat_zero, Int.reduceToNat, List.length_map, set_Li, inj_Li, rows_i, Int.zero_add, and_true, eq_self, List.length_replicate, f_En_0, rows_En, f_En_1, rows_En, dBootPhi, wRecoverF, wRecoverE, memAllF, memAllE, layInitF, layInitE, gi, gLi, gLs, dece_i, dece_s, gLiiiis, deces_iiiis, hz, ht, cells_len]
  generalize recoverM x14 = rc at *
  obtain ⟨es, en⟩ := rc
  dsimp only at hrl hrw ⊢
  have hz2 := stage_zero (sz := N) (base := x11) (locs := L) (en := en) (first := x13) (es := es) (n := manyI L x13) m3
  have hsh : ∀ v : Int, IntKind.i64.wrap (v * 2 ^ min 1 IntKind.i64.bits) = freeM v := fun v => by
    unfold freeM
    rw [show v * 2 ^ min 1 IntKind.i64.bits = 2 * v by rw [Int.mul_comm]; rfl]
  have hV : ∀ j : Nat, j < L → IntKind.i64.wrap (IntKind.i64.wrap (x11 + IntKind.i64.wrap (4 * (j : Int))) + 1) = x11 + 4 * j + 1 := fun j hj => by simp only [w64_eq]; omega
  have hW : ∀ j : Nat, j < L → IntKind.i64.wrap (IntKind.i64.wrap (x11 + IntKind.i64.wrap (4 * (j : Int))) + 0) = x11 + 4 * j := fun j hj => by simp only [w64_eq]; omega
  refine ⟨b14, by omega, by omega, b13, r1.1, by omega, Int.le_refl _, by simp; omega, by rw [List.length_cons, initsM_len]; omega, fun h => absurd h (by omega), fun _ => ⟨by omega, by omega, by omega, fun hne => ?_, fun he => ?_⟩⟩
  · have hwl : IntKind.i64.wrap ((es.length : Int) - 1) = es.length - 1 := w64 (by omega) (by omega)
    have hck : (es[es.length - 1]?.getD dEn).1 = clkM es := rfl
    have htn : ((es.length : Int) - 1).toNat = es.length - 1 := by omega
    simp only [hwl, htn, set_en, List.length_set, cells_len]
    refine ⟨by omega, by omega, by omega, by omega, by omega, ?_⟩
    refine rounds_at L (fun j => [.int j, .list ((stageC N x11 L x13 es en j).map DV.int)]) ?_ (fun _ => rfl) (fun j hj => ?_) ?_
    · rw [raw_En_0, hck, set_Li, set_ck, hz2]
      rfl
    · have hwj : IntKind.i64.wrap ((j : Int) + 1) = ((j + 1 : Nat) : Int) := by rw [w64 (by omega) (by omega)]; omega
      simp only [i_int, l_list, List.getElem?_cons_succ, List.getElem?_cons_zero, Option.getD_some, List.length_map, inj_Li, and_true, eq_self, DV.int.injEq, DV.list.injEq, List.cons.injEq, List.cons_append, List.nil_append]
      refine ⟨fun _ => ⟨rfl, ?_⟩, fun h => absurd h (by omega)⟩
      refine last_loop es j (fun i hi hno => ?_) (fun hn => ?_) (fun i q hi hq hno hk hlast => ?_)
      · have hwi : IntKind.i64.wrap ((i : Int) - 1) = i - 1 := w64 (by omega) (by omega)
        simp only [i_int, List.getElem?_cons_succ, List.getElem?_cons_zero, Option.getD_some, Int.toNat_natCast, eq_self, List.cons_append, List.nil_append, f_ii_0, hwi]
        refine ⟨fun _ => ⟨by omega, rfl, ?_⟩, fun h => absurd (by omega) h⟩
        have := hrw i
        refine scan_loop (Nat.le_refl _) hno (fun t ht hne => ?_) ?_
        · simp only [i_int, List.getElem?_cons_zero, Option.getD_some, Int.toNat_natCast, and_true, eq_self, DV.int.injEq, List.cons.injEq, w64 (n := (t : Int) + 1) (by omega) (by omega)]
          exact ⟨fun _ => ⟨by omega, hne, fun _ => by omega⟩, fun h => absurd h (by omega)⟩
        · simp only [i_int, List.getElem?_cons_zero, Option.getD_some]
          exact ⟨fun h => absurd (Int.le_refl _) h, fun _ => trivial⟩
      · simp only [i_int, List.getElem?_cons_succ, List.getElem?_cons_zero, Option.getD_some, Int.reduceToNat, true_and, eq_self, List.cons_append, List.nil_append, hwj]
        exact ⟨fun h => absurd h (by omega), fun _ => (stageC_none hn).symm⟩
      · have hwi : IntKind.i64.wrap ((i : Int) - 1) = i - 1 := w64 (by omega) (by omega)
        simp only [i_int, List.getElem?_cons_succ, List.getElem?_cons_zero, Option.getD_some, Int.toNat_natCast, set_Li, inj_Li, true_and, eq_self, List.cons_append, List.nil_append, f_ii_0, raw_ii_1, hV j hj, hW j hj, hsh, hwj]
        refine ⟨fun _ => ⟨by omega, rfl, ?_⟩, fun h => absurd (by omega) h⟩
        have := hrw i
        refine scan_loop (j := q) (by omega) hno (fun t ht hne => ?_) ?_
        · simp only [i_int, List.getElem?_cons_zero, Option.getD_some, Int.toNat_natCast, and_true, eq_self, DV.int.injEq, List.cons.injEq, w64 (n := (t : Int) + 1) (by omega) (by omega)]
          exact ⟨fun _ => ⟨by omega, hne, fun _ => by omega⟩, fun h => absurd h (by omega)⟩
        · simp only [i_int, List.getElem?_cons_zero, Option.getD_some, Int.toNat_natCast, stageC_len]
          exact ⟨fun _ => ⟨by omega, fun _ => ⟨fun h => absurd (by omega) h, fun _ => ⟨by omega, by omega, by omega, by omega, by omega, by omega, stageC_some hlast (by omega) (by omega)⟩⟩, fun h => h hk⟩, fun h => absurd h (by omega)⟩
    · simp only [i_int, l_list, List.getElem?_cons_succ, List.getElem?_cons_zero, Option.getD_some, List.length_map, List.cons_append, List.nil_append, stageC_len]
      refine ⟨fun h => absurd (Int.le_refl _) h, fun _ => ⟨Int.le_refl _, ?_⟩⟩
      rw [List.drop_zero, List.take_of_length_le (by rw [List.length_map, stageC_len]; exact Nat.le_refl _), rows_i, ← stageC_end]
      rfl
  · have h0 : es = [] := List.eq_nil_of_length_eq_zero (by omega)
    subst h0
    refine rounds_at L (fun j => [.int j]) rfl (fun _ => rfl) (fun j hj => ?_) ?_
    · have hwj : IntKind.i64.wrap ((j : Int) + 1) = ((j + 1 : Nat) : Int) := by rw [w64 (by omega) (by omega)]; omega
      simp only [i_int, List.getElem?_cons_zero, Option.getD_some, eq_self, List.cons_append, List.nil_append, hwj]
      exact ⟨fun _ => ⟨rfl, .done trivial⟩, fun h => absurd h (by omega)⟩
    · simp only [i_int, List.getElem?_cons_zero, Option.getD_some]
      refine ⟨fun h => absurd (Int.le_refl _) h, fun _ => ?_⟩
      rw [set_en]
      exact stage_nil hz2
end Go.Proofs.YtkfjgggiopegbaaDoor
end
section
namespace Go.Proofs.YtkfjgggiopegbaaDoor
set_option linter.unusedVariables false
set_option linter.unusedSimpArgs false
set_option maxRecDepth 100000
def oneM23 (v : Int) (w : List Tii) (v' : Int) (w' : List Tii) : Bool := decide (v = v' ∧ w = w')
def rOneE (v : Int) (w : List Tii) (v' : Int) (w' : List Tii) : List DV := [.bool (oneM23 v w v' w')]
def rOneF (ds : List DV) : List DV := rOneE (gi ds 0) (gLii ds 1) (gi ds 2) (gLii ds 3)
def rOneTree : PT :=
(.br (.un .not (.bin .eq (.var 0) (.var 2)))
 (.leaf [(.bool false)])
 (.br (.un .not (.bin .eq (.un .len (.var 1)) (.un .len (.var 3))))
  (.leaf [(.bool false)])
  (.loop 4 [(.int 0)]
   (.br (.un .not (.bin .le (.un .len (.var 1)) (.var 4)))
    (.asrt (.bin .le (.int 0) (.var 4))
     (.asrt (.un .not (.bin .le (.un .len (.var 3)) (.var 4)))
      (.br (.un .not (.bin .and (.bin .eq (.bin .idx (.bin .idx (.var 1) (.bin .add (.int 0) (.var 4))) (.int 0)) (.bin .idx (.bin .idx (.var 3) (.bin .add (.int 0) (.var 4))) (.int 0))) (.bin .eq (.bin .idx (.bin .idx (.var 1) (.bin .add (.int 0) (.var 4))) (.int 1)) (.bin .idx (.bin .idx (.var 3) (.bin .add (.int 0) (.var 4))) (.int 1)))))
       .fail
       (.leaf [(.un (.wrap .i64) (.bin .add (.var 4) (.int 1)))]))))
    .fail)
   (.br (.un .not (.bin .le (.un .len (.var 1)) (.var 4)))
    (.asrt (.bin .le (.int 0) (.var 4))
     (.asrt (.un .not (.bin .le (.un .len (.var 3)) (.var 4)))
      (.br (.un .not (.bin .and (.bin .eq (.bin .idx (.bin .idx (.var 1) (.bin .add (.int 0) (.var 4))) (.int 0)) (.bin .idx (.bin .idx (.var 3) (.bin .add (.int 0) (.var 4))) (.int 0))) (.bin .eq (.bin .idx (.bin .idx (.var 1) (.bin .add (.int 0) (.var 4))) (.int 1)) (.bin .idx (.bin .idx (.var 3) (.bin .add (.int 0) (.var 4))) (.int 1)))))
       (.leaf [(.bool false)])
       .fail)))
    (.leaf [(.bool true)])))))
def rOneSm : List (Nat × Smy) := []
def rOneLa : List (LK × LA) := [(⟨38, 4, 6, 4, 2⟩, ⟨[(5, (.int .i64 (.var 4))), (20, .any), (21, .any), (22, .any), (23, .any), (24, .any), (25, .any), (26, .any), (27, .any), (28, .any), (29, .any), (30, .any), (31, .any), (32, .any), (33, .any), (34, .any), (35, .any), (36, .any), (37, .any)], [], [], 1, 0⟩)]
def rOnePhi : Fs := ⟨fun n d => match n with
  | _ => d, 147⟩
theorem rOneS : SmyOk true Tryd.prog rOnePhi rOneSm := smy_nil
theorem rOneT : treeOk ⟨Tryd.prog, rOneSm, rOneLa, true⟩ 4000 14 [.agg [.pl (.int .i64), .rows false [.int .i64, .int .i64]], .agg [.pl (.int .i64), .rows false [.int .i64, .int .i64]]] [.one (.pl .bool)] ([]) rOneTree = true := by decide +kernel
set_option maxHeartbeats 1000000 in
theorem rOne_pure : PureE true Tryd.prog 14 [.agg [.pl (.int .i64), .rows false [.int .i64, .int .i64]], .agg [.pl (.int .i64), .rows false [.int .i64, .int .i64]]] [.one (.pl .bool)] (lenP [(1, 1000000), (3, 1000000)]) rOneF := by
  refine pure_tree (X := ⟨Tryd.prog, rOneSm, rOneLa, true⟩) (by decide +kernel) (Checked.mixed Tryd.checked) rOneS (by decide +kernel) (by decide +kernel) rOneT (by decide +kernel) ?_
  intro ds hl hp
  obtain ⟨d0, d1, d2, d3, rfl⟩ := len4 hl
  have b1 : (d1.l.length : Int) ≤ 1000000 := hp (1, 1000000) (by simp)
  have b3 : (d3.l.length : Int) ≤ 1000000 := hp (3, 1000000) (by simp)
  have hF : rOneF [d0, d1, d2, d3] = rOneE d0.i (d1.l.map decii) d2.i (d3.l.map decii) := rfl
  rw [hF]
  clear hF hp hl
  have hN : nrmL (clsOf [.agg [.pl (.int .i64), .rows false [.int .i64, .int .i64]], .agg [.pl (.int .i64), .rows false [.int .i64, .int .i64]]]) [d0, d1, d2, d3] = [.int d0.i, .list ((d1.l.map decii).map encii), .int d2.i, .list ((d3.l.map decii).map encii)] := by
    simp only [clsOf, Sh.cls, List.append_nil, List.cons_append, List.nil_append, nrmL, Cl.nrm, CK.nrm, map_Lii]
  rw [hN]
  clear hN
  generalize d0.i = x0
  rw [← List.length_map (f := decii)] at b1
  generalize d1.l.map decii = x1 at b1 ⊢
  generalize d2.i = x2
  rw [← List.length_map (f := decii)] at b3
  generalize d3.l.map decii = x3 at b3 ⊢
  refine ⟨facts_nil _, ?_⟩
  unfold rOneTree rOneE oneM23
  simp only [Sat, clsOf, Sh.cls, List.append_nil, List.cons_append, List.nil_append, nrmL, Cl.nrm, CK.nrm, List.map_cons, List.map_nil, List.length_cons, List.length_nil, List.cons.injEq, DV.bool.injEq, and_true, true_and]
  simp only [q_le, q_eq, q_and, q_not, q_bool, iff_true, iff_false, Bool.not_true, Bool.not_false, Bool.false_eq_true, eq_self]
  simp only [SE.den, evU, ev_add, ev_idx, i_int, b_bool, l_list, envL, List.getElem?_cons_succ, List.getElem?_cons_zero, Option.getD_some, Int.toNat_zero, Int.reduceToNat, List.length_map, Int.zero_add, f_ii_0, f_ii_1, rOnePhi]
  refine ⟨fun h => ?_, fun hv => ⟨fun h => ?_, fun hl => ?_⟩⟩
  · exact (decide_eq_false (fun e => h e.1)).symm
  · exact (decide_eq_false (fun e => h (by rw [e.2]))).symm
  · subst hv
    have hl' : x1.length = x3.length := by omega
    refine rounds_find x1.length (fun i => [DV.int i]) (fun i => x1[i]?.getD dii ≠ x3[i]?.getD dii) rfl (fun _ => rfl) (fun i hi hs hj => ?_) (fun i hi hs hj => ?_) (fun hj => ?_)
    · have hs' : x1[i]?.getD dii = x3[i]?.getD dii := by simpa using hs
      simp only [i_int, List.getElem?_cons_zero, Option.getD_some, Int.toNat_natCast, and_true, eq_self, not_true_eq_false, DV.int.injEq, List.cons.injEq, w64 (n := (i : Int) + 1) (by omega) (by omega), hs']
      have e1 : ¬ (x1.length : Int) ≤ i := by omega
      have e2 : ¬ (x3.length : Int) ≤ i := by omega
      simp [e1, e2]
    · simp only [i_int, List.getElem?_cons_zero, Option.getD_some, Int.toNat_natCast, true_and, eq_self]
      have e1 : ¬ (x1.length : Int) ≤ i := by omega
      have e2 : ¬ (x3.length : Int) ≤ i := by omega
      have hne : ¬ x1 = x3 := fun e => hs (by rw [e])
      have hd : ¬ ((x1[i]?.getD dii).1 = (x3[i]?.getD dii).1 ∧ (x1[i]?.getD dii).2 = (x3[i]?.getD dii).2) := fun e => hs (Prod.ext e.1 e.2)
      simp [e1, e2, hne]
      try (intro a b; exact hd ⟨a, b⟩)
      try exact fun a b => hd ⟨a, b⟩
    · simp only [i_int, List.getElem?_cons_zero, Option.getD_some, Int.toNat_natCast, true_and, eq_self]
      have : x1 = x3 := List.ext_getElem? fun i => by
        by_cases hi : i < x1.length
        · have := hj i hi
          rw [List.getElem?_eq_getElem hi, List.getElem?_eq_getElem (by omega)] at this ⊢
          simpa using this
        · rw [List.getElem?_eq_none (by omega), List.getElem?_eq_none (by omega)]
      simp [this]
end Go.Proofs.YtkfjgggiopegbaaDoor
end
section
namespace Go.Proofs.YtkfjgggiopegbaaDoor
set_option linter.unusedVariables false
set_option linter.unusedSimpArgs false
def recsM (l : List TEn) : List (List UInt8) := l.flatMap fun e => recordM e.1 e.2
def RiseM : Int → List TEn → Prop
  | _, [] => True
  | last, e :: l => validM e.1 e.2 = true ∧ rgeW e.2 ∧ last < e.1 ∧ RiseM e.1 l
def z32 : List UInt8 := List.replicate 32 0
theorem rec_all : ∀ (l : List TEn) (last : Int) (pre post : List (List UInt8)) (n : Nat), RiseM last l → l.length < n → parseM (pre ++ recsM l ++ post) ((pre.length + (recsM l).length : Nat) : Int) = none →
    recM (pre ++ recsM l ++ post) n pre.length last = (l, ((pre.length + (recsM l).length : Nat) : Int))
  | [], last, pre, post, n, hr, hn, hp => by
    obtain ⟨m, rfl⟩ : ∃ m, n = m + 1 := ⟨n - 1, by simp at hn; omega⟩
    have e : pre.length + (recsM []).length = pre.length := rfl
    rw [e] at hp ⊢
    exact recM_none hp
  | x :: l, last, pre, post, n, hr, hn, hp => by
    obtain ⟨hv, hw, hl, hr⟩ := hr
    obtain ⟨m, rfl⟩ : ∃ m, n = m + 1 := ⟨n - 1, by simp at hn; omega⟩
    have e1 : recsM (x :: l) = recordM x.1 x.2 ++ recsM l := by unfold recsM; rw [List.flatMap_cons]
    have e2 : pre ++ recsM (x :: l) ++ post = pre ++ recordM x.1 x.2 ++ (recsM l ++ post) := by rw [e1]; simp only [List.append_assoc]
    have e3 : pre ++ recsM (x :: l) ++ post = (pre ++ recordM x.1 x.2) ++ recsM l ++ post := by rw [e1]; simp only [List.append_assoc]
    have hq := parse_record hv hw pre (recsM l ++ post)
    rw [← e2] at hq
    rw [recM_some hq (by simp only; omega)]
    have hlen : pre.length + (recsM (x :: l)).length = (pre ++ recordM x.1 x.2).length + (recsM l).length := by rw [e1]; simp only [List.length_append]; omega
    rw [hlen] at hp ⊢
    rw [e3] at hp
    have ih := rec_all l x.1 (pre ++ recordM x.1 x.2) post m hr (by simp at hn; omega) hp
    have e4 : (pre.length : Int) + (recordM x.1 x.2).length = ((pre ++ recordM x.1 x.2).length : Nat) := by rw [List.length_append]; omega
    simp only
    rw [e4, e3, ih]
theorem rise_len : ∀ (l : List TEn) (last : Int), RiseM last l → l.length ≤ (recsM l).length
  | [], _, _ => Nat.zero_le _
  | x :: l, last, hr => by
    obtain ⟨hv, hw, hl, hr⟩ := hr
    have ih := rise_len l x.1 hr
    have e1 : recsM (x :: l) = recordM x.1 x.2 ++ recsM l := by unfold recsM; rw [List.flatMap_cons]
    have := (body_len hv hw).2.1
    rw [e1, List.length_append, List.length_cons, record_len hv]
    omega
theorem recover_all {l : List TEn} {post : List (List UInt8)} (hr : RiseM 0 l) (hp : parseM (recsM l ++ post) ((recsM l).length : Nat) = none) : recoverM (recsM l ++ post) = (l, ((recsM l).length : Int)) := by
  have h := rec_all l 0 [] post ((recsM l ++ post).length + 1) hr (by have := rise_len l 0 hr; rw [List.length_append]; omega) (by simpa using hp)
  simp only [List.nil_append, List.length_nil, Nat.zero_add] at h
  exact h
theorem parse_out {l : List (List UInt8)} {a : Nat} (h : l.length ≤ a) : parseM l a = none := by
  unfold parseM
  rw [if_neg (by omega)]
theorem parse_zero {l : List (List UInt8)} {a : Nat} (h : l[a]?.getD [] = z32) : parseM l a = none := by
  unfold parseM
  split
  · rename_i hc
    have hm : manyM l (a : Int).toNat = 1 := by
      unfold manyM
      rw [Int.toNat_natCast, h]
      rfl
    have hd : l.drop (a : Int).toNat = z32 :: l.drop (a + 1) := by
      rw [Int.toNat_natCast, List.drop_eq_getElem_cons (by omega)]
      rw [List.getElem?_eq_getElem (by omega)] at h
      rw [show l[a] = z32 from h]
    have : loadM (manyM l (a : Int).toNat) (l.drop (a : Int).toNat) = none := by
      rw [hm, hd]
      have ho : okS 0 z32 = false := by decide +kernel
      show (if okS 0 z32 = true then _ else none) = none
      rw [if_neg (by rw [ho]; simp)]
    rw [this]
  · rfl
theorem parse_tail {l pre : List (List UInt8)} {z : Nat} (h : l = pre ++ List.replicate z z32) : parseM l pre.length = none := by
  subst h
  cases z with
  | zero => exact parse_out (by simp)
  | succ z =>
    refine parse_zero ?_
    rw [List.getElem?_append_right (Nat.le_refl _), Nat.sub_self]
    rfl
theorem load_app : ∀ (n : Nat) (t q : List (List UInt8)), n ≤ t.length → loadM n (t ++ q) = loadM n t
  | 0, _, _, _ => rfl
  | n + 1, [], q, h => by simp at h
  | n + 1, s :: t, q, h => by
    have ih := load_app n t q (by simpa using h)
    show (if okS n s = true then (loadM n (t ++ q)).map _ else none) = (if okS n s = true then (loadM n t).map _ else none)
    rw [ih]
theorem parse_shift {p t q : List (List UInt8)} (h0 : 0 < t.length) (hm : manyM t 0 ≤ t.length) (ht : parseM t 0 = none) : parseM (p ++ t ++ q) p.length = none := by
  have hat : (p ++ t ++ q)[p.length]?.getD [] = t[0]?.getD [] := by
    rw [List.append_assoc, List.getElem?_append_right (Nat.le_refl _), Nat.sub_self, List.getElem?_append_left h0]
  have hmm : manyM (p ++ t ++ q) p.length = manyM t 0 := by unfold manyM; rw [hat]
  have hdr : (p ++ t ++ q).drop p.length = t ++ q := by rw [List.append_assoc, List.drop_left]
  unfold parseM at ht ⊢
  rw [Int.toNat_natCast, hmm, hat, hdr, load_app _ _ _ hm]
  simp only [Int.toNat_zero, List.drop_zero] at ht
  split
  · rename_i hc
    rw [if_pos ⟨by omega, by omega, hc.2.2.1, by omega⟩] at ht
    exact ht
  · rfl
theorem torn_none {v : Int} {w : List Tii} (hv : validM v w = true) (hw : rgeW w) {p t q : List (List UInt8)} (hl : t.length = (recordM v w).length) (hc : ∀ i, i < t.length → ∃ c, t[i]?.getD [] = cutM c ((recordM v w)[i]?.getD [])) (hn : t ≠ recordM v w) : parseM (p ++ t ++ q) p.length = none := by
  obtain ⟨h1, h2, h3⟩ := body_len hv hw
  have hrl := record_len hv
  refine parse_shift (by omega) ?_ (parse_torn hv hw hl hc hn)
  obtain ⟨c, hc0⟩ := hc 0 (by omega)
  have hR : recordM v w = sectsM ((bodyM v w).length / 27) (bodyM v w) := by unfold recordM; rw [if_pos hv]
  have hs0 : (recordM v w)[0]?.getD [] = sectorM (((bodyM v w).length / 27 - 1 - 0 : Nat) : Int) (((bodyM v w).drop (27 * 0)).take 27) := by rw [hR]; exact sects_at _ _ 0 (by omega)
  unfold manyM
  rw [hc0]
  cases c with
  | zero =>
    have : (cutM 0 ((recordM v w)[0]?.getD []))[0]?.getD 0 = 0 := by
      unfold cutM
      rw [List.take_zero, List.nil_append, List.getElem?_replicate]
      split <;> rfl
    rw [this]
    show 0 + 1 ≤ _
    omega
  | succ c =>
    have : (cutM (c + 1) ((recordM v w)[0]?.getD []))[0]?.getD 0 = ((recordM v w)[0]?.getD [])[0]?.getD 0 := by
      rw [hs0]
      unfold cutM
      rw [List.getElem?_append_left (by rw [List.length_take, sector_len]; omega), List.getElem?_take, if_pos (by omega)]
    rw [this, hs0, sector_fst, UInt8.toNat_ofNat', Nat.mod_eq_of_lt (by omega)]
    omega
theorem rise_take : ∀ (l : List TEn) (p : Int) (n : Nat), RiseM p l → RiseM p (l.take n)
  | [], p, n, h => by rw [List.take_nil]; trivial
  | x :: l, p, 0, h => trivial
  | x :: l, p, n + 1, h => ⟨h.1, h.2.1, h.2.2.1, rise_take l x.1 n h.2.2.2⟩
theorem cut_none {s : List UInt8} (h : s.length = 32) : cutM 0 s = z32 := by
  unfold cutM
  rw [h]; rfl
end Go.Proofs.YtkfjgggiopegbaaDoor
end
section
namespace Go.Proofs.YtkfjgggiopegbaaDoor
set_option linter.unusedVariables false
set_option linter.unusedSimpArgs false
theorem recsT_succ (l : List TEn) (i : Nat) (h : i < l.length) : recsM (l.take (i + 1)) = recsM (l.take i) ++ recordM (l[i]?.getD dEn).1 (l[i]?.getD dEn).2 := by
  unfold recsM
  rw [List.take_add_one, List.getElem?_eq_getElem h, List.flatMap_append]
  simp
theorem riseT_of : ∀ (l : List TEn) (p : Int), (∀ x ∈ l, rgeW x.2) → (∀ j, j < l.length → validM (l[j]?.getD dEn).1 (l[j]?.getD dEn).2 = true) → (∀ j, j < l.length → 0 < j → (l[j - 1]?.getD dEn).1 < (l[j]?.getD dEn).1) → (0 < l.length → p < (l[0]?.getD dEn).1) → RiseM p l
  | [], _, _, _, _, _ => trivial
  | x :: l, p, hw, hv, ha, hp => by
    refine ⟨hv 0 (by simp), hw x (List.mem_cons_self ..), hp (by simp), riseT_of l x.1 (fun y hy => hw y (List.mem_cons_of_mem _ hy)) (fun j hj => hv (j + 1) (by simpa using hj)) (fun j hj h0 => ?_) (fun h => ha 1 (by simpa using h) (by omega))⟩
    have := ha (j + 1) (by simpa using hj) (by omega)
    obtain ⟨k, rfl⟩ : ∃ k, j = k + 1 := ⟨j - 1, by omega⟩
    exact this
theorem entV_eq {i : Nat} {b : Int} (hi : i ≤ 100) (h0 : 0 ≤ b) (h1 : b ≤ 255) : entV i b = 2 * i + 1 + b / 128 := by
  unfold entV
  rw [w64 (n := b) (by omega) (by omega), Int.tdiv_eq_ediv_of_nonneg h0]
  simp only [w64_eq]
  omega
theorem entX_rge (i c : Int) : -9223372036854775808 ≤ entX i c ∧ entX i c ≤ 9223372036854775807 := by
  unfold entX
  generalize IntKind.i64.wrap (IntKind.i64.wrap (1000000 * i) + c) - 50 = n
  rw [w64_eq n]
  omega
theorem entW_mem {i b : Int} {x : Tii} (h : x ∈ entW i b) : (0 ≤ x.1 ∧ x.1 < 5) ∧ (-9223372036854775808 ≤ x.2 ∧ x.2 ≤ 9223372036854775807) := by
  unfold entW at h
  simp only [List.mem_append] at h
  rcases h with h | h | h | h | h
  all_goals
    split at h
    · obtain rfl := List.mem_singleton.1 h
      refine ⟨?_, entX_rge _ _⟩
      simp only
      omega
    · cases h
theorem entW_rge (i b : Int) : rgeW (entW i b) := fun x hx => by
  have := entW_mem hx
  exact ⟨by omega, this.2⟩
theorem entW_asc (i b : Int) : ascM (-1) (entW i b) = true := by
  unfold entW
  cases bitU b 1 <;> cases bitU b 2 <;> cases bitU b 4 <;> cases bitU b 8 <;> cases bitU b 16 <;> rfl
theorem entW_len (i b : Int) : (entW i b).length ≤ 5 := by
  unfold entW
  cases bitU b 1 <;> cases bitU b 2 <;> cases bitU b 4 <;> cases bitU b 8 <;> cases bitU b 16 <;> exact Nat.le_of_ble_eq_true rfl
theorem asc_pair : ∀ (w : List Tii) (p : Int), ascM p w = true → (∀ x ∈ w, p < x.1) ∧ w.Pairwise (fun x y => x.1 ≠ y.1)
  | [], _, _ => ⟨fun _ h => by simp at h, .nil⟩
  | x :: w, p, h => by
    unfold ascM at h
    rw [Bool.and_eq_true] at h
    have h1 : p < x.1 := of_decide_eq_true h.1
    obtain ⟨h2, h3⟩ := asc_pair w x.1 h.2
    refine ⟨fun y hy => ?_, List.pairwise_cons.2 ⟨fun y hy => ?_, h3⟩⟩
    · rcases List.mem_cons.1 hy with rfl | hy
      · exact h1
      · have := h2 y hy; omega
    · have := h2 y hy; omega
theorem ents_get {l : List Int} {n i : Nat} (h : i < n) : (entsN l n)[i]?.getD dEn = (entV i (l[i]?.getD 0), entW i (l[i]?.getD 0)) := by
  simp [entsN, h]
theorem ent_valid {i : Nat} {b : Int} (hi : i ≤ 100) (h0 : 0 ≤ b) (h1 : b ≤ 255) : validM (entV i b) (entW i b) = true := by
  have := entV_eq hi h0 h1
  have := entW_len i b
  exact validM_iff.2 ⟨entW_asc _ _, by omega, by omega, by omega⟩
theorem record_le5 {v : Int} {w : List Tii} (hv : validM v w = true) (hw : rgeW w) (h5 : w.length ≤ 5) : 1 ≤ (recordM v w).length ∧ (recordM v w).length ≤ 5 := by
  rw [record_len hv]
  obtain ⟨_, b1, _⟩ := body_len hv hw
  refine ⟨b1, ?_⟩
  obtain ⟨e, _⟩ := nums_entry hv hw
  have hn := nums_len (v :: flatW w)
  have hl : (v :: flatW w).length ≤ 11 := by rw [List.length_cons, flatW_len]; omega
  have : (bodyM v w).length = ((numsM (v :: flatW w)).length + 26) / 27 * 27 := by unfold bodyM; rw [pad_len, strN_len, e]
  omega
structure Ents (es : List TEn) : Prop where
  rise : RiseM 0 es
  val : ∀ i, i < es.length → validM (es[i]?.getD dEn).1 (es[i]?.getD dEn).2 = true
  rge : ∀ i : Nat, rgeW (es[i]?.getD dEn).2
  len : ∀ i : Nat, (es[i]?.getD dEn).2.length ≤ 5
  loc : ∀ i : Nat, ∀ x ∈ (es[i]?.getD dEn).2, 0 ≤ x.1 ∧ x.1 < 5
  ver : ∀ i : Nat, 0 ≤ (es[i]?.getD dEn).1 ∧ (es[i]?.getD dEn).1 ≤ 1000
theorem ents_ok {l : List Int} (hl : l.length ≤ 8) (h : ∀ v ∈ l, 0 ≤ v ∧ v ≤ 255) : Ents (entsM l) := by
  have hb : ∀ i : Nat, 0 ≤ l[i]?.getD 0 ∧ l[i]?.getD 0 ≤ 255 := fun i => by
    cases hi : l[i]? with
    | none => simp
    | some v => exact h v (List.mem_of_getElem? hi)
  have hn : ∀ i : Nat, l.length ≤ i → (entsM l)[i]?.getD dEn = dEn := fun i hi => by
    rw [List.getElem?_eq_none (by unfold entsM; rw [ents_len]; exact hi)]; rfl
  have hv : ∀ i, i < l.length → validM ((entsM l)[i]?.getD dEn).1 ((entsM l)[i]?.getD dEn).2 = true := fun i hi => by
    unfold entsM
    rw [ents_get hi]
    exact ent_valid (by omega) (hb i).1 (hb i).2
  have hlen : (entsM l).length = l.length := ents_len _ _
  have hr : ∀ i : Nat, rgeW ((entsM l)[i]?.getD dEn).2 := fun i => by
    by_cases hi : i < l.length
    · unfold entsM; rw [ents_get hi]; exact entW_rge _ _
    · rw [hn i (by omega)]; exact fun x hx => by simp [dEn] at hx
  refine ⟨riseT_of _ 0 (fun x hx => ?_) (fun j hj => hv j (by omega)) (fun j hj h0 => ?_) (fun h0 => ?_), fun i hi => hv i (by omega), hr, fun i => ?_, fun i => ?_, fun i => ?_⟩
  · obtain ⟨i, hi, rfl⟩ := List.getElem_of_mem hx
    have := hr i
    rwa [List.getElem?_eq_getElem hi] at this
  · unfold entsM
    rw [ents_get (by omega), ents_get (by omega)]
    have e1 := entV_eq (i := j - 1) (by omega) (hb (j - 1)).1 (hb (j - 1)).2
    have e2 := entV_eq (i := j) (by omega) (hb j).1 (hb j).2
    have := hb j
    have := hb (j - 1)
    show entV ((j - 1 : Nat) : Int) _ < entV (j : Int) _
    omega
  · unfold entsM
    rw [ents_get (by omega)]
    have e2 := entV_eq (i := 0) (by omega) (hb 0).1 (hb 0).2
    have := hb 0
    show 0 < entV ((0 : Nat) : Int) _
    omega
  · by_cases hi : i < l.length
    · unfold entsM; rw [ents_get hi]; exact entW_len _ _
    · rw [hn i (by omega)]; simp [dEn]
  · by_cases hi : i < l.length
    · unfold entsM; rw [ents_get hi]; exact fun x hx => (entW_mem hx).1
    · rw [hn i (by omega)]; exact fun x hx => by simp [dEn] at hx
  · by_cases hi : i < l.length
    · unfold entsM; rw [ents_get hi]
      have e2 := entV_eq (i := i) (by omega) (hb i).1 (hb i).2
      have := hb i
      show 0 ≤ entV (i : Int) _ ∧ entV (i : Int) _ ≤ 1000
      omega
    · rw [hn i (by omega)]; simp [dEn]
section
variable {es : List TEn} (he : Ents es)
include he
theorem ents_rec {i : Nat} (hi : i < es.length) : record3 (es[i]?.getD dEn).1 (es[i]?.getD dEn).2 = recordM (es[i]?.getD dEn).1 (es[i]?.getD dEn).2 := record3_eq (he.rge i)
theorem ents_rlen {i : Nat} (hi : i < es.length) : 1 ≤ (recordM (es[i]?.getD dEn).1 (es[i]?.getD dEn).2).length ∧ (recordM (es[i]?.getD dEn).1 (es[i]?.getD dEn).2).length ≤ 5 := record_le5 (he.val i hi) (he.rge i) (he.len i)
theorem ents_32 {i : Nat} (hi : i < es.length) (j : Nat) (hj : j < (recordM (es[i]?.getD dEn).1 (es[i]?.getD dEn).2).length) : ((recordM (es[i]?.getD dEn).1 (es[i]?.getD dEn).2)[j]?.getD []).length = 32 := by
  rw [List.getElem?_eq_getElem hj]
  exact record_secs (he.val i hi) (he.rge i) _ (List.getElem_mem hj)
theorem ents_all : ∀ i, i ≤ es.length → (recsM (es.take i)).length ≤ 5 * i
  | 0, _ => by simp [recsM]
  | i + 1, h => by
    have := ents_all i (by omega)
    have := (ents_rlen he (i := i) (by omega)).2
    rw [recsT_succ es i (by omega), List.length_append]
    omega
theorem ents_pair (i : Nat) : (es[i]?.getD dEn).2.Pairwise (fun x y => x.1 ≠ y.1) := by
  by_cases hi : i < es.length
  · exact (asc_pair _ _ (validM_iff.1 (he.val i hi)).1).2
  · rw [List.getElem?_eq_none (by omega)]; exact .nil
end
def secsM (P : List (List UInt8)) : List (List UInt8) := P ++ List.replicate (40 - P.length) z32
def wasM (A k : Nat) : List Tis := (List.range k).map fun j : Nat => (((A + j : Nat) : Int), z32)
theorem secs_len {P : List (List UInt8)} (h : P.length ≤ 40) : (secsM P).length = 40 := by unfold secsM; rw [List.length_append, List.length_replicate]; omega
theorem secs_get {P : List (List UInt8)} (h : P.length < 40) : (secsM P)[P.length]?.getD [] = z32 := by
  unfold secsM
  rw [List.getElem?_append_right (Nat.le_refl _), Nat.sub_self]
  obtain ⟨m, hm⟩ : ∃ m, 40 - P.length = m + 1 := ⟨39 - P.length, by omega⟩
  rw [hm]
  rfl
theorem secs_set {P : List (List UInt8)} (h : P.length < 40) (r : List UInt8) : (secsM P).set P.length r = secsM (P ++ [r]) := by
  unfold secsM
  obtain ⟨m, hm⟩ : ∃ m, 40 - P.length = m + 1 := ⟨39 - P.length, by omega⟩
  have hm2 : 40 - (P ++ [r]).length = m := by rw [List.length_append, List.length_singleton]; omega
  rw [hm, hm2, List.set_append_right _ _ (Nat.le_refl _), Nat.sub_self, List.replicate_succ, List.set_cons_zero, List.append_assoc]
  rfl
theorem was_succ (A k : Nat) : wasM A (k + 1) = wasM A k ++ [(((A + k : Nat) : Int), z32)] := by
  unfold wasM
  rw [List.range_succ, List.map_append]
  rfl
theorem was_len (A k : Nat) : (wasM A k).length = k := by simp [wasM]
theorem was_get {A k i : Nat} (h : i < k) : (wasM A k)[i]?.getD dis = (((A + i : Nat) : Int), z32) := by simp [wasM, h]
theorem du_w {l : List Int} {Q : List (List UInt8)} {A k : Nat} (hQ : Q.length = A + k) (h40 : Q.length < 40) {r : List UInt8} (hr : r.length = 32) :
    duM l (secsM Q) (wasM A k) 5 ((A + k : Nat) : Int) 0 0 r = (l, secsM (Q ++ [r]), wasM A (k + 1), (0, true), 0) := by
  have hw : writeM (secsM Q) (wasM A k) ((A + k : Nat) : Int) r = (secsM (Q ++ [r]), wasM A (k + 1), 0) := by
    unfold writeM
    have e : (((A + k : Nat) : Int)).toNat = Q.length := by omega
    rw [if_pos (by rw [secs_len (by omega)]; omega), if_pos (by omega), e, secs_set h40, secs_get h40, was_succ]
  unfold duM
  rw [if_pos rfl, if_pos ⟨rfl, rfl⟩, hw]
  rfl
theorem du_s (l : List Int) (s : List (List UInt8)) (w : List Tis) : duM l s w 6 0 0 0 [] = (l, s, [], (0, true), 0) := by
  unfold duM
  rw [if_neg (by decide), if_pos rfl, if_pos ⟨rfl, rfl, rfl, rfl⟩]
theorem accs_len (v : Int) (w : List Tii) (a : Int) : (accsM v w a).length = (record3 v w).length + 1 := by unfold accsM; rw [List.length_append, recA_len]; rfl
theorem accs_w {v : Int} {w : List Tii} {A k : Nat} (hk : k < (record3 v w).length) (hA : A ≤ 1000) : (accsM v w A)[k]?.getD diiiis = (5, ((A + k : Nat) : Int), 0, 0, (record3 v w)[k]?.getD []) := by
  have hl := record3_le v w
  unfold accsM
  rw [List.getElem?_append_left (by rw [recA_len]; exact hk)]
  simp only [recAM, List.getElem?_map, List.getElem?_range hk, Option.map_some, Option.getD_some]
  rw [w64 (by omega) (by omega)]
  congr 1
theorem accs_s {v : Int} {w : List Tii} {a : Int} : (accsM v w a)[(record3 v w).length]?.getD diiiis = (6, 0, 0, 0, []) := by
  unfold accsM
  rw [List.getElem?_append_right (by rw [recA_len]; exact Nat.le_refl _), recA_len, Nat.sub_self]
  rfl
theorem take_snoc {R : List (List UInt8)} {k : Nat} (h : k < R.length) : R.take (k + 1) = R.take k ++ [R[k]?.getD []] := by
  rw [List.take_add_one, List.getElem?_eq_getElem h]; rfl
theorem recover_secs {es : List TEn} (he : Ents es) {i : Nat} (hi : i ≤ es.length) : recoverM (secsM (recsM (es.take i))) = (es.take i, ((recsM (es.take i)).length : Int)) :=
  recover_all (rise_take es 0 i he.rise) (parse_tail rfl)
theorem cell_boot {first : List Int} {es : List TEn} {en : Int} {i : Nat} (hi : i < 28) : cellM (bootM 28 8 5 first es en) i = cellG 8 5 (clkM es) 1 en (valM es first) (wordM es) i := by
  unfold cellM
  rw [boot_len, if_neg (by omega), Int.toNat_natCast]
  exact cells_get hi
theorem last_snoc (es : List TEn) (v : Int) (w : List Tii) (k : Int) : lastM (es ++ [(v, w)]) k = match w.find? (fun x => decide (x.1 = k)) with | some x => some (x, v) | none => lastM es k := by
  rw [last_app]
  show (match (match (none : Option (Tii × Int)) with | some x => some x | none => (w.find? fun x => decide (x.1 = k)).map fun x => (x, v)) with | some x => some x | none => lastM es k) = _
  cases w.find? (fun x => decide (x.1 = k)) <;> rfl
theorem place5 {k : Int} (h0 : 0 ≤ k) (h1 : k < 5) : placeM 8 5 k 4 1 = 8 + 4 * k + 1 ∧ placeM 8 5 k 4 0 = 8 + 4 * k := by
  unfold placeM
  rw [if_neg (by omega), if_neg (by omega)]
  simp only [w64_eq]
  omega
end Go.Proofs.YtkfjgggiopegbaaDoor
end
section
namespace Go.Proofs.YtkfjgggiopegbaaDoor
set_option linter.unusedVariables false
set_option linter.unusedSimpArgs false
def tornC (C : List (List UInt8)) (cuts : List Int) (p : Nat) : List (List UInt8) := (List.range p).map fun j => cutM (cutC cuts j) (C[j]?.getD [])
theorem tornC_len (C : List (List UInt8)) (cuts : List Int) (p : Nat) : (tornC C cuts p).length = p := by simp [tornC]
theorem tornC_succ (C : List (List UInt8)) (cuts : List Int) (p : Nat) : tornC C cuts (p + 1) = tornC C cuts p ++ [cutM (cutC cuts p) (C[p]?.getD [])] := by
  unfold tornC
  rw [List.range_succ, List.map_append]
  rfl
theorem tornC_at (C : List (List UInt8)) (cuts : List Int) {p i : Nat} (h : i < p) : (tornC C cuts p)[i]?.getD [] = cutM (cutC cuts i) (C[i]?.getD []) := by
  unfold tornC
  rw [List.getElem?_map, List.getElem?_range h]
  rfl
theorem secs_at {P : List (List UInt8)} {a : Nat} (h : a < 40) (hP : P.length ≤ a) : (secsM P)[a]?.getD [] = z32 := by
  unfold secsM
  rw [List.getElem?_append_right hP, List.getElem?_replicate, if_pos (by omega)]
  rfl
theorem secs_in {P : List (List UInt8)} {a : Nat} (h : a < P.length) : (secsM P)[a]?.getD [] = P[a]?.getD [] := by
  unfold secsM
  rw [List.getElem?_append_left h]
theorem ext_getD {l m : List (List UInt8)} (h : l.length = m.length) (he : ∀ a, a < l.length → l[a]?.getD [] = m[a]?.getD []) : l = m := by
  apply List.ext_getElem?
  intro a
  by_cases ha : a < l.length
  · have := he a ha
    rw [List.getElem?_eq_getElem ha, List.getElem?_eq_getElem (by omega)] at this ⊢
    simpa using this
  · rw [List.getElem?_eq_none (by omega), List.getElem?_eq_none (by omega)]
theorem dev_len {P C : List (List UInt8)} {p : Nat} (hp : p ≤ C.length) : (P ++ C.take p).length = P.length + p := by rw [List.length_append, List.length_take]; omega
section
variable {P C : List (List UInt8)} {p : Nat} (hp : p ≤ C.length) (h40 : P.length + C.length ≤ 40)
include hp h40
theorem crash_zero : allSyncedM (secsM (P ++ C.take p)) (wasM P.length p) 0 = secsM P := by
  have hd := dev_len (P := P) hp
  refine ext_getD (by rw [allSynced_len, secs_len (by omega), secs_len (by omega)]) fun a ha => ?_
  rw [allSynced_len, secs_len (by omega)] at ha
  rw [allSynced_get (by rw [secs_len (by omega)]; exact ha)]
  by_cases h1 : a < P.length
  · rw [synced_none 0 (Nat.zero_le _) (fun j _ hj => by rw [was_len] at hj; rw [was_get hj]; simp only; omega), Int.toNat_natCast, secs_in (by omega), secs_in h1, List.getElem?_append_left h1]
  · rw [secs_at ha (by omega)]
    by_cases h2 : a < P.length + p
    · rw [synced_find 0 (a - P.length) (Nat.zero_le _) (by rw [was_len]; omega) (fun j _ hj => by rw [was_get (by omega)]; simp only; omega) (by rw [was_get (by omega)]; simp only; omega), was_get (by omega)]
    · rw [synced_none 0 (Nat.zero_le _) (fun j _ hj => by rw [was_len] at hj; rw [was_get hj]; simp only; omega), Int.toNat_natCast, secs_at ha (by omega)]
theorem crash_dev (h32 : ∀ i, i < C.length → (C[i]?.getD []).length = 32) (cuts : List Int) : ∀ i, i ≤ p → crashM (secsM (P ++ C.take p)) (wasM P.length p) cuts i = secsM (P ++ tornC C cuts i)
  | 0, _ => by
    show allSyncedM _ _ 0 = _
    rw [crash_zero hp h40]
    simp [tornC]
  | i + 1, hi => by
    have ih := crash_dev h32 cuts i (by omega)
    have hd := dev_len (P := P) hp
    have hl : (P ++ tornC C cuts i).length = P.length + i := by rw [List.length_append, tornC_len]
    have hs : syncedM (secsM (P ++ C.take p)) (wasM P.length p) (i + 1) ((P.length + i : Nat) : Int) = C[i]?.getD [] := by
      rw [synced_none (i + 1) (by rw [was_len]; omega) (fun j hj hj2 => by rw [was_len] at hj2; rw [was_get hj2]; simp only; omega), Int.toNat_natCast, secs_in (by omega), List.getElem?_append_right (by omega), Nat.add_sub_cancel_left, List.getElem?_take, if_pos (by omega)]
    have hc : (C[i]?.getD []).take (cutC cuts i) ++ z32.drop (cutC cuts i) = cutM (cutC cuts i) (C[i]?.getD []) := by
      unfold cutM z32
      rw [List.drop_replicate, h32 i (by omega)]
    unfold crashM
    rw [was_get (by omega), ih]
    simp only [hs, Int.toNat_natCast]
    rw [← hl, secs_get (by omega), hc, secs_set (by omega), tornC_succ, List.append_assoc]
theorem right_dev (hP : ∀ s ∈ P, s.length = 32) (h32 : ∀ s ∈ C, s.length = 32) : rightDM (secsM (P ++ C.take p)) (wasM P.length p) = true := by
  have hd := dev_len (P := P) hp
  unfold rightDM
  rw [secs_len (by omega)]
  rw [Bool.and_eq_true, Bool.and_eq_true]
  refine ⟨by decide, List.all_eq_true.2 fun s hs => ?_, List.all_eq_true.2 fun w hw => ?_⟩
  · have h : s.length = 32 := by
      unfold secsM at hs
      rcases List.mem_append.1 hs with h | h
      · rcases List.mem_append.1 h with h | h
        · exact hP s h
        · exact h32 s (List.mem_of_mem_take h)
      · rw [(List.mem_replicate.1 h).2]; rfl
    unfold secOkM
    simp [h]
  · unfold wasM at hw
    obtain ⟨j, hj, rfl⟩ := List.mem_map.1 hw
    have := List.mem_range.1 hj
    unfold wasOkM
    simp [z32]
    omega
end
theorem recs_32 {es : List TEn} (he : Ents es) (i : Nat) : ∀ s ∈ recsM (es.take i), s.length = 32 := fun s hs => by
  unfold recsM at hs
  obtain ⟨e, h1, h2⟩ := List.mem_flatMap.1 hs
  obtain ⟨j, hj, rfl⟩ := List.getElem_of_mem (List.mem_of_mem_take h1)
  have hv := he.val j hj
  have hr := he.rge j
  rw [List.getElem?_eq_getElem hj] at hv hr
  exact record_secs hv hr s h2
theorem recover_crash {es : List TEn} (he : Ents es) (h8 : es.length ≤ 8) {s p : Nat} (hs : s < es.length) (hp : p ≤ (recordM (es[s]?.getD dEn).1 (es[s]?.getD dEn).2).length) (cuts : List Int) :
    ∃ g, (g = s ∨ g = s + 1) ∧ recoverM (secsM (recsM (es.take s) ++ tornC (recordM (es[s]?.getD dEn).1 (es[s]?.getD dEn).2) cuts p)) = (es.take g, ((recsM (es.take g)).length : Int)) := by
  have h1 := ents_rlen he hs
  have h2 := ents_all he s (by omega)
  have h32 := ents_32 he hs
  have hsu := recsT_succ es s hs
  have hv := he.val s hs
  have hw := he.rge s
  have htn := fun (p t q : List (List UInt8)) => torn_none hv hw (p := p) (t := t) (q := q)
  have hra := fun post => recover_all (post := post) (rise_take es 0 s he.rise)
  generalize hC : recordM (es[s]?.getD dEn).1 (es[s]?.getD dEn).2 = C at *
  generalize hPe : recsM (es.take s) = P at *
  have hcut : secsM (P ++ tornC C cuts p) = P ++ (tornC C cuts p ++ List.replicate (C.length - p) z32) ++ List.replicate (40 - P.length - C.length) z32 := by
    unfold secsM
    have : 40 - (P ++ tornC C cuts p).length = (C.length - p) + (40 - P.length - C.length) := by rw [List.length_append, tornC_len]; omega
    rw [this, List.append_assoc, List.append_assoc, List.append_assoc, List.replicate_append_replicate]
  have htl : (tornC C cuts p ++ List.replicate (C.length - p) z32).length = C.length := by rw [List.length_append, tornC_len, List.length_replicate]; omega
  by_cases ht : tornC C cuts p ++ List.replicate (C.length - p) z32 = C
  · refine ⟨s + 1, .inr rfl, ?_⟩
    have hr := recover_secs he (i := s + 1) (by omega)
    rw [hsu] at hr
    rw [hcut, ht, hsu, ← hr]
    unfold secsM
    rw [List.length_append, Nat.sub_add_eq]
  · refine ⟨s, .inl rfl, ?_⟩
    rw [hPe, hcut, List.append_assoc]
    refine hra _ ?_
    rw [← List.append_assoc]
    refine htn P _ _ htl (fun i hi => ?_) ht
    by_cases hip : i < p
    · exact ⟨_, by rw [List.getElem?_append_left (by rw [tornC_len]; exact hip), tornC_at _ _ hip]⟩
    · refine ⟨0, ?_⟩
      rw [List.getElem?_append_right (by rw [tornC_len]; omega), tornC_len, List.getElem?_replicate, if_pos (by omega), cut_none (h32 i (by omega))]
      rfl
theorem crash_got {es : List TEn} (he : Ents es) (h8 : es.length ≤ 8) {s p : Nat} (hs : s ≤ es.length) (hp : p ≤ (recordM (es[s]?.getD dEn).1 (es[s]?.getD dEn).2).length) (cuts : List Int) :
    rightDM (secsM (recsM (es.take s) ++ (recordM (es[s]?.getD dEn).1 (es[s]?.getD dEn).2).take p)) (wasM (recsM (es.take s)).length p) = true ∧
    (secsM (recsM (es.take s) ++ (recordM (es[s]?.getD dEn).1 (es[s]?.getD dEn).2).take p)).length = 40 ∧
    ∃ g, (g = s ∨ (g = s + 1 ∧ s < es.length)) ∧ recoverM (crashM (secsM (recsM (es.take s) ++ (recordM (es[s]?.getD dEn).1 (es[s]?.getD dEn).2).take p)) (wasM (recsM (es.take s)).length p) cuts p) = (es.take g, ((recsM (es.take g)).length : Int)) := by
  have h2 := ents_all he s hs
  have hr32 := recs_32 he s
  by_cases hsn : s < es.length
  · have h1 := ents_rlen he hsn
    have h32 := ents_32 he hsn
    have hsec := record_secs (he.val s hsn) (he.rge s)
    have h40 : (recsM (es.take s)).length + (recordM (es[s]?.getD dEn).1 (es[s]?.getD dEn).2).length ≤ 40 := by omega
    refine ⟨right_dev hp h40 hr32 hsec, secs_len (by rw [dev_len hp]; omega), ?_⟩
    rw [crash_dev hp h40 h32 cuts p (Nat.le_refl _)]
    obtain ⟨g, hg, hr⟩ := recover_crash he h8 hsn hp cuts
    exact ⟨g, hg.elim .inl fun h => .inr ⟨h, hsn⟩, hr⟩
  · have hC : recordM (es[s]?.getD dEn).1 (es[s]?.getD dEn).2 = [] := by
      rw [List.getElem?_eq_none (by omega)]
      rfl
    rw [hC] at hp ⊢
    have h0 : p = 0 := by simpa using hp
    subst h0
    have h40 : (recsM (es.take s)).length + ([] : List (List UInt8)).length ≤ 40 := by simp only [List.length_nil]; omega
    refine ⟨right_dev (Nat.zero_le _) h40 hr32 (fun x hx => by simp at hx), secs_len (by rw [List.take_nil, List.append_nil]; omega), s, .inl rfl, ?_⟩
    rw [crash_dev (Nat.zero_le _) h40 (fun i hi => by simp at hi) cuts 0 (Nat.le_refl _)]
    have : tornC [] cuts 0 = [] := rfl
    rw [this, List.append_nil]
    exact recover_secs he hs
theorem crash_loop {B : List DV → List DV → Prop} {R : List DV → Prop} {P C : List (List UInt8)} {L i E E' : Nat} {M : DV}
    (hB1 : ∀ k, k < C.length → k < L → B [.int ((L - k : Nat) : Int), .int (i : Nat), .int (E : Nat), .int (k : Nat), M, .list ((secsM (P ++ C.take k)).map .str), .list ((wasM P.length k).map encis)] [.int ((L - (k + 1) : Nat) : Int), .int (i : Nat), .int (E : Nat), .int ((k + 1 : Nat) : Int), M, .list ((secsM (P ++ C.take (k + 1))).map .str), .list ((wasM P.length (k + 1)).map encis)])
    (hB2 : C.length < L → B [.int ((L - C.length : Nat) : Int), .int (i : Nat), .int (E : Nat), .int (C.length : Nat), M, .list ((secsM (P ++ C)).map .str), .list ((wasM P.length C.length).map encis)] [.int ((L - (C.length + 1) : Nat) : Int), .int ((i + 1 : Nat) : Int), .int (E' : Nat), .int ((C.length + 1 : Nat) : Int), M, .list ((secsM (P ++ C)).map .str), .list []])
    (hR1 : L ≤ C.length → R [.int 0, .int (i : Nat), .int (E : Nat), .int (L : Nat), M, .list ((secsM (P ++ C.take L)).map .str), .list ((wasM P.length L).map encis)])
    (hR2 : C.length + 1 ≤ L → R [.int ((L - (C.length + 1) : Nat) : Int), .int ((i + 1 : Nat) : Int), .int (E' : Nat), .int ((C.length + 1 : Nat) : Int), M, .list ((secsM (P ++ C)).map .str), .list []]) :
    Rounds B R [.int (L : Nat), .int (i : Nat), .int (E : Nat), .int 0, M, .list ((secsM P).map .str), .list []] := by
  refine rounds_at (min L (C.length + 1)) (fun t => if t ≤ C.length then [.int ((L - t : Nat) : Int), .int (i : Nat), .int (E : Nat), .int (t : Nat), M, .list ((secsM (P ++ C.take t)).map .str), .list ((wasM P.length t).map encis)] else [.int ((L - t : Nat) : Int), .int ((i + 1 : Nat) : Int), .int (E' : Nat), .int (t : Nat), M, .list ((secsM (P ++ C)).map .str), .list []]) ?_ (fun t => ?_) (fun t ht => ?_) ?_
  · simp [wasM]
  · split <;> rfl
  · by_cases h : t < C.length
    · simp only [show t ≤ C.length by omega, show t + 1 ≤ C.length by omega, if_true]
      exact hB1 t h (by omega)
    · obtain rfl : t = C.length := by omega
      simp only [Nat.le_refl, if_true, show ¬ C.length + 1 ≤ C.length by omega, if_false, List.take_length]
      exact hB2 (by omega)
  · by_cases h : L ≤ C.length
    · rw [Nat.min_eq_left (by omega), if_pos h, Nat.sub_self]
      exact hR1 h
    · rw [Nat.min_eq_right (by omega), if_neg (by omega)]
      exact hR2 (by omega)
def pairM (es : List TEn) (first : List Int) (k : Int) : Int × Int := match lastM es k with | some x => (x.1.2, x.2) | none => (first[k.toNat]?.getD 0, 0)
def scanM (w : List Tii) (ver k : Int) (j : Nat) (q : Int × Int) : Int × Int := match (w.take j).find? (fun x => decide (x.1 = k)) with | some x => (x.2, ver) | none => q
theorem scan_hit {w : List Tii} (h : w.Pairwise (fun x y => x.1 ≠ y.1)) {ver k : Int} {j : Nat} (hj : j < w.length) (q : Int × Int) (hk : (w[j]?.getD dii).1 = k) : scanM w ver k (j + 1) q = ((w[j]?.getD dii).2, ver) := by
  have hn : (w.take j).find? (fun x => decide (x.1 = k)) = none := List.find?_eq_none.2 fun y hy => by
    obtain ⟨t, ht, rfl⟩ := List.getElem_of_mem hy
    rw [List.length_take] at ht
    have := List.pairwise_iff_getElem.1 h t j (by omega) hj (by omega)
    rw [List.getElem?_eq_getElem hj] at hk
    simp only [decide_eq_true_eq, List.getElem_take]
    rw [← hk]
    exact this
  unfold scanM
  rw [List.take_add_one, List.find?_append, hn, List.getElem?_eq_getElem hj]
  rw [List.getElem?_eq_getElem hj] at hk
  simp at hk
  simp [hk]
theorem scan_miss {w : List Tii} {ver k : Int} {j : Nat} (hj : j < w.length) (q : Int × Int) (hk : ¬ (w[j]?.getD dii).1 = k) : scanM w ver k (j + 1) q = scanM w ver k j q := by
  unfold scanM
  rw [List.take_add_one, List.find?_append, List.getElem?_eq_getElem hj]
  rw [List.getElem?_eq_getElem hj] at hk
  simp at hk
  cases (w.take j).find? (fun x => decide (x.1 = k)) <;> simp [hk]
theorem scan_end (es : List TEn) (first : List Int) (k v : Int) (w : List Tii) : scanM w v k w.length (pairM es first k) = pairM (es ++ [(v, w)]) first k := by
  unfold scanM pairM
  rw [List.take_length, last_snoc]
  cases w.find? (fun x => decide (x.1 = k)) <;> rfl
theorem scan2_loop {B : List DV → List DV → Prop} {R : List DV → Prop} {w : List Tii} (h : w.Pairwise (fun x y => x.1 ≠ y.1)) (ver k : Int) (q : Int × Int)
    (hB1 : ∀ (j : Nat) (a b : Int), j < w.length → (w[j]?.getD dii).1 = k → B [.int a, .int b, .int (j : Nat)] [.int (w[j]?.getD dii).2, .int ver, .int ((j + 1 : Nat) : Int)])
    (hB2 : ∀ (j : Nat) (a b : Int), j < w.length → ¬ (w[j]?.getD dii).1 = k → B [.int a, .int b, .int (j : Nat)] [.int a, .int b, .int ((j + 1 : Nat) : Int)])
    (hR : R [.int (scanM w ver k w.length q).1, .int (scanM w ver k w.length q).2, .int (w.length : Nat)]) : Rounds B R [.int q.1, .int q.2, .int 0] := by
  refine rounds_at w.length (fun j => [.int (scanM w ver k j q).1, .int (scanM w ver k j q).2, .int (j : Nat)]) (by simp [scanM]) (fun _ => rfl) (fun j hj => ?_) hR
  by_cases hk : (w[j]?.getD dii).1 = k
  · rw [scan_hit h hj q hk]
    exact hB1 j _ _ hj hk
  · rw [scan_miss hj q hk]
    exact hB2 j _ _ hj hk
theorem cell_val {first : List Int} {es : List TEn} {en : Int} {k : Nat} (hk : k < 5) : cellM (bootM 28 8 5 first es en) (8 + 4 * (k : Int) + 1) = (pairM es first k).1 := by
  have h := cell_boot (first := first) (es := es) (en := en) (i := 8 + 4 * k + 1) (by omega)
  rw [show ((8 + 4 * k + 1 : Nat) : Int) = 8 + 4 * (k : Int) + 1 by omega] at h
  rw [h]
  unfold cellG
  rw [if_neg (by omega), if_neg (by omega), if_neg (by omega), if_neg (by omega), if_neg (by omega), if_pos (by omega), show ((8 + 4 * (k : Int) + 1 - 8) / 4) = k by omega]
  unfold valM pairM
  cases lastM es k <;> rfl
theorem cell_word {first : List Int} {es : List TEn} {en : Int} {k : Nat} (hk : k < 5) : cellM (bootM 28 8 5 first es en) (8 + 4 * (k : Int)) = IntKind.i64.wrap (2 * (pairM es first k).2) := by
  have h := cell_boot (first := first) (es := es) (en := en) (i := 8 + 4 * k) (by omega)
  rw [show ((8 + 4 * k : Nat) : Int) = 8 + 4 * (k : Int) by omega] at h
  rw [h]
  unfold cellG
  rw [if_neg (by omega), if_neg (by omega), if_neg (by omega), if_neg (by omega), if_pos (by omega), show ((8 + 4 * (k : Int) - 8) / 4) = k by omega]
  unfold wordM pairM
  cases lastM es k with
  | none => exact (w64 (n := 2 * 0) (by omega) (by omega)).symm
  | some x => rfl
theorem cell_clk (first : List Int) (es : List TEn) (en : Int) : cellM (bootM 28 8 5 first es en) 0 = clkM es := cell_boot (first := first) (es := es) (en := en) (i := 0) (by omega)
theorem cell_en (first : List Int) (es : List TEn) (en : Int) : cellM (bootM 28 8 5 first es en) 3 = en := cell_boot (first := first) (es := es) (en := en) (i := 3) (by omega)
end Go.Proofs.YtkfjgggiopegbaaDoor
end
