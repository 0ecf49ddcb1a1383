/- Part 6 of a proof: the executor, its soundness, contracts of functions. No condition. -/
import Derived.Shelf.Strings.Repeat
import Derived.Test.YtkfjgggiopegbaaDoorPe
section
namespace Go.Proofs.YtkfjgggiopegbaaDoor
set_option linter.unusedVariables false
set_option linter.unusedSimpArgs false
set_option maxRecDepth 100000
def lSane25E : List DV := [.bool true]
def lSane25F (ds : List DV) : List DV := lSane25E
def lSane25Tree : PT :=
(.leaf [(.bool true)])
def lSane25Sm : List (Nat × Smy) := [(32, ⟨131, [.agg [.rows false [.int .i64]], .agg [.rows false [.str], .rows false [.int .i64, .str]], .agg [.pl (.int .i64), .pl (.int .i64), .pl (.int .i64), .pl (.int .i64), .pl .str]], [.agg [.rows false [.int .i64]], .agg [.rows false [.str], .rows false [.int .i64, .str]], .agg [.pl (.int .i64), .pl .bool], .one (.pl (.int .i64))], lenC [(0, 1000000), (1, 1000000), (2, 1000000)], some uDoF⟩), (27, ⟨4, [.agg [.rows false [.int .i64]], .agg [.rows false [.int .i64]]], [.one (.pl .bool)], lenC [(0, 1000000), (1, 1000000)], some rSameF⟩), (10, ⟨105, [.one (.rows false [.str]), .one (.pl (.int .i64))], [.agg [.pl (.int .i64), .rows true [.int .i64, .int .i64]], .one (.pl (.int .i64)), .one (.pl (.int .i64))], lenC [(0, 1000)], some wParseF⟩), (30, ⟨74, [.one (.pl (.int .i64))], [.agg [.rows false [.str], .rows false [.int .i64, .str]], .one (.pl (.int .i64))], fun _ => [], some rDNewF⟩), (52, ⟨8, [.agg [.rows false [.int .i64]], .one (.rows false [.int .i64, .int .i64, .int .i64, .int .i64, .str])], [.agg [.rows false [.int .i64]], .one (.rows true [.int .i64, .bool]), .one (.pl (.int .i64))], lenC [(0, 1000000), (1, 1000000)], some memAllF⟩), (53, ⟨27, [.agg [.pl (.int .i64), .pl (.int .i64), .pl (.int .i64), .pl (.int .i64), .pl (.int .i64), .pl (.int .i64), .pl (.int .i64), .pl (.int .i64), .pl (.int .i64), .pl (.int .i64), .pl (.int .i64), .pl (.int .i64), .pl (.int .i64)], .one (.rows false [.int .i64])], [.one (.rows true [.int .i64, .int .i64, .int .i64, .int .i64, .str])], fun es => lenC [(13, 1000000)] es ++ rgeC [(1, 0, 1000)] es, some layInitF⟩), (28, ⟨128, [.agg [.pl (.int .i64), .pl (.int .i64), .pl (.int .i64), .pl (.int .i64), .pl (.int .i64)]], [.agg [.pl (.int .i64), .pl (.int .i64), .pl (.int .i64), .pl (.int .i64), .pl (.int .i64), .pl (.int .i64), .pl (.int .i64), .pl (.int .i64), .pl (.int .i64), .pl (.int .i64), .pl (.int .i64), .pl (.int .i64), .pl (.int .i64)], .one (.pl (.int .i64))], fun _ => [], some rOfMF⟩), (33, ⟨24, [.agg [.rows false [.int .i64]], .one (.pl (.int .i64))], [.one (.pl (.int .i64))], fun _ => [], some rCellF⟩), (34, ⟨32, [.agg [.pl (.int .i64), .pl (.int .i64), .pl (.int .i64), .pl (.int .i64), .pl (.int .i64), .pl (.int .i64), .pl (.int .i64), .pl (.int .i64), .pl (.int .i64), .pl (.int .i64), .pl (.int .i64), .pl (.int .i64), .pl (.int .i64)], .one (.pl (.int .i64))], [.one (.pl (.int .i64))], fun _ => [], some rValF⟩), (35, ⟨31, [.agg [.pl (.int .i64), .pl (.int .i64), .pl (.int .i64), .pl (.int .i64), .pl (.int .i64), .pl (.int .i64), .pl (.int .i64), .pl (.int .i64), .pl (.int .i64), .pl (.int .i64), .pl (.int .i64), .pl (.int .i64), .pl (.int .i64)], .one (.pl (.int .i64))], [.one (.pl (.int .i64))], fun _ => [], some rWordF⟩), (74, ⟨116, [.one (.pl .str)], [.one (.pl (.int .i64))], fun es => (fun _ => []) es ++ slenC [(0, 0, 1000000)] es, some rSum23F⟩), (73, ⟨118, [.one (.rows false [.int .i64])], [.one (.rows true [.int .u8])], lenC [(0, 1000)], some r3NumsF⟩), (72, ⟨114, [.agg [.pl (.int .i64), .rows false [.int .i64, .int .i64]]], [.one (.pl .bool)], lenC [(1, 9223372036854775807)], some rValidF⟩)]
def lSane25La : List (LK × LA) := []
def lSane25Phi : Fs := ⟨fun n d => match n with
  | 131 => .list (uDoF d.l)
  | 4 => .list (rSameF d.l)
  | 105 => .list (wParseF d.l)
  | 74 => .list (rDNewF d.l)
  | 8 => .list (memAllF d.l)
  | 27 => .list (layInitF d.l)
  | 128 => .list (rOfMF d.l)
  | 24 => .list (rCellF d.l)
  | 32 => .list (rValF d.l)
  | 31 => .list (rWordF d.l)
  | 116 => .list (rSum23F d.l)
  | 118 => .list (r3NumsF d.l)
  | 114 => .list (rValidF d.l)
  | _ => d, 147⟩
theorem lSane25S : SmyOk true Tryd.prog lSane25Phi lSane25Sm := (smy_cons (lenP [(0, 1000000), (1, 1000000), (2, 1000000)]) uDoF uDo_pure (len_hp [(0, 1000000), (1, 1000000), (2, 1000000)]) (fun _ => rfl) (fun _ h => by cases h; rfl) (smy_cons (lenP [(0, 1000000), (1, 1000000)]) rSameF rSame_pure (len_hp [(0, 1000000), (1, 1000000)]) (fun _ => rfl) (fun _ h => by cases h; rfl) (smy_cons (lenP [(0, 1000)]) wParseF wParse_pure (len_hp [(0, 1000)]) (fun _ => rfl) (fun _ h => by cases h; rfl) (smy_cons (fun _ => True) rDNewF rDNew_pure (fun _ _ _ _ => trivial) (fun _ => rfl) (fun _ h => by cases h; rfl) (smy_cons (lenP [(0, 1000000), (1, 1000000)]) memAllF memAll_pure (len_hp [(0, 1000000), (1, 1000000)]) (fun _ => rfl) (fun _ h => by cases h; rfl) (smy_cons (fun ds => lenP [(13, 1000000)] ds ∧ rgeP [(1, 0, 1000)] ds) layInitF layInit_pure (both_hp [(13, 1000000)] [(1, 0, 1000)]) (fun _ => rfl) (fun _ h => by cases h; rfl) (smy_cons (fun _ => True) rOfMF rOfM_pure (fun _ _ _ _ => trivial) (fun _ => rfl) (fun _ h => by cases h; rfl) (smy_cons (fun _ => True) rCellF rCell_pure (fun _ _ _ _ => trivial) (fun _ => rfl) (fun _ h => by cases h; rfl) (smy_cons (fun _ => True) rValF rVal_pure (fun _ _ _ _ => trivial) (fun _ => rfl) (fun _ h => by cases h; rfl) (smy_cons (fun _ => True) rWordF rWord_pure (fun _ _ _ _ => trivial) (fun _ => rfl) (fun _ h => by cases h; rfl) (smy_cons (fun ds => (fun _ => True) ds ∧ slenP [(0, 0, 1000000)] ds) rSum23F rSum23_pure (slen_hp (C := fun _ => []) (Q := fun _ => True) [(0, 0, 1000000)] (fun _ _ _ _ => trivial)) (fun _ => rfl) (fun _ h => by cases h; rfl) (smy_cons (lenP [(0, 1000)]) r3NumsF r3Nums_pure (len_hp [(0, 1000)]) (fun _ => rfl) (fun _ h => by cases h; rfl) (smy_cons (lenP [(1, 9223372036854775807)]) rValidF rValid_pure (len_hp [(1, 9223372036854775807)]) (fun _ => rfl) (fun _ h => by cases h; rfl) smy_nil)))))))))))))
theorem lSane25T : treeOk ⟨Tryd.prog, lSane25Sm, lSane25La, true⟩ 4000 19 [] [.one (.pl .bool)] ([]) lSane25Tree = true := by decide +kernel
set_option maxHeartbeats 1000000 in
theorem lSane25_pure : PureE true Tryd.prog 19 [] [.one (.pl .bool)] (fun _ => True) lSane25F := by
  refine pure_tree (X := ⟨Tryd.prog, lSane25Sm, lSane25La, true⟩) (by decide +kernel) (Checked.mixed Tryd.checked) lSane25S (by decide +kernel) (by decide +kernel) lSane25T (by decide +kernel) ?_
  intro ds hl hp
  obtain rfl := len0 hl
  have hF : lSane25F [] = lSane25E  := rfl
  rw [hF]
  clear hF hp hl
  have hN : nrmL (clsOf []) [] = [] := by
    simp only [clsOf, nrmL]
  rw [hN]
  clear hN
  refine ⟨facts_nil _, ?_⟩
  unfold lSane25Tree
  simp only [Sat, clsOf, Sh.cls, List.append_nil, nrmL, Cl.nrm, CK.nrm, List.map_cons, List.map_nil, List.cons.injEq, DV.bool.injEq, and_true, lSane25E]
  all_goals try simp only [q_bool]
  all_goals try simp only [b_bool, eq_self]
  all_goals try rfl
end Go.Proofs.YtkfjgggiopegbaaDoor
end
section
namespace Go.Proofs.YtkfjgggiopegbaaDoor
set_option linter.unusedVariables false
set_option linter.unusedSimpArgs false
def secOkM (s : List UInt8) : Bool := decide ((s.length : Int) = 32)
def wasOkM (n : Int) (w : Tis) : Bool := decide (0 ≤ w.1 ∧ w.1 < n ∧ (w.2.length : Int) = 32)
def rightDM (sec : List (List UInt8)) (was : List Tis) : Bool := decide ((sec.length : Int) ≤ 512) && (sec.all secOkM && was.all (wasOkM sec.length))
theorem all_of {α : Type} {l : List α} {p : α → Bool} (d : α) (h : ∀ i, i < l.length → p (l[i]?.getD d) = true) : l.all p = true := by
  rw [List.all_eq_true]
  intro x hx
  obtain ⟨i, hi, rfl⟩ := List.getElem_of_mem hx
  have := h i hi
  rw [List.getElem?_eq_getElem hi] at this
  exact this
theorem not_all {α : Type} {l : List α} {p : α → Bool} (d : α) {i : Nat} (hi : i < l.length) (h : p (l[i]?.getD d) = false) : l.all p = false := by
  rw [List.getElem?_eq_getElem hi] at h
  rw [List.all_eq_false]
  exact ⟨l[i], List.getElem_mem hi, by rw [show p l[i] = false from h]; simp⟩
end Go.Proofs.YtkfjgggiopegbaaDoor
end
section
namespace Go.Proofs.YtkfjgggiopegbaaDoor
set_option linter.unusedVariables false
set_option linter.unusedSimpArgs false
set_option maxRecDepth 100000
def fewDM (sec : List (List UInt8)) (was : List Tis) : Bool := decide ((sec.length : Int) ≤ 600) && (decide ((was.length : Int) ≤ 60) && (sec.all (fun s => decide ((s.length : Int) ≤ 60)) && was.all fun w => decide ((w.2.length : Int) ≤ 60)))
def rFewE (sec : List (List UInt8)) (was : List Tis) : List DV := [.bool (fewDM sec was)]
def rFewF (ds : List DV) : List DV := rFewE (gLs ds 0) (gLis ds 1)
def rFewTree : PT :=
(.br (.un .not (.bin .le (.un .len (.var 0)) (.int 600)))
 (.leaf [(.bool false)])
 (.br (.un .not (.bin .le (.un .len (.var 1)) (.int 60)))
  (.leaf [(.bool false)])
  (.loop 2 [(.int 0)]
   (.br (.un .not (.bin .le (.un .len (.var 0)) (.var 2)))
    (.asrt (.bin .le (.int 0) (.var 2))
     (.br (.un .not (.bin .le (.un .slen (.bin .idx (.var 0) (.bin .add (.int 0) (.var 2)))) (.int 60)))
      .fail
      (.leaf [(.un (.wrap .i64) (.bin .add (.var 2) (.int 1)))])))
    .fail)
   (.br (.un .not (.bin .le (.un .len (.var 0)) (.var 2)))
    (.asrt (.bin .le (.int 0) (.var 2))
     (.br (.un .not (.bin .le (.un .slen (.bin .idx (.var 0) (.bin .add (.int 0) (.var 2)))) (.int 60)))
      (.leaf [(.bool false)])
      .fail))
    (.loop 3 [(.int 0)]
     (.br (.un .not (.bin .le (.un .len (.var 1)) (.var 3)))
      (.asrt (.bin .le (.int 0) (.var 3))
       (.br (.un .not (.bin .le (.un .slen (.bin .idx (.bin .idx (.var 1) (.bin .add (.int 0) (.var 3))) (.int 1))) (.int 60)))
        .fail
        (.leaf [(.un (.wrap .i64) (.bin .add (.var 3) (.int 1)))])))
      .fail)
     (.br (.un .not (.bin .le (.un .len (.var 1)) (.var 3)))
      (.asrt (.bin .le (.int 0) (.var 3))
       (.br (.un .not (.bin .le (.un .slen (.bin .idx (.bin .idx (.var 1) (.bin .add (.int 0) (.var 3))) (.int 1))) (.int 60)))
        (.leaf [(.bool false)])
        .fail))
      (.leaf [(.bool true)])))))))
def rFewSm : List (Nat × Smy) := []
def rFewLa : List (LK × LA) := [(⟨44, 9, 3, 3, 3⟩, ⟨[(4, (.int .i64 (.var 3))), (29, .any), (30, .any), (31, .any), (32, .any), (33, .any), (34, .any), (35, .any), (36, .any), (37, .any), (38, .any), (39, .any), (40, .any), (41, .any), (42, .any), (43, .any)], [], [], 1, 0⟩),
  (⟨44, 4, 3, 2, 2⟩, ⟨[(3, (.int .i64 (.var 2))), (15, .any), (16, .any), (17, .any), (18, .any), (19, .any), (20, .any), (21, .any), (22, .any), (23, .any), (24, .any), (25, .any), (26, .any), (27, .any), (28, .any)], [], [], 1, 0⟩)]
def rFewPhi : Fs := ⟨fun n d => match n with
  | _ => d, 147⟩
theorem rFewS : SmyOk true Tryd.prog rFewPhi rFewSm := smy_nil
theorem rFewT : treeOk ⟨Tryd.prog, rFewSm, rFewLa, true⟩ 4000 21 [.agg [.rows false [.str], .rows false [.int .i64, .str]]] [.one (.pl .bool)] ([]) rFewTree = true := by decide +kernel
set_option maxHeartbeats 1000000 in
theorem rFew_pure : PureE true Tryd.prog 21 [.agg [.rows false [.str], .rows false [.int .i64, .str]]] [.one (.pl .bool)] (lenP [(0, 9223372036854775807), (1, 9223372036854775807)]) rFewF := by
  refine pure_tree (X := ⟨Tryd.prog, rFewSm, rFewLa, true⟩) (by decide +kernel) (Checked.mixed Tryd.checked) rFewS (by decide +kernel) (by decide +kernel) rFewT (by decide +kernel) ?_
  intro ds hl hp
  obtain ⟨d0, d1, rfl⟩ := len2 hl
  have b0 : (d0.l.length : Int) ≤ 9223372036854775807 := hp (0, 9223372036854775807) (by simp)
  have b1 : (d1.l.length : Int) ≤ 9223372036854775807 := hp (1, 9223372036854775807) (by simp)
  have hF : rFewF [d0, d1] = rFewE (d0.l.map DV.s) (d1.l.map decis) := rfl
  rw [hF]
  clear hF hp hl
  have hN : nrmL (clsOf [.agg [.rows false [.str], .rows false [.int .i64, .str]]]) [d0, d1] = [.list ((d0.l.map DV.s).map DV.str), .list ((d1.l.map decis).map encis)] := by
    simp only [clsOf, Sh.cls, List.append_nil, nrmL, Cl.nrm, map_Lis, map_Ls]
  rw [hN]
  clear hN
  rw [← List.length_map (f := DV.s)] at b0
  generalize d0.l.map DV.s = x0 at b0 ⊢
  rw [← List.length_map (f := decis)] at b1
  generalize d1.l.map decis = x1 at b1 ⊢
  refine ⟨facts_nil _, ?_⟩
  unfold rFewTree rFewE
  simp only [Sat, clsOf, Sh.cls, List.append_nil, List.cons_append, List.nil_append, nrmL, Cl.nrm, CK.nrm, List.map_cons, List.map_nil, List.length_cons, List.length_nil, List.cons.injEq, DV.bool.injEq, and_true, true_and]
  try simp only [q_le, q_not, q_bool, iff_true, iff_false, Bool.not_true, Bool.not_false, Bool.false_eq_true, eq_self]
  simp only [SE.den, evU, ev_add, ev_idx, i_int, b_bool, l_list, envL, List.getElem?_cons_succ, List.getElem?_cons_zero, Option.getD_some, Int.reduceToNat, List.length_map, get_Ls, Int.zero_add, f_is_1]
  refine ⟨fun h => by unfold fewDM; rw [decide_eq_false (by omega)]; rfl, fun h600 => ⟨fun h => by unfold fewDM; rw [decide_eq_false (p := (x1.length : Int) ≤ 60) (by omega)]; simp, fun h60 => ?_⟩⟩
  have hd : fewDM x0 x1 = (x0.all (fun s => decide ((s.length : Int) ≤ 60)) && x1.all fun w => decide ((w.2.length : Int) ≤ 60)) := by unfold fewDM; rw [decide_eq_true h600, decide_eq_true h60]; rfl
  rw [hd]
  refine rounds_find x0.length (fun i => [DV.int i]) (fun i => ¬ ((x0[i]?.getD []).length : Int) ≤ 60) rfl (fun _ => rfl) (fun i hi hs hj => ?_) (fun i hi hs hj => ?_) (fun hj => ?_)
  · have h1 : ¬ (x0.length : Int) ≤ i := by omega
    have hs := Classical.not_not.1 hs
    simp only [i_int, List.getElem?_cons_zero, Option.getD_some, Int.toNat_natCast, and_true, eq_self, not_true_eq_false, not_false_eq_true, DV.int.injEq, List.cons.injEq, h1, hs, w64 (n := (i : Int) + 1) (by omega) (by omega)]
    simp
  · have h1 : ¬ (x0.length : Int) ≤ i := by omega
    have ha : x0.all (fun s => decide ((s.length : Int) ≤ 60)) = false := not_all [] hi (decide_eq_false hs)
    simp only [i_int, List.getElem?_cons_zero, Option.getD_some, Int.toNat_natCast, not_false_eq_true, h1, hs, ha]
    simp
  · have ha : x0.all (fun s => decide ((s.length : Int) ≤ 60)) = true := all_of [] fun i hi => decide_eq_true (Classical.not_not.1 (hj i hi))
    simp only [i_int, List.getElem?_cons_zero, Option.getD_some, Int.toNat_natCast, ha]
    refine ⟨fun h => absurd (Int.le_refl _) h, fun _ => ⟨rfl, ?_⟩⟩
    refine rounds_find x1.length (fun i => [DV.int i]) (fun i => ¬ ((x1[i]?.getD dis).2.length : Int) ≤ 60) rfl (fun _ => rfl) (fun i hi hs hj => ?_) (fun i hi hs hj => ?_) (fun hj => ?_)
    · have h1 : ¬ (x1.length : Int) ≤ i := by omega
      have hs := Classical.not_not.1 hs
      simp only [i_int, List.getElem?_cons_succ, List.getElem?_cons_zero, Option.getD_some, Int.toNat_natCast, and_true, eq_self, not_true_eq_false, not_false_eq_true, DV.int.injEq, List.cons.injEq, List.cons_append, List.nil_append, h1, hs, w64 (n := (i : Int) + 1) (by omega) (by omega)]
      simp
    · have h1 : ¬ (x1.length : Int) ≤ i := by omega
      have hb : x1.all (fun w => decide ((w.2.length : Int) ≤ 60)) = false := not_all dis hi (decide_eq_false hs)
      simp only [i_int, List.getElem?_cons_succ, List.getElem?_cons_zero, Option.getD_some, Int.toNat_natCast, not_false_eq_true, List.cons_append, List.nil_append, h1, hs, hb]
      simp
    · have hb : x1.all (fun w => decide ((w.2.length : Int) ≤ 60)) = true := all_of dis fun i hi => decide_eq_true (Classical.not_not.1 (hj i hi))
      simp only [i_int, List.getElem?_cons_succ, List.getElem?_cons_zero, Option.getD_some, Int.toNat_natCast, List.cons_append, List.nil_append, hb]
      simp
end Go.Proofs.YtkfjgggiopegbaaDoor
end
section
namespace Go.Proofs.YtkfjgggiopegbaaDoor
set_option linter.unusedVariables false
set_option linter.unusedSimpArgs false
set_option maxRecDepth 100000
def rDRightE (sec : List (List UInt8)) (was : List Tis) : List DV := [.bool (rightDM sec was)]
def rDRightF (ds : List DV) : List DV := rDRightE (gLs ds 0) (gLis ds 1)
def rDRightTree : PT :=
(.br (.un .not (.bin .le (.un .len (.var 0)) (.int 512)))
 (.leaf [(.bool false)])
 (.loop 2 [(.int 0)]
  (.br (.un .not (.bin .le (.un .len (.var 0)) (.var 2)))
   (.asrt (.bin .le (.int 0) (.var 2))
    (.br (.un .not (.bin .eq (.un .slen (.bin .idx (.var 0) (.bin .add (.int 0) (.var 2)))) (.int 32)))
     .fail
     (.leaf [(.un (.wrap .i64) (.bin .add (.var 2) (.int 1)))])))
   .fail)
  (.br (.un .not (.bin .le (.un .len (.var 0)) (.var 2)))
   (.asrt (.bin .le (.int 0) (.var 2))
    (.br (.un .not (.bin .eq (.un .slen (.bin .idx (.var 0) (.bin .add (.int 0) (.var 2)))) (.int 32)))
     (.leaf [(.bool false)])
     .fail))
   (.loop 3 [(.int 0)]
    (.br (.un .not (.bin .le (.un .len (.var 1)) (.var 3)))
     (.asrt (.bin .le (.int 0) (.var 3))
      (.br (.un .not (.bin .le (.int 0) (.bin .idx (.bin .idx (.var 1) (.bin .add (.int 0) (.var 3))) (.int 0))))
       .fail
       (.br (.bin .le (.un .len (.var 0)) (.bin .idx (.bin .idx (.var 1) (.bin .add (.int 0) (.var 3))) (.int 0)))
        .fail
        (.br (.un .not (.bin .eq (.un .slen (.bin .idx (.bin .idx (.var 1) (.bin .add (.int 0) (.var 3))) (.int 1))) (.int 32)))
         .fail
         (.leaf [(.un (.wrap .i64) (.bin .add (.var 3) (.int 1)))])))))
     .fail)
    (.br (.un .not (.bin .le (.un .len (.var 1)) (.var 3)))
     (.asrt (.bin .le (.int 0) (.var 3))
      (.br (.un .not (.bin .le (.int 0) (.bin .idx (.bin .idx (.var 1) (.bin .add (.int 0) (.var 3))) (.int 0))))
       (.leaf [(.bool false)])
       (.br (.bin .le (.un .len (.var 0)) (.bin .idx (.bin .idx (.var 1) (.bin .add (.int 0) (.var 3))) (.int 0)))
        (.leaf [(.bool false)])
        (.br (.un .not (.bin .eq (.un .slen (.bin .idx (.bin .idx (.var 1) (.bin .add (.int 0) (.var 3))) (.int 1))) (.int 32)))
         (.leaf [(.bool false)])
         .fail))))
     (.leaf [(.bool true)]))))))
def rDRightSm : List (Nat × Smy) := []
def rDRightLa : List (LK × LA) := [(⟨59, 9, 3, 3, 2⟩, ⟨[(4, (.int .i64 (.var 3))), (23, .any), (24, .any), (25, .any), (26, .any), (27, .any), (28, .any), (29, .any), (30, .any), (31, .any), (32, .any), (33, .any), (34, .any), (35, .any), (36, .any), (37, .any), (38, .any), (39, .any), (40, .any), (41, .any), (42, .any), (43, .any), (44, .any), (45, .any), (46, .any), (47, .any), (48, .any), (49, .any), (50, .any), (51, .any), (52, .any), (53, .any), (54, .any), (55, .any), (56, .any), (57, .any), (58, .any)], [], [], 1, 0⟩),
  (⟨59, 4, 3, 2, 1⟩, ⟨[(3, (.int .i64 (.var 2))), (9, .any), (10, .any), (11, .any), (12, .any), (13, .any), (14, .any), (15, .any), (16, .any), (17, .any), (18, .any), (19, .any), (20, .any), (21, .any), (22, .any)], [], [], 1, 0⟩)]
def rDRightPhi : Fs := ⟨fun n d => match n with
  | _ => d, 147⟩
theorem rDRightS : SmyOk true Tryd.prog rDRightPhi rDRightSm := smy_nil
theorem rDRightT : treeOk ⟨Tryd.prog, rDRightSm, rDRightLa, true⟩ 4000 22 [.agg [.rows false [.str], .rows false [.int .i64, .str]]] [.one (.pl .bool)] ([]) rDRightTree = true := by decide +kernel
set_option maxHeartbeats 1000000 in
theorem rDRight_pure : PureE true Tryd.prog 22 [.agg [.rows false [.str], .rows false [.int .i64, .str]]] [.one (.pl .bool)] (lenP [(0, 1000000), (1, 1000000)]) rDRightF := by
  refine pure_tree (X := ⟨Tryd.prog, rDRightSm, rDRightLa, true⟩) (by decide +kernel) (Checked.mixed Tryd.checked) rDRightS (by decide +kernel) (by decide +kernel) rDRightT (by decide +kernel) ?_
  intro ds hl hp
  obtain ⟨d0, d1, rfl⟩ := len2 hl
  have b0 : (d0.l.length : Int) ≤ 1000000 := hp (0, 1000000) (by simp)
  have b1 : (d1.l.length : Int) ≤ 1000000 := hp (1, 1000000) (by simp)
  have hF : rDRightF [d0, d1] = rDRightE (d0.l.map DV.s) (d1.l.map decis) := rfl
  rw [hF]
  clear hF hp hl
  have hN : nrmL (clsOf [.agg [.rows false [.str], .rows false [.int .i64, .str]]]) [d0, d1] = [.list ((d0.l.map DV.s).map DV.str), .list ((d1.l.map decis).map encis)] := by
    simp only [clsOf, Sh.cls, List.append_nil, nrmL, Cl.nrm, map_Lis, map_Ls]
  rw [hN]
  clear hN
  rw [← List.length_map (f := DV.s)] at b0
  generalize d0.l.map DV.s = x0 at b0 ⊢
  rw [← List.length_map (f := decis)] at b1
  generalize d1.l.map decis = x1 at b1 ⊢
  refine ⟨facts_nil _, ?_⟩
  unfold rDRightTree rDRightE
  simp only [Sat, clsOf, Sh.cls, List.append_nil, List.cons_append, List.nil_append, nrmL, Cl.nrm, CK.nrm, List.map_cons, List.map_nil, List.length_cons, List.length_nil, List.cons.injEq, DV.bool.injEq, and_true, true_and]
  try simp only [q_le, q_eq, q_not, q_bool, iff_true, iff_false, Bool.not_true, Bool.not_false, Bool.false_eq_true, eq_self]
  simp only [SE.den, evU, ev_add, ev_idx, i_int, b_bool, l_list, envL, List.getElem?_cons_succ, List.getElem?_cons_zero, Option.getD_some, Int.toNat_zero, Int.reduceToNat, List.length_map, get_Ls, Int.zero_add, f_is_0, f_is_1]
  refine ⟨fun h => by unfold rightDM; rw [decide_eq_false (by omega)]; rfl, fun h512 => ?_⟩
  have hd : rightDM x0 x1 = (x0.all secOkM && x1.all (wasOkM x0.length)) := by unfold rightDM; rw [decide_eq_true h512]; rfl
  rw [hd]
  refine rounds_find x0.length (fun i => [DV.int i]) (fun i => ¬ ((x0[i]?.getD []).length : Int) = 32) rfl (fun _ => rfl) (fun i hi hs hj => ?_) (fun i hi hs hj => ?_) (fun hj => ?_)
  · have h1 : ¬ (x0.length : Int) ≤ i := by omega
    have hs : ((x0[i]?.getD []).length : Int) = 32 := Classical.not_not.1 hs
    simp only [i_int, List.getElem?_cons_zero, Option.getD_some, Int.toNat_natCast, and_true, eq_self, not_true_eq_false, not_false_eq_true, DV.int.injEq, List.cons.injEq, h1, hs, w64 (n := (i : Int) + 1) (by omega) (by omega)]
    simp
  · have h1 : ¬ (x0.length : Int) ≤ i := by omega
    have ha : x0.all secOkM = false := not_all [] hi (decide_eq_false hs)
    simp only [i_int, List.getElem?_cons_zero, Option.getD_some, Int.toNat_natCast, not_false_eq_true, h1, hs, ha]
    simp
  · have ha : x0.all secOkM = true := all_of [] fun i hi => decide_eq_true (Classical.not_not.1 (hj i hi))
    simp only [i_int, List.getElem?_cons_zero, Option.getD_some, Int.toNat_natCast, ha]
    refine ⟨fun h => absurd (Int.le_refl _) h, fun _ => ⟨rfl, ?_⟩⟩
    refine rounds_find x1.length (fun i => [DV.int i]) (fun i => wasOkM x0.length (x1[i]?.getD dis) = false) rfl (fun _ => rfl) (fun i hi hs hj => ?_) (fun i hi hs hj => ?_) (fun hj => ?_)
    · have h1 : ¬ (x1.length : Int) ≤ i := by omega
      have hs : wasOkM x0.length (x1[i]?.getD dis) = true := by simpa using hs
      have hs := of_decide_eq_true hs
      simp only [i_int, List.getElem?_cons_succ, List.getElem?_cons_zero, Option.getD_some, Int.toNat_natCast, and_true, eq_self, not_false_eq_true, DV.int.injEq, List.cons.injEq, List.cons_append, List.nil_append, h1, w64 (n := (i : Int) + 1) (by omega) (by omega)]
      grind
    · have h1 : ¬ (x1.length : Int) ≤ i := by omega
      have hb : x1.all (wasOkM x0.length) = false := not_all dis hi hs
      have hs := of_decide_eq_false hs
      simp only [i_int, List.getElem?_cons_succ, List.getElem?_cons_zero, Option.getD_some, Int.toNat_natCast, not_false_eq_true, List.cons_append, List.nil_append, h1, hb]
      grind
    · have hb : x1.all (wasOkM x0.length) = true := all_of dis fun i hi => by simpa using hj i hi
      simp only [i_int, List.getElem?_cons_succ, List.getElem?_cons_zero, Option.getD_some, Int.toNat_natCast, List.cons_append, List.nil_append, hb]
      simp
end Go.Proofs.YtkfjgggiopegbaaDoor
end
section
namespace Go.Proofs.YtkfjgggiopegbaaDoor
set_option linter.unusedVariables false
set_option linter.unusedSimpArgs false
def recM (l : List (List UInt8)) : Nat → Int → Int → List TEn × Int
  | 0, a, _ => ([], a)
  | n + 1, a, last => match parseM l a with
    | none => ([], a)
    | some r => if r.1.1 ≤ last then ([], a) else (r.1 :: (recM l n (a + r.2) r.1.1).1, (recM l n (a + r.2) r.1.1).2)
def recoverM (l : List (List UInt8)) : List TEn × Int := recM l (l.length + 1) 0 0
theorem recM_none {l : List (List UInt8)} {n : Nat} {a last : Int} (h : parseM l a = none) : recM l (n + 1) a last = ([], a) := by unfold recM; rw [h]
theorem recM_old {l : List (List UInt8)} {n : Nat} {a last : Int} {r : TEn × Nat} (h : parseM l a = some r) (h1 : r.1.1 ≤ last) : recM l (n + 1) a last = ([], a) := by
  rw [recM, h]
  exact if_pos h1
theorem recM_some {l : List (List UInt8)} {n : Nat} {a last : Int} {r : TEn × Nat} (h : parseM l a = some r) (h1 : ¬ r.1.1 ≤ last) : recM l (n + 1) a last = (r.1 :: (recM l n (a + r.2) r.1.1).1, (recM l n (a + r.2) r.1.1).2) := by
  rw [recM, h]
  exact if_neg h1
theorem parse_w {l : List (List UInt8)} {a : Int} {r : TEn × Nat} (h : parseM l a = some r) : r.1.2.length ≤ 32 := by
  obtain ⟨c1, _⟩ := parse_canon (e := r.1) (n := r.2) h
  exact (validM_iff.1 c1).2.2.2
theorem recM_w : ∀ (n : Nat) (l : List (List UInt8)) (a last : Int), ∀ e ∈ (recM l n a last).1, e.2.length ≤ 32
  | 0, l, a, last, e, h => by simp [recM] at h
  | n + 1, l, a, last, e, h => by
    cases hp : parseM l a with
    | none => rw [recM_none hp] at h; simp at h
    | some r =>
      by_cases hr : r.1.1 ≤ last
      · rw [recM_old hp hr] at h; simp at h
      · rw [recM_some hp hr] at h
        rcases List.mem_cons.1 h with h | h
        · rw [h]; exact parse_w hp
        · exact recM_w n l _ _ e h
theorem recM_len : ∀ (n : Nat) (l : List (List UInt8)) (a last : Int), (recM l n a last).1.length ≤ n
  | 0, l, a, last => by simp [recM]
  | n + 1, l, a, last => by
    cases hp : parseM l a with
    | none => rw [recM_none hp]; simp
    | some r =>
      by_cases hr : r.1.1 ≤ last
      · rw [recM_old hp hr]; simp
      · rw [recM_some hp hr, List.length_cons]
        have := recM_len n l (a + r.2) r.1.1
        omega
theorem recover_w (l : List (List UInt8)) (i : Nat) : (((recoverM l).1[i]?).getD dEn).2.length ≤ 32 := by
  cases h : (recoverM l).1[i]? with
  | none => simp [dEn]
  | some e => exact recM_w _ _ _ _ e (List.mem_of_getElem? h)
theorem recover_len (l : List (List UInt8)) : (recoverM l).1.length ≤ l.length + 1 := recM_len _ _ _ _
end Go.Proofs.YtkfjgggiopegbaaDoor
end
section
namespace Go.Proofs.YtkfjgggiopegbaaDoor
set_option linter.unusedVariables false
set_option linter.unusedSimpArgs false
set_option maxRecDepth 100000
def wRecoverE (l : List (List UInt8)) : List DV := [.list ((recoverM l).1.map encEn), .int (recoverM l).2]
def wRecoverF (ds : List DV) : List DV := wRecoverE (gLs ds 0)
def wRecoverTree : PT :=
(.loop 1 [.nil, (.int 0), (.int 0)]
 (.asrt (.bin .le (.un .len (.var 0)) (.int 1000))
  (.br (.un .not (.bin .eq (.bin .idx (.fn 105 (.bin .cons (.var 0) (.bin .cons (.var 2) .nil))) (.int 3)) (.int 0)))
   .fail
   (.br (.bin .le (.bin .idx (.fn 105 (.bin .cons (.var 0) (.bin .cons (.var 2) .nil))) (.int 0)) (.var 3))
    .fail
    (.asrt (.bin .le (.bin .add (.un .len (.var 1)) (.int 1)) (.int 4294967296))
     (.leaf [(.bin .snoc (.var 1) (.bin .cons (.bin .idx (.fn 105 (.bin .cons (.var 0) (.bin .cons (.var 2) .nil))) (.int 0)) (.bin .cons (.bin .idx (.fn 105 (.bin .cons (.var 0) (.bin .cons (.var 2) .nil))) (.int 1)) .nil))), (.un (.wrap .i64) (.bin .add (.var 2) (.bin .idx (.fn 105 (.bin .cons (.var 0) (.bin .cons (.var 2) .nil))) (.int 2)))), (.bin .idx (.fn 105 (.bin .cons (.var 0) (.bin .cons (.var 2) .nil))) (.int 0))])))))
 (.asrt (.bin .le (.un .len (.var 0)) (.int 1000))
  (.br (.un .not (.bin .eq (.bin .idx (.fn 105 (.bin .cons (.var 0) (.bin .cons (.var 2) .nil))) (.int 3)) (.int 0)))
   (.leaf [(.var 1), (.var 2)])
   (.br (.bin .le (.bin .idx (.fn 105 (.bin .cons (.var 0) (.bin .cons (.var 2) .nil))) (.int 0)) (.var 3))
    (.leaf [(.var 1), (.var 2)])
    (.asrt (.bin .le (.bin .add (.un .len (.var 1)) (.int 1)) (.int 4294967296))
     .fail)))))
def wRecoverSm : List (Nat × Smy) := [(10, ⟨105, [.one (.rows false [.str]), .one (.pl (.int .i64))], [.agg [.pl (.int .i64), .rows true [.int .i64, .int .i64]], .one (.pl (.int .i64)), .one (.pl (.int .i64))], lenC [(0, 1000)], none⟩)]
def wRecoverLa : List (LK × LA) := [(⟨36, 3, 1, 1, 0⟩, ⟨[(4, (.sl 1 2 (.int 0) (.un .len (.var 1)) none)), (5, (.int .i64 (.var 2))), (6, (.int .i64 (.var 3))), (7, .any), (8, .any), (9, .any), (10, .any), (11, .any), (12, .any), (13, .any), (14, .any), (15, .any), (16, .any), (17, .any), (18, .any), (19, .any), (20, .any), (21, .any), (22, .any), (23, .any), (24, .any), (25, .any), (26, .any), (27, .any), (28, .any), (29, .any), (30, .any), (31, .any), (32, .any), (33, .any), (34, .any), (35, .any)], [(1, (.nrows [.pl (.int .i64), .sub [.int .i64, .int .i64]] (.var 1)))], [], 3, 1⟩)]
def wRecoverPhi : Fs := ⟨fun n d => match n with
  | 105 => .list (wParseF d.l)
  | _ => d, 147⟩
theorem wRecoverS : SmyOk true Tryd.prog wRecoverPhi wRecoverSm := (smy_cons (lenP [(0, 1000)]) wParseF wParse_pure (len_hp [(0, 1000)]) (fun _ => rfl) (fun _ h => by cases h) smy_nil)
theorem wRecoverT : treeOk ⟨Tryd.prog, wRecoverSm, wRecoverLa, true⟩ 4000 12 [.one (.rows false [.str])] [.one (.nst [.pl (.int .i64), .sub [.int .i64, .int .i64]]), .one (.pl (.int .i64))] ([]) wRecoverTree = true := by decide +kernel
set_option maxHeartbeats 1000000 in
theorem wRecover_pure : PureE true Tryd.prog 12 [.one (.rows false [.str])] [.one (.nst [.pl (.int .i64), .sub [.int .i64, .int .i64]]), .one (.pl (.int .i64))] (lenP [(0, 1000)]) wRecoverF := by
  refine pure_tree (X := ⟨Tryd.prog, wRecoverSm, wRecoverLa, true⟩) (by decide +kernel) (Checked.mixed Tryd.checked) wRecoverS (by decide +kernel) (by decide +kernel) wRecoverT (by decide +kernel) ?_
  intro ds hl hp
  obtain ⟨d0, rfl⟩ := len1 hl
  have b0 : (d0.l.length : Int) ≤ 1000 := hp (0, 1000) (by simp)
  have hF : wRecoverF [d0] = wRecoverE (d0.l.map DV.s) := rfl
  rw [hF]
  clear hF hp hl
  have hN : nrmL (clsOf [.one (.rows false [.str])]) [d0] = [.list ((d0.l.map DV.s).map DV.str)] := by
    simp only [clsOf, Sh.cls, List.append_nil, nrmL, Cl.nrm, map_Ls]
  rw [hN]
  clear hN
  rw [← List.length_map (f := DV.s)] at b0
  generalize d0.l.map DV.s = x0 at b0 ⊢
  refine ⟨facts_nil _, ?_⟩
  unfold wRecoverTree wRecoverE
  simp only [Sat, clsOf, Sh.cls, List.append_nil, List.cons_append, List.nil_append, nrmL, Cl.nrm, CK.nrm, List.map_cons, List.map_nil, List.length_cons, List.length_nil, List.cons.injEq, DV.int.injEq, DV.list.injEq, and_true, true_and]
  try simp only [q_le, q_eq, q_not, iff_true, iff_false, Bool.not_true, Bool.not_false, Bool.false_eq_true, eq_self]
  simp only [SE.den, evU, ev_add, ev_idx, ev_cons, ev_snoc, i_int, l_list, envL, List.getElem?_cons_succ, List.getElem?_cons_zero, Option.getD_some, Int.toNat_zero, Int.reduceToNat, List.length_map, rows_En, rows_En, wRecoverPhi, wParseF, wParseE, gi, gLs, dece_s]
  refine rounds_inv (fun y => ∃ (acc : List TEn) (a last : Int) (n : Nat), y = [DV.list (acc.map encEn), DV.int a, DV.int last] ∧ 0 ≤ a ∧ a ≤ x0.length ∧ (acc.length : Int) ≤ a ∧ (x0.length : Int) - a < n ∧ acc ++ (recM x0 n a last).1 = (recoverM x0).1 ∧ (recM x0 n a last).2 = (recoverM x0).2) (fun y => ((x0.length : Int) - (((y[1]?).getD (DV.int 0)).i)).toNat) ⟨[], 0, 0, x0.length + 1, rfl, by omega, by omega, by simp, by omega, rfl, rfl⟩ ?_
  rintro y ⟨acc, a, last, n, rfl, h0, h1, h2, h3, h4, h5⟩
  cases n with
  | zero => omega
  | succ n =>
  cases hp : parseM x0 a with
  | none =>
    rw [recM_none hp] at h4 h5
    left
    simp only [i_int, l_list, List.getElem?_cons_succ, List.getElem?_cons_zero, Option.getD_some, List.length_map, rows_En, inj_LEn, rows_En, inj_LEn, hp, parse4]
    exact ⟨b0, fun _ => ⟨by simpa using h4, h5⟩, fun h => absurd h (by omega)⟩
  | some r =>
    by_cases hr : r.1.1 ≤ last
    · rw [recM_old hp hr] at h4 h5
      left
      simp only [i_int, l_list, List.getElem?_cons_succ, List.getElem?_cons_zero, Option.getD_some, List.length_map, eq_self, not_true_eq_false, rows_En, inj_LEn, rows_En, inj_LEn, hp, parse4]
      exact ⟨b0, fun h => h.elim, fun _ => ⟨fun _ => ⟨by simpa using h4, h5⟩, fun h => absurd hr h⟩⟩
    · rw [recM_some hp hr] at h4 h5
      obtain ⟨_, _, _, c4, c5, _, _⟩ := parse_canon (e := r.1) (n := r.2) hp
      have hw : IntKind.i64.wrap (a + (r.2 : Int)) = a + r.2 := w64 (by omega) (by omega)
      right
      simp only [i_int, l_list, List.getElem?_cons_succ, List.getElem?_cons_zero, Option.getD_some, List.length_map, eq_self, not_true_eq_false, hp, parse4, hw]
      refine ⟨_, ⟨b0, fun h => h, fun _ => ⟨fun h => absurd h hr, fun _ => ⟨by omega, rfl⟩⟩⟩, rfl, ⟨acc ++ [r.1], a + r.2, r.1.1, n, ?_, by omega, by omega, by simp only [List.length_append, List.length_cons, List.length_nil]; omega, by omega, ?_, h5⟩, ?_⟩
      · rw [List.map_append]; rfl
      · rw [List.append_assoc]; exact h4
      · show ((x0.length : Int) - (a + r.2)).toNat < _
        omega
end Go.Proofs.YtkfjgggiopegbaaDoor
end
section
namespace Go.Proofs.YtkfjgggiopegbaaDoor
set_option linter.unusedVariables false
set_option linter.unusedSimpArgs false
def lastM : List TEn → Int → Option (Tii × Int)
  | [], _ => none
  | e :: r, k => match lastM r k with
    | some x => some x
    | none => (e.2.find? fun w => decide (w.1 = k)).map fun w => (w, e.1)
theorem last_app (b : List TEn) (k : Int) : ∀ a : List TEn, lastM (a ++ b) k = match lastM b k with | some x => some x | none => lastM a k
  | [] => by cases h : lastM b k <;> simp [h, lastM]
  | e :: a => by
    have ih := last_app b k a
    have e1 : ∀ r, lastM (e :: r) k = match lastM r k with | some x => some x | none => (e.2.find? fun w => decide (w.1 = k)).map fun w => (w, e.1) := fun _ => rfl
    show lastM (e :: (a ++ b)) k = _
    rw [e1, e1, ih]
    cases h : lastM b k <;> simp
theorem last_at {es : List TEn} {i : Nat} (hi : i < es.length) (k : Int) : lastM (es.drop i) k = match lastM (es.drop (i + 1)) k with | some x => some x | none => ((es[i]?.getD dEn).2.find? fun w => decide (w.1 = k)).map fun w => (w, (es[i]?.getD dEn).1) := by
  rw [List.drop_eq_getElem_cons hi, List.getElem?_eq_getElem hi]
  rfl
theorem last_app_some {es : List TEn} {k : Int} {n : Nat} {x : Tii × Int} (h : lastM (es.drop n) k = some x) : lastM es k = some x := by
  have := last_app (es.drop n) k (es.take n)
  rw [List.take_append_drop, h] at this
  exact this
theorem find_first {w : List Tii} {k : Int} {x : Tii} (h : w.find? (fun w => decide (w.1 = k)) = some x) : ∃ j, j < w.length ∧ w[j]?.getD dii = x ∧ x.1 = k ∧ ∀ t, t < j → (w[t]?.getD dii).1 ≠ k := by
  induction w with
  | nil => cases h
  | cons a w ih =>
    rw [List.find?_cons] at h
    by_cases ha : a.1 = k
    · simp only [ha, decide_true, Option.some.injEq] at h
      exact ⟨0, by simp, by simpa using h, by rw [← h]; exact ha, fun t ht => absurd ht (by omega)⟩
    · simp only [ha, decide_false] at h
      obtain ⟨j, h1, h2, h3, h4⟩ := ih h
      refine ⟨j + 1, by simpa using h1, by simpa using h2, h3, fun t ht => ?_⟩
      cases t with
      | zero => simpa using ha
      | succ t => simpa using h4 t (by omega)
theorem find_none {w : List Tii} {k : Int} (h : w.find? (fun w => decide (w.1 = k)) = none) : ∀ j, j < w.length → (w[j]?.getD dii).1 ≠ k := by
  intro j hj
  rw [List.getElem?_eq_getElem hj]
  have := List.find?_eq_none.1 h (w[j]) (List.getElem_mem hj)
  simpa using this
theorem raw_En_0 (l : List TEn) (j : Nat) : ((((l.map encEn)[j]?).getD (DV.int 0)).l[0]?).getD (DV.int 0) = .int ((l[j]?).getD dEn).1 := by rw [List.getElem?_map]; cases l[j]? <;> rfl
theorem scan_loop {B : List DV → List DV → Prop} {R : List DV → Prop} {w : List Tii} {k : Int} {j : Nat} (hj : j ≤ w.length) (hno : ∀ t, t < j → (w[t]?.getD dii).1 ≠ k)
    (hB : ∀ t : Nat, t < w.length → (w[t]?.getD dii).1 ≠ k → B [.int t] [.int ((t + 1 : Nat) : Int)]) (hR : R [.int (j : Nat)]) : Rounds B R [.int 0] :=
  rounds_at j (fun t => [.int t]) rfl (fun _ => rfl) (fun t ht => hB t (by omega) (hno t ht)) hR
theorem last_loop {B : List DV → List DV → Prop} {R : List DV → Prop} (es : List TEn) (k : Int)
    (hB : ∀ i, i < es.length → (∀ j, j < (es[i]?.getD dEn).2.length → ((es[i]?.getD dEn).2[j]?.getD dii).1 ≠ k) → B [.int (i : Nat)] [.int ((i : Int) - 1)])
    (hN : lastM es k = none → R [.int (-1)])
    (hS : ∀ i j, i < es.length → j < (es[i]?.getD dEn).2.length → (∀ t, t < j → ((es[i]?.getD dEn).2[t]?.getD dii).1 ≠ k) → ((es[i]?.getD dEn).2[j]?.getD dii).1 = k → lastM es k = some ((es[i]?.getD dEn).2[j]?.getD dii, (es[i]?.getD dEn).1) → R [.int (i : Nat)]) :
    Rounds B R [.int ((es.length : Int) - 1)] := by
  have : ∀ n, n ≤ es.length → lastM (es.drop n) k = none → Rounds B R [.int ((n : Int) - 1)] := by
    intro n
    induction n with
    | zero => intro _ h; exact .done (hN h)
    | succ n ih =>
      intro hn h
      have e : (((n + 1 : Nat) : Int) - 1) = (n : Int) := by omega
      rw [e]
      have ha := last_at (show n < es.length by omega) k
      rw [h] at ha
      cases hf : (es[n]?.getD dEn).2.find? (fun w => decide (w.1 = k)) with
      | none =>
        rw [hf] at ha
        exact .step _ (hB n (by omega) (find_none hf)) rfl (ih (by omega) ha)
      | some x =>
        rw [hf] at ha
        obtain ⟨j, h1, h2, h3, h4⟩ := find_first hf
        refine .done (hS n j (by omega) h1 h4 (by rw [h2]; exact h3) ?_)
        rw [h2]
        exact last_app_some ha
  exact this es.length (Nat.le_refl _) (by rw [List.drop_length]; rfl)
def cellG (base locs ck sp en : Int) (V W : Int → Int) (i : Int) : Int :=
  if i = 0 then ck else if i = 1 then sp else if i = 3 then en else if i < base ∨ base + 4 * locs ≤ i then 0
  else if (i - base) % 4 = 0 then W ((i - base) / 4) else if (i - base) % 4 = 1 then V ((i - base) / 4) else 0
def cellsG (n : Nat) (base locs ck sp en : Int) (V W : Int → Int) : List Int := (List.range n).map fun i : Nat => cellG base locs ck sp en V W i
theorem cells_len (n : Nat) (base locs ck sp en : Int) (V W : Int → Int) : (cellsG n base locs ck sp en V W).length = n := by simp [cellsG]
theorem cells_ext {n : Nat} {f g : Nat → Int} (h : ∀ i : Nat, i < n → f i = g i) : (List.range n).map f = (List.range n).map g := by
  apply List.map_congr_left
  intro i hi
  exact h i (List.mem_range.1 hi)
theorem set_range {n : Nat} (f : Nat → Int) (j : Nat) (v : Int) : ((List.range n).map f).set j v = (List.range n).map fun i => if i = j then v else f i := by
  apply List.ext_getElem?
  intro i
  rw [List.getElem?_set]
  by_cases hi : i < n
  · by_cases hj : j = i
    · subst hj; simp [hi]
    · have : ¬ (i = j) := by omega
      simp [hi, hj, this]
  · simp [hi]
    intro h
    omega
theorem cells_zero (n : Nat) (base locs : Int) : List.replicate n (0 : Int) = cellsG n base locs 0 0 0 (fun _ => 0) (fun _ => 0) := by
  apply List.ext_getElem?
  intro i
  by_cases hi : i < n
  · simp [cellsG, hi, cellG]
  · simp [cellsG, hi]
def updF (V : Int → Int) (k v : Int) : Int → Int := fun x => if x = k then v else V x
section
variable {n : Nat} {base locs ck sp en : Int} {V W : Int → Int}
theorem set_ck (c : Int) : (cellsG n base locs ck sp en V W).set 0 c = cellsG n base locs c sp en V W := by
  unfold cellsG
  rw [set_range]
  refine cells_ext fun i hi => ?_
  unfold cellG
  by_cases h : i = 0
  · subst h
    rw [if_pos rfl]
    simp
  · have h2 : ¬ (i : Int) = 0 := by omega
    rw [if_neg h]
    simp only [h2, if_false]
theorem set_sp (c : Int) : (cellsG n base locs ck sp en V W).set 1 c = cellsG n base locs ck c en V W := by
  unfold cellsG
  rw [set_range]
  refine cells_ext fun i hi => ?_
  unfold cellG
  by_cases h : i = 1
  · subst h
    rw [if_pos rfl]
    simp
  · have h2 : ¬ (i : Int) = 1 := by omega
    rw [if_neg h]
    simp only [h2, if_false]
theorem set_en (c : Int) : (cellsG n base locs ck sp en V W).set 3 c = cellsG n base locs ck sp c V W := by
  unfold cellsG
  rw [set_range]
  refine cells_ext fun i hi => ?_
  unfold cellG
  by_cases h : i = 3
  · subst h
    rw [if_pos rfl]
    simp
  · have h2 : ¬ (i : Int) = 3 := by omega
    rw [if_neg h]
    simp only [h2, if_false]
theorem set_V {k : Int} (v : Int) (h0 : 0 ≤ k) (h1 : k < locs) (hb : 4 ≤ base) : (cellsG n base locs ck sp en V W).set (base + 4 * k + 1).toNat v = cellsG n base locs ck sp en (updF V k v) W := by
  unfold cellsG
  rw [set_range]
  refine cells_ext fun i hi => ?_
  unfold cellG updF
  by_cases hk : i = (base + 4 * k + 1).toNat
  · have h4 : ((i : Int) - base) % 4 = 1 := by omega
    have hd : ((i : Int) - base) / 4 = k := by omega
    rw [if_pos hk, if_neg (by omega), if_neg (by omega), if_neg (by omega), if_neg (by omega), if_neg (by omega), if_pos h4, if_pos hd]
  · rw [if_neg hk]
    by_cases h2 : (i : Int) = 0
    · rw [if_pos h2, if_pos h2]
    rw [if_neg h2, if_neg h2]
    by_cases h3 : (i : Int) = 1
    · rw [if_pos h3, if_pos h3]
    rw [if_neg h3, if_neg h3]
    by_cases h4 : (i : Int) = 3
    · rw [if_pos h4, if_pos h4]
    rw [if_neg h4, if_neg h4]
    by_cases h5 : (i : Int) < base ∨ base + 4 * locs ≤ i
    · rw [if_pos h5, if_pos h5]
    rw [if_neg h5, if_neg h5]
    by_cases h6 : ((i : Int) - base) % 4 = 0
    · rw [if_pos h6, if_pos h6]
    rw [if_neg h6, if_neg h6]
    by_cases h7 : ((i : Int) - base) % 4 = 1
    · rw [if_pos h7, if_pos h7, if_neg (by omega)]
    rw [if_neg h7, if_neg h7]
theorem set_W {k : Int} (v : Int) (h0 : 0 ≤ k) (h1 : k < locs) (hb : 4 ≤ base) : (cellsG n base locs ck sp en V W).set (base + 4 * k).toNat v = cellsG n base locs ck sp en V (updF W k v) := by
  unfold cellsG
  rw [set_range]
  refine cells_ext fun i hi => ?_
  unfold cellG updF
  by_cases hk : i = (base + 4 * k).toNat
  · have h4 : ((i : Int) - base) % 4 = 0 := by omega
    have hd : ((i : Int) - base) / 4 = k := by omega
    rw [if_pos hk, if_neg (by omega), if_neg (by omega), if_neg (by omega), if_neg (by omega), if_pos h4, if_pos hd]
  · rw [if_neg hk]
    by_cases h2 : (i : Int) = 0
    · rw [if_pos h2, if_pos h2]
    rw [if_neg h2, if_neg h2]
    by_cases h3 : (i : Int) = 1
    · rw [if_pos h3, if_pos h3]
    rw [if_neg h3, if_neg h3]
    by_cases h4 : (i : Int) = 3
    · rw [if_pos h4, if_pos h4]
    rw [if_neg h4, if_neg h4]
    by_cases h5 : (i : Int) < base ∨ base + 4 * locs ≤ i
    · rw [if_pos h5, if_pos h5]
    rw [if_neg h5, if_neg h5]
    by_cases h6 : ((i : Int) - base) % 4 = 0
    · rw [if_pos h6, if_pos h6, if_neg (by omega)]
    rw [if_neg h6, if_neg h6]
theorem cells_congr {V' W' : Int → Int} (hV : ∀ k, 0 ≤ k → k < locs → V k = V' k) (hW : ∀ k, 0 ≤ k → k < locs → W k = W' k) : cellsG n base locs ck sp en V W = cellsG n base locs ck sp en V' W' := by
  refine cells_ext fun i hi => ?_
  unfold cellG
  by_cases h5 : (i : Int) < base ∨ base + 4 * locs ≤ i
  · rw [if_pos h5, if_pos h5]
  · rw [if_neg h5, if_neg h5, hV _ (by omega) (by omega), hW _ (by omega) (by omega)]
end
def freeM (v : Int) : Int := IntKind.i64.wrap (2 * v)
def valM (es : List TEn) (first : List Int) (k : Int) : Int := match lastM es k with | some x => x.1.2 | none => first[k.toNat]?.getD 0
def wordM (es : List TEn) (k : Int) : Int := match lastM es k with | some x => freeM x.2 | none => 0
def clkM (es : List TEn) : Int := (es[es.length - 1]?.getD dEn).1
theorem clk_take {es : List TEn} {i : Nat} (h : i < es.length) : clkM (es.take (i + 1)) = (es[i]?.getD dEn).1 := by
  unfold clkM
  rw [List.length_take, Nat.min_eq_left (by omega), Nat.add_sub_cancel, List.getElem?_take, if_pos (by omega)]
def bootM (n : Nat) (base locs : Int) (first : List Int) (es : List TEn) (en : Int) : List Int := cellsG n base locs (clkM es) 1 en (valM es first) (wordM es)
theorem boot_len (n : Nat) (base locs : Int) (first : List Int) (es : List TEn) (en : Int) : (bootM n base locs first es en).length = n := cells_len ..
theorem place_in {locs base : Int} {n : Nat} {a : Int} (h0 : 0 ≤ base) (h1 : base ≤ 1000) (h2 : (n : Int) < locs) (h3 : locs ≤ 100) (ha : 0 ≤ a) (ha2 : a ≤ 4) : placeM base locs n 4 a = base + 4 * n + a := by
  unfold placeM
  rw [if_neg (by omega)]
  simp only [w64_eq]
  omega
def stageC (n : Nat) (base locs : Int) (first : List Int) (es : List TEn) (en : Int) (j : Nat) : List Int := cellsG n base locs (clkM es) 1 en (fun k => if k < (j : Int) then valM es first k else first[k.toNat]?.getD 0) (fun k => if k < (j : Int) then wordM es k else 0)
def stageR (n : Nat) (base locs : Int) (first : List Int) (es : List TEn) (en : Int) (j : Nat) : List Int := cellsG n base locs (clkM es) 1 en (fun k => if k < (j : Int) then valM es first k else 0) (fun k => if k < (j : Int) then wordM es k else 0)
theorem stageC_len (n : Nat) (base locs : Int) (first : List Int) (es : List TEn) (en : Int) (j : Nat) : (stageC n base locs first es en j).length = n := cells_len ..
theorem stageR_len (n : Nat) (base locs : Int) (first : List Int) (es : List TEn) (en : Int) (j : Nat) : (stageR n base locs first es en j).length = n := cells_len ..
section
variable {n : Nat} {base locs : Int} {first : List Int} {es : List TEn} {en : Int} {j : Nat}
theorem stageC_end : stageC n base locs first es en locs.toNat = bootM n base locs first es en := by
  refine cells_congr (fun k h0 h1 => ?_) (fun k h0 h1 => ?_) <;> exact if_pos (by omega)
theorem stageR_end : stageR n base locs first es en locs.toNat = bootM n base locs first es en := by
  refine cells_congr (fun k h0 h1 => ?_) (fun k h0 h1 => ?_) <;> exact if_pos (by omega)
theorem upd_step {V : Int → Int} {v : Int} {z : Int → Int} (hv : V j = v) (k : Int) : updF (fun k => if k < (j : Int) then V k else z k) j v k = if k < ((j + 1 : Nat) : Int) then V k else z k := by
  show (if k = (j : Int) then v else if k < (j : Int) then V k else z k) = _
  by_cases hk : k = (j : Int)
  · rw [if_pos hk, if_pos (by omega), hk, hv]
  · rw [if_neg hk]
    by_cases h : k < (j : Int)
    · rw [if_pos h, if_pos (by omega)]
    · rw [if_neg h, if_neg (by omega)]
theorem stay_step {V : Int → Int} {z : Int → Int} (hv : V j = z j) (k : Int) : (if k < (j : Int) then V k else z k) = if k < ((j + 1 : Nat) : Int) then V k else z k := by
  by_cases hk : k = (j : Int)
  · subst hk
    rw [if_neg (by omega), if_pos (by omega), hv]
  · by_cases h : k < (j : Int)
    · rw [if_pos h, if_pos (by omega)]
    · rw [if_neg h, if_neg (by omega)]
theorem stageC_none (h : lastM es j = none) : stageC n base locs first es en (j + 1) = stageC n base locs first es en j := by
  refine cells_congr (fun k h0 h1 => ?_) (fun k h0 h1 => ?_)
  · refine (stay_step (V := valM es first) (z := fun k => first[k.toNat]?.getD 0) ?_ k).symm
    simp [valM, h]
  · refine (stay_step (V := wordM es) (z := fun _ => 0) ?_ k).symm
    simp [wordM, h]
theorem stageC_some {x : Tii × Int} (h : lastM es j = some x) (hj : (j : Int) < locs) (hb : 4 ≤ base) : ((stageC n base locs first es en j).set (base + 4 * j + 1).toNat x.1.2).set (base + 4 * j).toNat (freeM x.2) = stageC n base locs first es en (j + 1) := by
  unfold stageC
  rw [set_V _ (by omega) hj hb, set_W _ (by omega) hj hb]
  refine cells_congr (fun k h0 h1 => ?_) (fun k h0 h1 => ?_)
  · exact upd_step (V := valM es first) (z := fun k => first[k.toNat]?.getD 0) (by simp [valM, h]) k
  · exact upd_step (V := wordM es) (z := fun _ => 0) (by simp [wordM, h]) k
theorem stageR_none (h : lastM es j = none) (hf : first.length ≤ j) : stageR n base locs first es en (j + 1) = stageR n base locs first es en j := by
  refine cells_congr (fun k h0 h1 => ?_) (fun k h0 h1 => ?_)
  · refine (stay_step (V := valM es first) (z := fun _ => 0) ?_ k).symm
    have : first[j]? = none := List.getElem?_eq_none hf
    simp [valM, h, this]
  · refine (stay_step (V := wordM es) (z := fun _ => 0) ?_ k).symm
    simp [wordM, h]
theorem stageR_first (h : lastM es j = none) (hj : (j : Int) < locs) (hb : 4 ≤ base) : (stageR n base locs first es en j).set (base + 4 * j + 1).toNat (first[j]?.getD 0) = stageR n base locs first es en (j + 1) := by
  unfold stageR
  rw [set_V _ (by omega) hj hb]
  refine cells_congr (fun k h0 h1 => ?_) (fun k h0 h1 => ?_)
  · exact upd_step (V := valM es first) (z := fun _ => 0) (by simp [valM, h]) k
  · refine (stay_step (V := wordM es) (z := fun _ => 0) ?_ k)
    simp [wordM, h]
theorem stageR_some {x : Tii × Int} (h : lastM es j = some x) (hj : (j : Int) < locs) (hb : 4 ≤ base) : ((stageR n base locs first es en j).set (base + 4 * j + 1).toNat x.1.2).set (base + 4 * j).toNat (freeM x.2) = stageR n base locs first es en (j + 1) := by
  unfold stageR
  rw [set_V _ (by omega) hj hb, set_W _ (by omega) hj hb]
  refine cells_congr (fun k h0 h1 => ?_) (fun k h0 h1 => ?_)
  · exact upd_step (V := valM es first) (z := fun _ => 0) (by simp [valM, h]) k
  · exact upd_step (V := wordM es) (z := fun _ => 0) (by simp [wordM, h]) k
theorem set_twice (l : List Int) (i : Nat) (a b : Int) : (l.set i a).set i b = l.set i b := by simp
end
def initV (first : List Int) (n : Nat) : Int → Int := fun k => if k < (n : Int) then first[k.toNat]?.getD 0 else 0
theorem do_store {m : List Int} {c : Int} (h0 : 0 ≤ c) (h1 : c < m.length) (n : Int) : doM m 2 c 0 n [] = (m.set c.toNat n, (m[c.toNat]?.getD 0, true), 0) := by
  have hr : rightM 2 c 0 n [] = true := by simp [rightM, h0]
  unfold doM
  rw [if_pos hr, if_pos h1]
  simp [nextM]
theorem allM_snoc (m0 : List Int) (a : Tiiiis) : ∀ (l : List Tiiiis) (m : List Int) (told : List Tib) (m1 : List Int) (t1 : List Tib), allM m0 l m told = (m1, t1, 0) → (doM m1 a.1 a.2.1 a.2.2.1 a.2.2.2.1 a.2.2.2.2).2.2 = 0 →
    allM m0 (l ++ [a]) m told = ((doM m1 a.1 a.2.1 a.2.2.1 a.2.2.2.1 a.2.2.2.2).1, t1 ++ [(doM m1 a.1 a.2.1 a.2.2.1 a.2.2.2.1 a.2.2.2.2).2.1], 0)
  | [], m, told, m1, t1, h, h0 => by
    have h : (m, told, (0 : Int)) = (m1, t1, 0) := h
    simp only [Prod.mk.injEq] at h
    obtain ⟨rfl, rfl, _⟩ := h
    show allM m0 [a] m told = _
    unfold allM
    rw [if_pos h0]
    rfl
  | x :: l, m, told, m1, t1, h, h0 => by
    show allM m0 (x :: (l ++ [a])) m told = _
    unfold allM at h ⊢
    by_cases hx : (doM m x.1 x.2.1 x.2.2.1 x.2.2.2.1 x.2.2.2.2).2.2 = 0
    · rw [if_pos hx] at h ⊢
      exact allM_snoc m0 a l _ _ m1 t1 h h0
    · rw [if_neg hx] at h
      simp only [Prod.mk.injEq] at h
      exact absurd h.2.2 hx
theorem inits_all {sz : Nat} {locs base : Int} (first : List Int) (h0 : 4 ≤ base) (h1 : base ≤ 1000) (h3 : locs ≤ 100) (h4 : base + 4 * locs ≤ sz) (h5 : 4 ≤ sz) : ∀ n : Nat, (n : Int) ≤ locs →
    ∃ t, allM (List.replicate sz 0) ((2, 1, 0, 1, []) :: initsM locs base first n) (List.replicate sz 0) [] = (cellsG sz base locs 0 1 0 (initV first n) (fun _ => 0), t, 0)
  | 0, _ => by
    have e := do_store (m := List.replicate sz (0 : Int)) (c := 1) (by omega) (by simp; omega) 1
    refine ⟨[((List.replicate sz (0 : Int))[(1 : Int).toNat]?.getD 0, true)], ?_⟩
    have h : allM (List.replicate sz 0) [(2, 1, 0, 1, [])] (List.replicate sz 0) [] = ((List.replicate sz 0).set 1 1, [((List.replicate sz (0 : Int))[(1 : Int).toNat]?.getD 0, true)], 0) := by
      unfold allM
      rw [e]
      rfl
    refine h.trans ?_
    rw [cells_zero sz base locs, set_sp]
    congr 1
    refine cells_congr (fun k a b => ?_) fun _ _ _ => rfl
    unfold initV
    rw [if_neg (by omega)]
  | n + 1, hn => by
    obtain ⟨t, ht⟩ := inits_all first h0 h1 h3 h4 h5 n (by omega)
    have hp := place_in (n := n) (a := 1) (show 0 ≤ base by omega) h1 (show (n : Int) < locs by omega) h3 (by omega) (by omega)
    have e := do_store (m := cellsG sz base locs 0 1 0 (initV first n) (fun _ => 0)) (c := placeM base locs n 4 1) (by omega) (by rw [cells_len]; omega) (first[n]?.getD 0)
    have := allM_snoc _ (2, placeM base locs n 4 1, 0, first[n]?.getD 0, []) _ _ _ _ _ ht (by simp only [e])
    simp only [e] at this
    refine ⟨t ++ [((cellsG sz base locs 0 1 0 (initV first n) (fun _ => 0))[(placeM base locs n 4 1).toNat]?.getD 0, true)], this.trans ?_⟩
    rw [hp, set_V _ (by omega) (by omega) h0]
    congr 1
    refine cells_congr (fun k a b => ?_) fun _ _ _ => rfl
    exact upd_step (V := fun k => first[k.toNat]?.getD 0) (z := fun _ => 0) (by simp) k
theorem stage_zero {sz : Nat} {base locs en : Int} {first : List Int} {es : List TEn} {n : Nat} (hn : (n : Int) = first.length ∨ (n : Int) = locs) : cellsG sz base locs (clkM es) 1 en (initV first n) (fun _ => 0) = stageC sz base locs first es en 0 := by
  refine cells_congr (fun k h0 h1 => ?_) (fun k h0 h1 => ?_)
  · unfold initV
    rw [if_neg (show ¬ k < ((0 : Nat) : Int) by omega)]
    by_cases hk : k < (n : Int)
    · rw [if_pos hk]
    · rw [if_neg hk, List.getElem?_eq_none (by omega)]
      rfl
  · rw [if_neg (by omega)]
theorem stage_nil {sz : Nat} {base locs en : Int} {first : List Int} {V : Int → Int} (h : cellsG sz base locs (clkM []) 1 en V (fun _ => 0) = stageC sz base locs first [] en 0) : cellsG sz base locs 0 1 en V (fun _ => 0) = bootM sz base locs first [] en := by
  refine (show cellsG sz base locs 0 1 en V (fun _ => 0) = cellsG sz base locs (clkM []) 1 en V (fun _ => 0) from rfl).trans (h.trans ?_)
  refine cells_congr (fun k h0 h1 => ?_) (fun k h0 h1 => ?_)
  · rw [if_neg (by omega)]; rfl
  · rw [if_neg (by omega)]; rfl
end Go.Proofs.YtkfjgggiopegbaaDoor
end
section
namespace Go.Proofs.YtkfjgggiopegbaaDoor
set_option linter.unusedVariables false
set_option linter.unusedSimpArgs false
set_option maxRecDepth 100000
def dBootE (t l k s m a0 a1 a2 a3 a4 a5 a6 a7 : Int) (first : List Int) (sec : List (List UInt8)) (was : List Tis) : List DV := [.list ((bootM a7.toNat a6 l first (recoverM sec).1 (recoverM sec).2).map DV.int), .list ((recoverM sec).1.map encEn)]
def dBootF (ds : List DV) : List DV := dBootE (gi ds 0) (gi ds 1) (gi ds 2) (gi ds 3) (gi ds 4) (gi ds 5) (gi ds 6) (gi ds 7) (gi ds 8) (gi ds 9) (gi ds 10) (gi ds 11) (gi ds 12) (gLi ds 13) (gLs ds 14) (gLis ds 15)
def dBootTree : PT :=
(.asrt (.bin .le (.un .len (.var 14)) (.int 1000))
 (.asrt (.bin .le (.int 0) (.var 12))
  (.asrt (.bin .le (.var 12) (.int 1000000))
   (.asrt (.bin .le (.un .len (.var 13)) (.int 1000000))
    (.asrt (.bin .le (.int 0) (.var 1))
     (.asrt (.bin .le (.var 1) (.int 1000))
      (.asrt (.bin .le (.bin .add (.int 0) (.var 12)) (.un .len (.bin .rep (.var 12) (.int 0))))
       (.asrt (.bin .le (.un .len (.bin .take (.bin .drop (.bin .rep (.var 12) (.int 0)) (.int 0)) (.var 12))) (.int 1000000))
        (.asrt (.bin .le (.un .len (.bin .idx (.fn 27 (.bin .cons (.var 0) (.bin .cons (.var 1) (.bin .cons (.var 2) (.bin .cons (.var 3) (.bin .cons (.var 4) (.bin .cons (.var 5) (.bin .cons (.var 6) (.bin .cons (.var 7) (.bin .cons (.var 8) (.bin .cons (.var 9) (.bin .cons (.var 10) (.bin .cons (.var 11) (.bin .cons (.var 12) (.bin .cons (.var 13) .nil))))))))))))))) (.int 0))) (.int 1000000))
         (.br (.bin .le (.un .len (.bin .idx (.fn 8 (.bin .cons (.bin .take (.bin .drop (.bin .rep (.var 12) (.int 0)) (.int 0)) (.var 12)) (.bin .cons (.bin .idx (.fn 27 (.bin .cons (.var 0) (.bin .cons (.var 1) (.bin .cons (.var 2) (.bin .cons (.var 3) (.bin .cons (.var 4) (.bin .cons (.var 5) (.bin .cons (.var 6) (.bin .cons (.var 7) (.bin .cons (.var 8) (.bin .cons (.var 9) (.bin .cons (.var 10) (.bin .cons (.var 11) (.bin .cons (.var 12) (.bin .cons (.var 13) .nil))))))))))))))) (.int 0)) .nil))) (.int 0))) (.int 0))
          (.both
           .fail
           (.asrt (.bin .le (.int 0) (.var 8))
            .fail))
          (.asrt (.bin .le (.un .len (.bin .idx (.fn 8 (.bin .cons (.bin .take (.bin .drop (.bin .rep (.var 12) (.int 0)) (.int 0)) (.var 12)) (.bin .cons (.bin .idx (.fn 27 (.bin .cons (.var 0) (.bin .cons (.var 1) (.bin .cons (.var 2) (.bin .cons (.var 3) (.bin .cons (.var 4) (.bin .cons (.var 5) (.bin .cons (.var 6) (.bin .cons (.var 7) (.bin .cons (.var 8) (.bin .cons (.var 9) (.bin .cons (.var 10) (.bin .cons (.var 11) (.bin .cons (.var 12) (.bin .cons (.var 13) .nil))))))))))))))) (.int 0)) .nil))) (.int 0))) (.int 4294967296))
           (.asrt (.bin .le (.int 0) (.var 8))
            (.asrt (.un .not (.bin .le (.un .len (.bin .idx (.fn 8 (.bin .cons (.bin .take (.bin .drop (.bin .rep (.var 12) (.int 0)) (.int 0)) (.var 12)) (.bin .cons (.bin .idx (.fn 27 (.bin .cons (.var 0) (.bin .cons (.var 1) (.bin .cons (.var 2) (.bin .cons (.var 3) (.bin .cons (.var 4) (.bin .cons (.var 5) (.bin .cons (.var 6) (.bin .cons (.var 7) (.bin .cons (.var 8) (.bin .cons (.var 9) (.bin .cons (.var 10) (.bin .cons (.var 11) (.bin .cons (.var 12) (.bin .cons (.var 13) .nil))))))))))))))) (.int 0)) .nil))) (.int 0))) (.var 8)))
             (.br (.un .not (.bin .le (.un .len (.bin .idx (.fn 153 (.bin .cons (.var 14) .nil)) (.int 0))) (.int 0)))
              (.asrt (.bin .le (.int 0) (.un (.wrap .i64) (.bin .sub (.un .len (.bin .idx (.fn 153 (.bin .cons (.var 14) .nil)) (.int 0))) (.int 1))))
               (.asrt (.un .not (.bin .le (.un .len (.bin .idx (.fn 153 (.bin .cons (.var 14) .nil)) (.int 0))) (.un (.wrap .i64) (.bin .sub (.un .len (.bin .idx (.fn 153 (.bin .cons (.var 14) .nil)) (.int 0))) (.int 1)))))
                (.asrt (.bin .le (.int 0) (.var 5))
                 (.asrt (.un .not (.bin .le (.un .len (.bin .idx (.fn 8 (.bin .cons (.bin .take (.bin .drop (.bin .rep (.var 12) (.int 0)) (.int 0)) (.var 12)) (.bin .cons (.bin .idx (.fn 27 (.bin .cons (.var 0) (.bin .cons (.var 1) (.bin .cons (.var 2) (.bin .cons (.var 3) (.bin .cons (.var 4) (.bin .cons (.var 5) (.bin .cons (.var 6) (.bin .cons (.var 7) (.bin .cons (.var 8) (.bin .cons (.var 9) (.bin .cons (.var 10) (.bin .cons (.var 11) (.bin .cons (.var 12) (.bin .cons (.var 13) .nil))))))))))))))) (.int 0)) .nil))) (.int 0))) (.var 5)))
                  (.asrt (.un .not (.bin .le (.un .len (.tri .set (.bin .idx (.fn 8 (.bin .cons (.bin .take (.bin .drop (.bin .rep (.var 12) (.int 0)) (.int 0)) (.var 12)) (.bin .cons (.bin .idx (.fn 27 (.bin .cons (.var 0) (.bin .cons (.var 1) (.bin .cons (.var 2) (.bin .cons (.var 3) (.bin .cons (.var 4) (.bin .cons (.var 5) (.bin .cons (.var 6) (.bin .cons (.var 7) (.bin .cons (.var 8) (.bin .cons (.var 9) (.bin .cons (.var 10) (.bin .cons (.var 11) (.bin .cons (.var 12) (.bin .cons (.var 13) .nil))))))))))))))) (.int 0)) .nil))) (.int 0)) (.bin .add (.int 0) (.var 8)) (.bin .idx (.fn 153 (.bin .cons (.var 14) .nil)) (.int 1)))) (.bin .add (.int 0) (.var 5))))
                   (.loop 16 [(.int 0), (.tri .set (.tri .set (.bin .idx (.fn 8 (.bin .cons (.bin .take (.bin .drop (.bin .rep (.var 12) (.int 0)) (.int 0)) (.var 12)) (.bin .cons (.bin .idx (.fn 27 (.bin .cons (.var 0) (.bin .cons (.var 1) (.bin .cons (.var 2) (.bin .cons (.var 3) (.bin .cons (.var 4) (.bin .cons (.var 5) (.bin .cons (.var 6) (.bin .cons (.var 7) (.bin .cons (.var 8) (.bin .cons (.var 9) (.bin .cons (.var 10) (.bin .cons (.var 11) (.bin .cons (.var 12) (.bin .cons (.var 13) .nil))))))))))))))) (.int 0)) .nil))) (.int 0)) (.bin .add (.int 0) (.var 8)) (.bin .idx (.fn 153 (.bin .cons (.var 14) .nil)) (.int 1))) (.bin .add (.int 0) (.var 5)) (.bin .idx (.bin .idx (.bin .idx (.fn 153 (.bin .cons (.var 14) .nil)) (.int 0)) (.bin .add (.int 0) (.un (.wrap .i64) (.bin .sub (.un .len (.bin .idx (.fn 153 (.bin .cons (.var 14) .nil)) (.int 0))) (.int 1))))) (.int 0)))]
                    (.br (.un .not (.bin .le (.var 1) (.var 16)))
                     (.loop 18 [(.un (.wrap .i64) (.bin .sub (.un .len (.bin .idx (.fn 153 (.bin .cons (.var 14) .nil)) (.int 0))) (.int 1)))]
                      (.br (.bin .le (.int 0) (.var 18))
                       (.asrt (.un .not (.bin .le (.un .len (.bin .idx (.fn 153 (.bin .cons (.var 14) .nil)) (.int 0))) (.var 18)))
                        (.loop 19 [(.int 0)]
                         (.br (.un .not (.bin .le (.un .len (.bin .idx (.bin .idx (.bin .idx (.fn 153 (.bin .cons (.var 14) .nil)) (.int 0)) (.bin .add (.int 0) (.var 18))) (.int 1))) (.var 19)))
                          (.asrt (.bin .le (.int 0) (.var 19))
                           (.br (.bin .eq (.bin .idx (.bin .idx (.bin .idx (.bin .idx (.bin .idx (.fn 153 (.bin .cons (.var 14) .nil)) (.int 0)) (.bin .add (.int 0) (.var 18))) (.int 1)) (.var 19)) (.int 0)) (.var 16))
                            .fail
                            (.leaf [(.un (.wrap .i64) (.bin .add (.var 19) (.int 1)))])))
                          .fail)
                         (.br (.un .not (.bin .le (.un .len (.bin .idx (.bin .idx (.bin .idx (.fn 153 (.bin .cons (.var 14) .nil)) (.int 0)) (.bin .add (.int 0) (.var 18))) (.int 1))) (.var 19)))
                          (.asrt (.bin .le (.int 0) (.var 19))
                           .fail)
                          (.leaf [(.un (.wrap .i64) (.bin .sub (.var 18) (.int 1)))]))))
                       .fail)
                      (.br (.bin .le (.int 0) (.var 18))
                       (.asrt (.un .not (.bin .le (.un .len (.bin .idx (.fn 153 (.bin .cons (.var 14) .nil)) (.int 0))) (.var 18)))
                        (.loop 19 [(.int 0)]
                         (.br (.un .not (.bin .le (.un .len (.bin .idx (.bin .idx (.bin .idx (.fn 153 (.bin .cons (.var 14) .nil)) (.int 0)) (.bin .add (.int 0) (.var 18))) (.int 1))) (.var 19)))
                          (.asrt (.bin .le (.int 0) (.var 19))
                           (.br (.bin .eq (.bin .idx (.bin .idx (.bin .idx (.bin .idx (.bin .idx (.fn 153 (.bin .cons (.var 14) .nil)) (.int 0)) (.bin .add (.int 0) (.var 18))) (.int 1)) (.var 19)) (.int 0)) (.var 16))
                            .fail
                            (.leaf [(.un (.wrap .i64) (.bin .add (.var 19) (.int 1)))])))
                          .fail)
                         (.br (.un .not (.bin .le (.un .len (.bin .idx (.bin .idx (.bin .idx (.fn 153 (.bin .cons (.var 14) .nil)) (.int 0)) (.bin .add (.int 0) (.var 18))) (.int 1))) (.var 19)))
                          (.asrt (.bin .le (.int 0) (.var 19))
                           (.br (.bin .eq (.bin .idx (.bin .idx (.bin .idx (.bin .idx (.bin .idx (.fn 153 (.bin .cons (.var 14) .nil)) (.int 0)) (.bin .add (.int 0) (.var 18))) (.int 1)) (.var 19)) (.int 0)) (.var 16))
                            (.br (.un .not (.bin .le (.int 0) (.var 16)))
                             .fail
                             (.asrt (.bin .le (.int 0) (.un (.wrap .i64) (.bin .add (.un (.wrap .i64) (.bin .add (.var 11) (.un (.wrap .i64) (.bin .mul (.int 4) (.var 16))))) (.int 1))))
                              (.asrt (.un .not (.bin .le (.un .len (.bin .idx (.fn 8 (.bin .cons (.bin .take (.bin .drop (.bin .rep (.var 12) (.int 0)) (.int 0)) (.var 12)) (.bin .cons (.bin .idx (.fn 27 (.bin .cons (.var 0) (.bin .cons (.var 1) (.bin .cons (.var 2) (.bin .cons (.var 3) (.bin .cons (.var 4) (.bin .cons (.var 5) (.bin .cons (.var 6) (.bin .cons (.var 7) (.bin .cons (.var 8) (.bin .cons (.var 9) (.bin .cons (.var 10) (.bin .cons (.var 11) (.bin .cons (.var 12) (.bin .cons (.var 13) .nil))))))))))))))) (.int 0)) .nil))) (.int 0))) (.un (.wrap .i64) (.bin .add (.un (.wrap .i64) (.bin .add (.var 11) (.un (.wrap .i64) (.bin .mul (.int 4) (.var 16))))) (.int 1)))))
                               (.asrt (.un .not (.bin .le (.un .len (.var 17)) (.bin .add (.int 0) (.un (.wrap .i64) (.bin .add (.un (.wrap .i64) (.bin .add (.var 11) (.un (.wrap .i64) (.bin .mul (.int 4) (.var 16))))) (.int 1))))))
                                (.asrt (.bin .le (.int 0) (.un (.wrap .i64) (.bin .add (.un (.wrap .i64) (.bin .add (.var 11) (.un (.wrap .i64) (.bin .mul (.int 4) (.var 16))))) (.int 0))))
                                 (.asrt (.un .not (.bin .le (.un .len (.bin .idx (.fn 8 (.bin .cons (.bin .take (.bin .drop (.bin .rep (.var 12) (.int 0)) (.int 0)) (.var 12)) (.bin .cons (.bin .idx (.fn 27 (.bin .cons (.var 0) (.bin .cons (.var 1) (.bin .cons (.var 2) (.bin .cons (.var 3) (.bin .cons (.var 4) (.bin .cons (.var 5) (.bin .cons (.var 6) (.bin .cons (.var 7) (.bin .cons (.var 8) (.bin .cons (.var 9) (.bin .cons (.var 10) (.bin .cons (.var 11) (.bin .cons (.var 12) (.bin .cons (.var 13) .nil))))))))))))))) (.int 0)) .nil))) (.int 0))) (.un (.wrap .i64) (.bin .add (.un (.wrap .i64) (.bin .add (.var 11) (.un (.wrap .i64) (.bin .mul (.int 4) (.var 16))))) (.int 0)))))
                                  (.asrt (.un .not (.bin .le (.un .len (.tri .set (.var 17) (.bin .add (.int 0) (.un (.wrap .i64) (.bin .add (.un (.wrap .i64) (.bin .add (.var 11) (.un (.wrap .i64) (.bin .mul (.int 4) (.var 16))))) (.int 1)))) (.bin .idx (.bin .idx (.bin .idx (.bin .idx (.bin .idx (.fn 153 (.bin .cons (.var 14) .nil)) (.int 0)) (.bin .add (.int 0) (.var 18))) (.int 1)) (.var 19)) (.int 1)))) (.bin .add (.int 0) (.un (.wrap .i64) (.bin .add (.un (.wrap .i64) (.bin .add (.var 11) (.un (.wrap .i64) (.bin .mul (.int 4) (.var 16))))) (.int 0))))))
                                   (.leaf [(.un (.wrap .i64) (.bin .add (.var 16) (.int 1))), (.tri .set (.tri .set (.var 17) (.bin .add (.int 0) (.un (.wrap .i64) (.bin .add (.un (.wrap .i64) (.bin .add (.var 11) (.un (.wrap .i64) (.bin .mul (.int 4) (.var 16))))) (.int 1)))) (.bin .idx (.bin .idx (.bin .idx (.bin .idx (.bin .idx (.fn 153 (.bin .cons (.var 14) .nil)) (.int 0)) (.bin .add (.int 0) (.var 18))) (.int 1)) (.var 19)) (.int 1))) (.bin .add (.int 0) (.un (.wrap .i64) (.bin .add (.un (.wrap .i64) (.bin .add (.var 11) (.un (.wrap .i64) (.bin .mul (.int 4) (.var 16))))) (.int 0)))) (.bin (.shl .i64) (.bin .idx (.bin .idx (.bin .idx (.fn 153 (.bin .cons (.var 14) .nil)) (.int 0)) (.bin .add (.int 0) (.var 18))) (.int 0)) (.int 1)))]))))))))
                            .fail))
                          .fail)))
                       (.leaf [(.un (.wrap .i64) (.bin .add (.var 16) (.int 1))), (.var 17)])))
                     .fail)
                    (.br (.un .not (.bin .le (.var 1) (.var 16)))
                     (.loop 18 [(.un (.wrap .i64) (.bin .sub (.un .len (.bin .idx (.fn 153 (.bin .cons (.var 14) .nil)) (.int 0))) (.int 1)))]
                      (.br (.bin .le (.int 0) (.var 18))
                       (.asrt (.un .not (.bin .le (.un .len (.bin .idx (.fn 153 (.bin .cons (.var 14) .nil)) (.int 0))) (.var 18)))
                        (.loop 19 [(.int 0)]
                         (.br (.un .not (.bin .le (.un .len (.bin .idx (.bin .idx (.bin .idx (.fn 153 (.bin .cons (.var 14) .nil)) (.int 0)) (.bin .add (.int 0) (.var 18))) (.int 1))) (.var 19)))
                          (.asrt (.bin .le (.int 0) (.var 19))
                           (.br (.bin .eq (.bin .idx (.bin .idx (.bin .idx (.bin .idx (.bin .idx (.fn 153 (.bin .cons (.var 14) .nil)) (.int 0)) (.bin .add (.int 0) (.var 18))) (.int 1)) (.var 19)) (.int 0)) (.var 16))
                            .fail
                            (.leaf [(.un (.wrap .i64) (.bin .add (.var 19) (.int 1)))])))
                          .fail)
                         (.br (.un .not (.bin .le (.un .len (.bin .idx (.bin .idx (.bin .idx (.fn 153 (.bin .cons (.var 14) .nil)) (.int 0)) (.bin .add (.int 0) (.var 18))) (.int 1))) (.var 19)))
                          (.asrt (.bin .le (.int 0) (.var 19))
                           .fail)
                          (.leaf [(.un (.wrap .i64) (.bin .sub (.var 18) (.int 1)))]))))
                       .fail)
                      (.br (.bin .le (.int 0) (.var 18))
                       (.asrt (.un .not (.bin .le (.un .len (.bin .idx (.fn 153 (.bin .cons (.var 14) .nil)) (.int 0))) (.var 18)))
                        (.loop 19 [(.int 0)]
                         (.br (.un .not (.bin .le (.un .len (.bin .idx (.bin .idx (.bin .idx (.fn 153 (.bin .cons (.var 14) .nil)) (.int 0)) (.bin .add (.int 0) (.var 18))) (.int 1))) (.var 19)))
                          (.asrt (.bin .le (.int 0) (.var 19))
                           (.br (.bin .eq (.bin .idx (.bin .idx (.bin .idx (.bin .idx (.bin .idx (.fn 153 (.bin .cons (.var 14) .nil)) (.int 0)) (.bin .add (.int 0) (.var 18))) (.int 1)) (.var 19)) (.int 0)) (.var 16))
                            .fail
                            (.leaf [(.un (.wrap .i64) (.bin .add (.var 19) (.int 1)))])))
                          .fail)
                         (.br (.un .not (.bin .le (.un .len (.bin .idx (.bin .idx (.bin .idx (.fn 153 (.bin .cons (.var 14) .nil)) (.int 0)) (.bin .add (.int 0) (.var 18))) (.int 1))) (.var 19)))
                          (.asrt (.bin .le (.int 0) (.var 19))
                           (.br (.bin .eq (.bin .idx (.bin .idx (.bin .idx (.bin .idx (.bin .idx (.fn 153 (.bin .cons (.var 14) .nil)) (.int 0)) (.bin .add (.int 0) (.var 18))) (.int 1)) (.var 19)) (.int 0)) (.var 16))
                            (.br (.un .not (.bin .le (.int 0) (.var 16)))
                             .fail
                             (.asrt (.bin .le (.int 0) (.un (.wrap .i64) (.bin .add (.un (.wrap .i64) (.bin .add (.var 11) (.un (.wrap .i64) (.bin .mul (.int 4) (.var 16))))) (.int 1))))
                              (.asrt (.un .not (.bin .le (.un .len (.bin .idx (.fn 8 (.bin .cons (.bin .take (.bin .drop (.bin .rep (.var 12) (.int 0)) (.int 0)) (.var 12)) (.bin .cons (.bin .idx (.fn 27 (.bin .cons (.var 0) (.bin .cons (.var 1) (.bin .cons (.var 2) (.bin .cons (.var 3) (.bin .cons (.var 4) (.bin .cons (.var 5) (.bin .cons (.var 6) (.bin .cons (.var 7) (.bin .cons (.var 8) (.bin .cons (.var 9) (.bin .cons (.var 10) (.bin .cons (.var 11) (.bin .cons (.var 12) (.bin .cons (.var 13) .nil))))))))))))))) (.int 0)) .nil))) (.int 0))) (.un (.wrap .i64) (.bin .add (.un (.wrap .i64) (.bin .add (.var 11) (.un (.wrap .i64) (.bin .mul (.int 4) (.var 16))))) (.int 1)))))
                               (.asrt (.un .not (.bin .le (.un .len (.var 17)) (.bin .add (.int 0) (.un (.wrap .i64) (.bin .add (.un (.wrap .i64) (.bin .add (.var 11) (.un (.wrap .i64) (.bin .mul (.int 4) (.var 16))))) (.int 1))))))
                                (.asrt (.bin .le (.int 0) (.un (.wrap .i64) (.bin .add (.un (.wrap .i64) (.bin .add (.var 11) (.un (.wrap .i64) (.bin .mul (.int 4) (.var 16))))) (.int 0))))
                                 (.asrt (.un .not (.bin .le (.un .len (.bin .idx (.fn 8 (.bin .cons (.bin .take (.bin .drop (.bin .rep (.var 12) (.int 0)) (.int 0)) (.var 12)) (.bin .cons (.bin .idx (.fn 27 (.bin .cons (.var 0) (.bin .cons (.var 1) (.bin .cons (.var 2) (.bin .cons (.var 3) (.bin .cons (.var 4) (.bin .cons (.var 5) (.bin .cons (.var 6) (.bin .cons (.var 7) (.bin .cons (.var 8) (.bin .cons (.var 9) (.bin .cons (.var 10) (.bin .cons (.var 11) (.bin .cons (.var 12) (.bin .cons (.var 13) .nil))))))))))))))) (.int 0)) .nil))) (.int 0))) (.un (.wrap .i64) (.bin .add (.un (.wrap .i64) (.bin .add (.var 11) (.un (.wrap .i64) (.bin .mul (.int 4) (.var 16))))) (.int 0)))))
                                  (.asrt (.un .not (.bin .le (.un .len (.tri .set (.var 17) (.bin .add (.int 0) (.un (.wrap .i64) (.bin .add (.un (.wrap .i64) (.bin .add (.var 11) (.un (.wrap .i64) (.bin .mul (.int 4) (.var 16))))) (.int 1)))) (.bin .idx (.bin .idx (.bin .idx (.bin .idx (.bin .idx (.fn 153 (.bin .cons (.var 14) .nil)) (.int 0)) (.bin .add (.int 0) (.var 18))) (.int 1)) (.var 19)) (.int 1)))) (.bin .add (.int 0) (.un (.wrap .i64) (.bin .add (.un (.wrap .i64) (.bin .add (.var 11) (.un (.wrap .i64) (.bin .mul (.int 4) (.var 16))))) (.int 0))))))
                                   .fail)))))))
                            .fail))
                          .fail)))
                       .fail))
                     (.asrt (.bin .le (.bin .add (.int 0) (.un .len (.bin .idx (.fn 8 (.bin .cons (.bin .take (.bin .drop (.bin .rep (.var 12) (.int 0)) (.int 0)) (.var 12)) (.bin .cons (.bin .idx (.fn 27 (.bin .cons (.var 0) (.bin .cons (.var 1) (.bin .cons (.var 2) (.bin .cons (.var 3) (.bin .cons (.var 4) (.bin .cons (.var 5) (.bin .cons (.var 6) (.bin .cons (.var 7) (.bin .cons (.var 8) (.bin .cons (.var 9) (.bin .cons (.var 10) (.bin .cons (.var 11) (.bin .cons (.var 12) (.bin .cons (.var 13) .nil))))))))))))))) (.int 0)) .nil))) (.int 0)))) (.un .len (.var 17)))
                      (.leaf [(.bin .take (.bin .drop (.var 17) (.int 0)) (.un .len (.bin .idx (.fn 8 (.bin .cons (.bin .take (.bin .drop (.bin .rep (.var 12) (.int 0)) (.int 0)) (.var 12)) (.bin .cons (.bin .idx (.fn 27 (.bin .cons (.var 0) (.bin .cons (.var 1) (.bin .cons (.var 2) (.bin .cons (.var 3) (.bin .cons (.var 4) (.bin .cons (.var 5) (.bin .cons (.var 6) (.bin .cons (.var 7) (.bin .cons (.var 8) (.bin .cons (.var 9) (.bin .cons (.var 10) (.bin .cons (.var 11) (.bin .cons (.var 12) (.bin .cons (.var 13) .nil))))))))))))))) (.int 0)) .nil))) (.int 0)))), (.bin .idx (.fn 153 (.bin .cons (.var 14) .nil)) (.int 0))])))))))))
              (.loop 16 [(.int 0)]
               (.br (.un .not (.bin .le (.var 1) (.var 16)))
                (.loop 17 []
                 .fail
                 (.leaf [(.un (.wrap .i64) (.bin .add (.var 16) (.int 1)))]))
                .fail)
               (.br (.un .not (.bin .le (.var 1) (.var 16)))
                (.loop 17 []
                 .fail
                 .fail)
                (.leaf [(.tri .set (.bin .idx (.fn 8 (.bin .cons (.bin .take (.bin .drop (.bin .rep (.var 12) (.int 0)) (.int 0)) (.var 12)) (.bin .cons (.bin .idx (.fn 27 (.bin .cons (.var 0) (.bin .cons (.var 1) (.bin .cons (.var 2) (.bin .cons (.var 3) (.bin .cons (.var 4) (.bin .cons (.var 5) (.bin .cons (.var 6) (.bin .cons (.var 7) (.bin .cons (.var 8) (.bin .cons (.var 9) (.bin .cons (.var 10) (.bin .cons (.var 11) (.bin .cons (.var 12) (.bin .cons (.var 13) .nil))))))))))))))) (.int 0)) .nil))) (.int 0)) (.bin .add (.int 0) (.var 8)) (.bin .idx (.fn 153 (.bin .cons (.var 14) .nil)) (.int 1))), (.bin .idx (.fn 153 (.bin .cons (.var 14) .nil)) (.int 0))])))))))))))))))))
def dBootSm : List (Nat × Smy) := [(12, ⟨153, [.one (.rows false [.str])], [.one (.nst [.pl (.int .i64), .sub [.int .i64, .int .i64]]), .one (.pl (.int .i64))], lenC [(0, 1000)], none⟩), (52, ⟨8, [.agg [.rows false [.int .i64]], .one (.rows false [.int .i64, .int .i64, .int .i64, .int .i64, .str])], [.agg [.rows false [.int .i64]], .one (.rows true [.int .i64, .bool]), .one (.pl (.int .i64))], lenC [(0, 1000000), (1, 1000000)], none⟩), (53, ⟨27, [.agg [.pl (.int .i64), .pl (.int .i64), .pl (.int .i64), .pl (.int .i64), .pl (.int .i64), .pl (.int .i64), .pl (.int .i64), .pl (.int .i64), .pl (.int .i64), .pl (.int .i64), .pl (.int .i64), .pl (.int .i64), .pl (.int .i64)], .one (.rows false [.int .i64])], [.one (.rows true [.int .i64, .int .i64, .int .i64, .int .i64, .str])], fun es => lenC [(13, 1000000)] es ++ rgeC [(1, 0, 1000)] es, none⟩)]
def dBootLa : List (LK × LA) := [(⟨91, 9, 41, 16, 14⟩, ⟨[(15, .any), (16, .any), (17, .any), (18, .any), (62, (.int .i64 (.var 16))), (63, .any), (64, .any), (65, .any), (66, .any), (67, .any), (68, .any), (69, .any), (70, .any), (71, .any), (72, .any), (73, .any), (74, .any), (75, .any), (76, .any), (77, .any), (78, .any), (79, .any), (80, .any), (81, .any), (82, .any), (83, .any), (84, .any), (85, .any), (86, .any), (87, .any)], [], [], 1, 0⟩),
  (⟨19, 1, 48, 17, 15⟩, ⟨[(7, .any), (8, .any), (11, .any), (12, .any), (13, .any), (14, .any), (15, .any), (16, .any), (17, .any), (18, .any), (9, .any), (10, .any)], [], [], 0, 0⟩),
  (⟨91, 9, 52, 16, 19⟩, ⟨[(15, .any), (16, .any), (17, .any), (18, .any), (62, (.int .i64 (.var 16))), (63, .any), (64, .any), (65, .any), (66, .any), (67, .any), (68, .any), (69, .any), (70, .any), (71, .any), (72, .any), (73, .any), (74, .any), (75, .any), (76, .any), (77, .any), (78, .any), (79, .any), (80, .any), (81, .any), (82, .any), (83, .any), (84, .any), (85, .any), (86, .any), (87, .any)], [(40, (.rows [.int .i64] (.var 17)))], [], 2, 0⟩),
  (⟨19, 1, 59, 18, 20⟩, ⟨[(3, (.int .i64 (.var 18))), (7, .any), (8, .any), (9, .any), (10, .any), (11, .any), (12, .any), (13, .any), (14, .any), (15, .any), (16, .any), (17, .any), (18, .any)], [], [], 1, 0⟩),
  (⟨19, 2, 60, 19, 22⟩, ⟨[(5, .any), (8, (.int .i64 (.var 19))), (9, .any), (10, .any), (11, .any), (12, .any), (13, .any), (14, .any), (15, .any), (16, .any), (17, .any), (18, .any)], [], [], 1, 0⟩)]
def dBootPhi : Fs := ⟨fun n d => match n with
  | 153 => .list (wRecoverF d.l)
  | 8 => .list (memAllF d.l)
  | 27 => .list (layInitF d.l)
  | _ => d, 147⟩
theorem dBootS : SmyOk true Tryd.prog dBootPhi dBootSm := (smy_cons (lenP [(0, 1000)]) wRecoverF wRecover_pure (len_hp [(0, 1000)]) (fun _ => rfl) (fun _ h => by cases h) (smy_cons (lenP [(0, 1000000), (1, 1000000)]) memAllF memAll_pure (len_hp [(0, 1000000), (1, 1000000)]) (fun _ => rfl) (fun _ h => by cases h) (smy_cons (fun ds => lenP [(13, 1000000)] ds ∧ rgeP [(1, 0, 1000)] ds) layInitF layInit_pure (both_hp [(13, 1000000)] [(1, 0, 1000)]) (fun _ => rfl) (fun _ h => by cases h) smy_nil)))
theorem dBootT : treeOk ⟨Tryd.prog, dBootSm, dBootLa, true⟩ 4000 23 [.agg [.pl (.int .i64), .pl (.int .i64), .pl (.int .i64), .pl (.int .i64), .pl (.int .i64), .pl (.int .i64), .pl (.int .i64), .pl (.int .i64), .pl (.int .i64), .pl (.int .i64), .pl (.int .i64), .pl (.int .i64), .pl (.int .i64)], .one (.rows false [.int .i64]), .agg [.rows false [.str], .rows false [.int .i64, .str]]] [.agg [.rows false [.int .i64]], .one (.nst [.pl (.int .i64), .sub [.int .i64, .int .i64]])] ([]) dBootTree = true := by decide +kernel
set_option maxHeartbeats 1000000 in
theorem dBoot_pure : PureE true Tryd.prog 23 [.agg [.pl (.int .i64), .pl (.int .i64), .pl (.int .i64), .pl (.int .i64), .pl (.int .i64), .pl (.int .i64), .pl (.int .i64), .pl (.int .i64), .pl (.int .i64), .pl (.int .i64), .pl (.int .i64), .pl (.int .i64), .pl (.int .i64)], .one (.rows false [.int .i64]), .agg [.rows false [.str], .rows false [.int .i64, .str]]] [.agg [.rows false [.int .i64]], .one (.nst [.pl (.int .i64), .sub [.int .i64, .int .i64]])] (fun ds => (fun ds => lenP [(13, 1000000), (14, 1000), (15, 1000000)] ds ∧ rgeP [(1, 0, 32), (5, 0, 0), (6, 1, 1), (8, 3, 3), (11, 4, 60), (12, 4, 300)] ds) ds ∧ lyP ds) dBootF := by
  refine pure_tree (X := ⟨Tryd.prog, dBootSm, dBootLa, true⟩) (by decide +kernel) (Checked.mixed Tryd.checked) dBootS (by decide +kernel) (by decide +kernel) dBootT (by decide +kernel) ?_
  intro ds hl hp
  obtain ⟨d0, d1, d2, d3, d4, d5, d6, d7, d8, d9, d10, d11, d12, d13, d14, d15, rfl⟩ := len16 hl
  have hy : d11.i + 4 * d1.i ≤ d12.i := hp.2
  have b13 : (d13.l.length : Int) ≤ 1000000 := hp.1.1 (13, 1000000) (by simp)
  have b14 : (d14.l.length : Int) ≤ 1000 := hp.1.1 (14, 1000) (by simp)
  have b15 : (d15.l.length : Int) ≤ 1000000 := hp.1.1 (15, 1000000) (by simp)
  have r1 : 0 ≤ d1.i ∧ d1.i ≤ 32 := hp.1.2 (1, 0, 32) (by simp)
  have r5 : 0 ≤ d5.i ∧ d5.i ≤ 0 := hp.1.2 (5, 0, 0) (by simp)
  have r6 : 1 ≤ d6.i ∧ d6.i ≤ 1 := hp.1.2 (6, 1, 1) (by simp)
  have r8 : 3 ≤ d8.i ∧ d8.i ≤ 3 := hp.1.2 (8, 3, 3) (by simp)
  have r11 : 4 ≤ d11.i ∧ d11.i ≤ 60 := hp.1.2 (11, 4, 60) (by simp)
  have r12 : 4 ≤ d12.i ∧ d12.i ≤ 300 := hp.1.2 (12, 4, 300) (by simp)
  have hF : dBootF [d0, d1, d2, d3, d4, d5, d6, d7, d8, d9, d10, d11, d12, d13, d14, d15] = dBootE d0.i d1.i d2.i d3.i d4.i d5.i d6.i d7.i d8.i d9.i d10.i d11.i d12.i (d13.l.map DV.i) (d14.l.map DV.s) (d15.l.map decis) := rfl
  rw [hF]
  clear hF hp hl
  have hN : nrmL (clsOf [.agg [.pl (.int .i64), .pl (.int .i64), .pl (.int .i64), .pl (.int .i64), .pl (.int .i64), .pl (.int .i64), .pl (.int .i64), .pl (.int .i64), .pl (.int .i64), .pl (.int .i64), .pl (.int .i64), .pl (.int .i64), .pl (.int .i64)], .one (.rows false [.int .i64]), .agg [.rows false [.str], .rows false [.int .i64, .str]]]) [d0, d1, d2, d3, d4, d5, d6, d7, d8, d9, d10, d11, d12, d13, d14, d15] = [.int d0.i, .int d1.i, .int d2.i, .int d3.i, .int d4.i, .int d5.i, .int d6.i, .int d7.i, .int d8.i, .int d9.i, .int d10.i, .int d11.i, .int d12.i, .list ((d13.l.map DV.i).map DV.int), .list ((d14.l.map DV.s).map DV.str), .list ((d15.l.map decis).map encis)] := by
    simp only [clsOf, Sh.cls, List.append_nil, List.cons_append, List.nil_append, nrmL, Cl.nrm, CK.nrm, map_Li, map_Lis, map_Ls]
  rw [hN]
  clear hN
  generalize d0.i = x0
  generalize d1.i = x1 at r1 hy ⊢
  generalize d2.i = x2
  generalize d3.i = x3
  generalize d4.i = x4
  generalize d5.i = x5 at r5 ⊢
  generalize d6.i = x6 at r6 ⊢
  generalize d7.i = x7
  generalize d8.i = x8 at r8 ⊢
  generalize d9.i = x9
  generalize d10.i = x10
  generalize d11.i = x11 at r11 hy ⊢
  generalize d12.i = x12 at r12 hy ⊢
  rw [← List.length_map (f := DV.i)] at b13
  generalize d13.l.map DV.i = x13 at b13 ⊢
  rw [← List.length_map (f := DV.s)] at b14
  generalize d14.l.map DV.s = x14 at b14 ⊢
  rw [← List.length_map (f := decis)] at b15
  generalize d15.l.map decis = x15 at b15 ⊢
  refine ⟨facts_nil _, ?_⟩
  unfold dBootTree dBootE
  obtain rfl : x5 = 0 := by omega
  obtain rfl : x6 = 1 := by omega
  obtain rfl : x8 = 3 := by omega
  obtain ⟨N, rfl⟩ : ∃ N : Nat, x12 = N := ⟨x12.toNat, by omega⟩
  obtain ⟨L, rfl⟩ : ∃ L : Nat, x1 = L := ⟨x1.toNat, by omega⟩
  obtain ⟨m1, m2, m3⟩ := manyI_le (L : Int) x13 r1.1
  obtain ⟨t, ht⟩ := inits_all (sz := N) x13 r11.1 (by omega) (by omega) hy (by omega) (manyI L x13) m2
  have hz : List.map DV.i (List.take N (List.drop 0 (List.replicate N (DV.int 0)))) = List.replicate N 0 := by
    rw [List.drop_zero, List.take_of_length_le (by simp), List.map_replicate]; rfl
  have hrl := recover_len x14
  have hrw := recover_w x14
  simp only [Sat, clsOf, Sh.cls, List.append_nil, List.cons_append, List.nil_append, nrmL, Cl.nrm, List.map_cons, List.map_nil, List.length_cons, List.length_nil, List.cons.injEq, DV.list.injEq, and_true, true_and]
  try simp only [q_le, q_eq, q_not, iff_true, iff_false, Bool.not_true, Bool.not_false, Bool.false_eq_true, eq_self]
  simp only [SE.den, evU, evT, ev_add, ev_sub, ev_mul, ev_shl, ev_idx, ev_cons, ev_take, ev_drop, ev_rep, i_int, l_list, envL, List.getElem?_cons_succ, List.getElem?_cons_zero, Option.getD_some, Int.toNat_natCast, Int.toNat_zero, Int.reduceToNat, List.length_map, set_Li, inj_Li, rows_i, Int.zero_add, and_true, eq_self, List.length_replicate, f_En_0, rows_En, f_En_1, rows_En, dBootPhi, wRecoverF, wRecoverE, memAllF, memAllE, layInitF, layInitE, gi, gLi, gLs, dece_i, dece_s, gLiiiis, deces_iiiis, hz, ht, cells_len]
  generalize recoverM x14 = rc at *
  obtain ⟨es, en⟩ := rc
  dsimp only at hrl hrw ⊢
  have hz2 := stage_zero (sz := N) (base := x11) (locs := L) (en := en) (first := x13) (es := es) (n := manyI L x13) m3
  have hsh : ∀ v : Int, IntKind.i64.wrap (v * 2 ^ min 1 IntKind.i64.bits) = freeM v := fun v => by
    unfold freeM
    rw [show v * 2 ^ min 1 IntKind.i64.bits = 2 * v by rw [Int.mul_comm]; rfl]
  have hV : ∀ j : Nat, j < L → IntKind.i64.wrap (IntKind.i64.wrap (x11 + IntKind.i64.wrap (4 * (j : Int))) + 1) = x11 + 4 * j + 1 := fun j hj => by simp only [w64_eq]; omega
  have hW : ∀ j : Nat, j < L → IntKind.i64.wrap (IntKind.i64.wrap (x11 + IntKind.i64.wrap (4 * (j : Int))) + 0) = x11 + 4 * j := fun j hj => by simp only [w64_eq]; omega
  refine ⟨b14, by omega, by omega, b13, r1.1, by omega, Int.le_refl _, by simp; omega, by rw [List.length_cons, initsM_len]; omega, fun h => absurd h (by omega), fun _ => ⟨by omega, by omega, by omega, fun hne => ?_, fun he => ?_⟩⟩
  · have hwl : IntKind.i64.wrap ((es.length : Int) - 1) = es.length - 1 := w64 (by omega) (by omega)
    have hck : (es[es.length - 1]?.getD dEn).1 = clkM es := rfl
    have htn : ((es.length : Int) - 1).toNat = es.length - 1 := by omega
    simp only [hwl, htn, set_en, List.length_set, cells_len]
    refine ⟨by omega, by omega, by omega, by omega, by omega, ?_⟩
    refine rounds_at L (fun j => [.int j, .list ((stageC N x11 L x13 es en j).map DV.int)]) ?_ (fun _ => rfl) (fun j hj => ?_) ?_
    · rw [raw_En_0, hck, set_Li, set_ck, hz2]
      rfl
    · have hwj : IntKind.i64.wrap ((j : Int) + 1) = ((j + 1 : Nat) : Int) := by rw [w64 (by omega) (by omega)]; omega
      simp only [i_int, l_list, List.getElem?_cons_succ, List.getElem?_cons_zero, Option.getD_some, List.length_map, inj_Li, and_true, eq_self, DV.int.injEq, DV.list.injEq, List.cons.injEq, List.cons_append, List.nil_append]
      refine ⟨fun _ => ⟨rfl, ?_⟩, fun h => absurd h (by omega)⟩
      refine last_loop es j (fun i hi hno => ?_) (fun hn => ?_) (fun i q hi hq hno hk hlast => ?_)
      · have hwi : IntKind.i64.wrap ((i : Int) - 1) = i - 1 := w64 (by omega) (by omega)
        simp only [i_int, List.getElem?_cons_succ, List.getElem?_cons_zero, Option.getD_some, Int.toNat_natCast, eq_self, List.cons_append, List.nil_append, f_ii_0, hwi]
        refine ⟨fun _ => ⟨by omega, rfl, ?_⟩, fun h => absurd (by omega) h⟩
        have := hrw i
        refine scan_loop (Nat.le_refl _) hno (fun t ht hne => ?_) ?_
        · simp only [i_int, List.getElem?_cons_zero, Option.getD_some, Int.toNat_natCast, and_true, eq_self, DV.int.injEq, List.cons.injEq, w64 (n := (t : Int) + 1) (by omega) (by omega)]
          exact ⟨fun _ => ⟨by omega, hne, fun _ => by omega⟩, fun h => absurd h (by omega)⟩
        · simp only [i_int, List.getElem?_cons_zero, Option.getD_some]
          exact ⟨fun h => absurd (Int.le_refl _) h, fun _ => trivial⟩
      · simp only [i_int, List.getElem?_cons_succ, List.getElem?_cons_zero, Option.getD_some, Int.reduceToNat, true_and, eq_self, List.cons_append, List.nil_append, hwj]
        exact ⟨fun h => absurd h (by omega), fun _ => (stageC_none hn).symm⟩
      · have hwi : IntKind.i64.wrap ((i : Int) - 1) = i - 1 := w64 (by omega) (by omega)
        simp only [i_int, List.getElem?_cons_succ, List.getElem?_cons_zero, Option.getD_some, Int.toNat_natCast, set_Li, inj_Li, true_and, eq_self, List.cons_append, List.nil_append, f_ii_0, raw_ii_1, hV j hj, hW j hj, hsh, hwj]
        refine ⟨fun _ => ⟨by omega, rfl, ?_⟩, fun h => absurd (by omega) h⟩
        have := hrw i
        refine scan_loop (j := q) (by omega) hno (fun t ht hne => ?_) ?_
        · simp only [i_int, List.getElem?_cons_zero, Option.getD_some, Int.toNat_natCast, and_true, eq_self, DV.int.injEq, List.cons.injEq, w64 (n := (t : Int) + 1) (by omega) (by omega)]
          exact ⟨fun _ => ⟨by omega, hne, fun _ => by omega⟩, fun h => absurd h (by omega)⟩
        · simp only [i_int, List.getElem?_cons_zero, Option.getD_some, Int.toNat_natCast, stageC_len]
          exact ⟨fun _ => ⟨by omega, fun _ => ⟨fun h => absurd (by omega) h, fun _ => ⟨by omega, by omega, by omega, by omega, by omega, by omega, stageC_some hlast (by omega) (by omega)⟩⟩, fun h => h hk⟩, fun h => absurd h (by omega)⟩
    · simp only [i_int, l_list, List.getElem?_cons_succ, List.getElem?_cons_zero, Option.getD_some, List.length_map, List.cons_append, List.nil_append, stageC_len]
      refine ⟨fun h => absurd (Int.le_refl _) h, fun _ => ⟨Int.le_refl _, ?_⟩⟩
      rw [List.drop_zero, List.take_of_length_le (by rw [List.length_map, stageC_len]; exact Nat.le_refl _), rows_i, ← stageC_end]
      rfl
  · have h0 : es = [] := List.eq_nil_of_length_eq_zero (by omega)
    subst h0
    refine rounds_at L (fun j => [.int j]) rfl (fun _ => rfl) (fun j hj => ?_) ?_
    · have hwj : IntKind.i64.wrap ((j : Int) + 1) = ((j + 1 : Nat) : Int) := by rw [w64 (by omega) (by omega)]; omega
      simp only [i_int, List.getElem?_cons_zero, Option.getD_some, eq_self, List.cons_append, List.nil_append, hwj]
      exact ⟨fun _ => ⟨rfl, .done trivial⟩, fun h => absurd h (by omega)⟩
    · simp only [i_int, List.getElem?_cons_zero, Option.getD_some]
      refine ⟨fun h => absurd (Int.le_refl _) h, fun _ => ?_⟩
      rw [set_en]
      exact stage_nil hz2
end Go.Proofs.YtkfjgggiopegbaaDoor
end
section
namespace Go.Proofs.YtkfjgggiopegbaaDoor
set_option linter.unusedVariables false
set_option linter.unusedSimpArgs false
set_option maxRecDepth 100000
def r3SameE (a b : List Int) : List DV := [.bool (decide (a = b))]
def r3SameF (ds : List DV) : List DV := r3SameE (gLi ds 0) (gLi ds 1)
def r3SameTree : PT :=
(.br (.un .not (.bin .eq (.un .len (.var 0)) (.un .len (.var 1))))
 (.leaf [(.bool false)])
 (.loop 2 [(.int 0)]
  (.br (.un .not (.bin .le (.un .len (.var 0)) (.var 2)))
   (.asrt (.bin .le (.int 0) (.var 2))
    (.asrt (.un .not (.bin .le (.un .len (.var 1)) (.var 2)))
     (.br (.un .not (.bin .eq (.bin .idx (.var 0) (.bin .add (.int 0) (.var 2))) (.bin .idx (.var 1) (.bin .add (.int 0) (.var 2)))))
      .fail
      (.leaf [(.un (.wrap .i64) (.bin .add (.var 2) (.int 1)))]))))
   .fail)
  (.br (.un .not (.bin .le (.un .len (.var 0)) (.var 2)))
   (.asrt (.bin .le (.int 0) (.var 2))
    (.asrt (.un .not (.bin .le (.un .len (.var 1)) (.var 2)))
     (.br (.un .not (.bin .eq (.bin .idx (.var 0) (.bin .add (.int 0) (.var 2))) (.bin .idx (.var 1) (.bin .add (.int 0) (.var 2)))))
      (.leaf [(.bool false)])
      .fail)))
   (.leaf [(.bool true)]))))
def r3SameSm : List (Nat × Smy) := []
def r3SameLa : List (LK × LA) := [(⟨26, 4, 2, 2, 1⟩, ⟨[(5, (.int .i64 (.var 2))), (11, .any), (12, .any), (13, .any), (14, .any), (15, .any), (16, .any), (17, .any), (18, .any), (19, .any), (20, .any), (21, .any), (22, .any), (23, .any), (24, .any), (25, .any)], [], [], 1, 0⟩)]
def r3SamePhi : Fs := ⟨fun n d => match n with
  | _ => d, 147⟩
theorem r3SameS : SmyOk true Tryd.prog r3SamePhi r3SameSm := smy_nil
theorem r3SameT : treeOk ⟨Tryd.prog, r3SameSm, r3SameLa, true⟩ 4000 116 [.one (.rows false [.int .u8]), .one (.rows false [.int .u8])] [.one (.pl .bool)] ([]) r3SameTree = true := by decide +kernel
set_option maxHeartbeats 1000000 in
theorem r3Same_pure : PureE true Tryd.prog 116 [.one (.rows false [.int .u8]), .one (.rows false [.int .u8])] [.one (.pl .bool)] (lenP [(0, 1000000), (1, 1000000)]) r3SameF := by
  refine pure_tree (X := ⟨Tryd.prog, r3SameSm, r3SameLa, true⟩) (by decide +kernel) (Checked.mixed Tryd.checked) r3SameS (by decide +kernel) (by decide +kernel) r3SameT (by decide +kernel) ?_
  intro ds hl hp
  obtain ⟨d0, d1, rfl⟩ := len2 hl
  have b0 : (d0.l.length : Int) ≤ 1000000 := hp (0, 1000000) (by simp)
  have b1 : (d1.l.length : Int) ≤ 1000000 := hp (1, 1000000) (by simp)
  have hF : r3SameF [d0, d1] = r3SameE (d0.l.map DV.i) (d1.l.map DV.i) := rfl
  rw [hF]
  clear hF hp hl
  have hN : nrmL (clsOf [.one (.rows false [.int .u8]), .one (.rows false [.int .u8])]) [d0, d1] = [.list ((d0.l.map DV.i).map DV.int), .list ((d1.l.map DV.i).map DV.int)] := by
    simp only [clsOf, Sh.cls, List.append_nil, List.cons_append, List.nil_append, nrmL, Cl.nrm, map_Li]
  rw [hN]
  clear hN
  rw [← List.length_map (f := DV.i)] at b0
  generalize d0.l.map DV.i = x0 at b0 ⊢
  rw [← List.length_map (f := DV.i)] at b1
  generalize d1.l.map DV.i = x1 at b1 ⊢
  refine ⟨facts_nil _, ?_⟩
  unfold r3SameTree r3SameE
  simp only [Sat, clsOf, Sh.cls, List.append_nil, List.cons_append, List.nil_append, nrmL, Cl.nrm, CK.nrm, List.map_cons, List.map_nil, List.length_cons, List.length_nil, List.cons.injEq, DV.bool.injEq, and_true, true_and]
  simp only [q_le, q_eq, q_not, q_bool, iff_true, iff_false, Bool.not_true, Bool.not_false, Bool.false_eq_true, eq_self]
  simp only [SE.den, evU, ev_add, ev_idx, i_int, b_bool, l_list, envL, List.getElem?_cons_succ, List.getElem?_cons_zero, Option.getD_some, List.length_map, get_Li, Int.zero_add]
  refine ⟨fun h => ?_, fun h => ?_⟩
  · exact (decide_eq_false (fun e => h (by rw [e]))).symm
  · have hl : x0.length = x1.length := by omega
    refine rounds_find x0.length (fun i => [DV.int i]) (fun i => x0[i]?.getD 0 ≠ x1[i]?.getD 0) rfl (fun _ => rfl) (fun i hi hs hj => ?_) (fun i hi hs hj => ?_) (fun hj => ?_)
    · simp only [i_int, List.getElem?_cons_zero, Option.getD_some, Int.toNat_natCast, and_true, eq_self, DV.int.injEq, List.cons.injEq]
      simp only [w64 (n := (i : Int) + 1) (by omega) (by omega)]
      grind
    · simp only [i_int, List.getElem?_cons_zero, Option.getD_some, Int.toNat_natCast]
      grind
    · simp only [i_int, List.getElem?_cons_zero, Option.getD_some, Int.toNat_natCast]
      have : x0 = x1 := List.ext_getElem? fun i => by
        by_cases hi : i < x0.length
        · have := hj i hi
          rw [List.getElem?_eq_getElem hi, List.getElem?_eq_getElem (by omega)] at this ⊢
          simpa using this
        · rw [List.getElem?_eq_none (by omega), List.getElem?_eq_none (by omega)]
      grind
end Go.Proofs.YtkfjgggiopegbaaDoor
end
section
namespace Go.Proofs.YtkfjgggiopegbaaDoor
set_option linter.unusedVariables false
set_option linter.unusedSimpArgs false
set_option maxRecDepth 100000
def lead3 (b : List Int) : Nat := ((b.take 10).takeWhile (fun x => decide (128 ≤ x))).length
def step3 (x u : Int) : Int := IntKind.u64.wrap (IntKind.u64.wrap (128 * u) + IntKind.u64.wrap (x.tmod 128))
def acc3 (l : List Int) : Int := l.foldr step3 0
def num3 (u : Int) : Int := if u.tmod 2 = 1 then IntKind.i64.wrap (IntKind.i64.wrap (0 - IntKind.i64.wrap (IntKind.u64.wrap (u.tdiv 2))) - 1) else IntKind.i64.wrap (IntKind.u64.wrap (u.tdiv 2))
def get3 (b : List Int) : Option (Int × Nat) := if lead3 b = b.length ∨ lead3 b = 10 then none else if put3 (num3 (acc3 (b.take (lead3 b + 1)))) = b.take (lead3 b + 1) then some (num3 (acc3 (b.take (lead3 b + 1))), lead3 b + 1) else none
def r3GetE (b : List Int) : List DV := getD3 (get3 b)
theorem tw_len {p : Int → Bool} : ∀ (l : List Int) (k : Nat), k ≤ l.length → (∀ j, j < k → p (l[j]?.getD 0) = true) → (k = l.length ∨ p (l[k]?.getD 0) = false) → (l.takeWhile p).length = k
  | [], k, h, _, _ => by simp at h ⊢; omega
  | x :: l, 0, _, _, h => by
    rcases h with h | h
    · simp at h
    · have h : p x = false := by simpa using h
      rw [List.takeWhile_cons, h]; rfl
  | x :: l, k + 1, h0, h1, h2 => by
    have hx : p x = true := by simpa using h1 0 (by omega)
    rw [List.takeWhile_cons, hx]
    simp only [if_true, List.length_cons]
    rw [tw_len l k (by simpa using h0) (fun j hj => by simpa using h1 (j + 1) (by omega)) (by simpa using h2)]
theorem lead3_eq {b : List Int} {k : Nat} (h0 : k ≤ b.length) (h1 : k ≤ 10) (h2 : ∀ j, j < k → 128 ≤ b[j]?.getD 0) (h3 : k = b.length ∨ k = 10 ∨ ¬ 128 ≤ b[k]?.getD 0) : lead3 b = k := by
  have ht : ∀ j, j < 10 → (b.take 10)[j]?.getD 0 = b[j]?.getD 0 := fun j hj => by rw [List.getElem?_take, if_pos hj]
  refine tw_len _ k (by rw [List.length_take]; omega) (fun j hj => by rw [ht j (by omega)]; exact decide_eq_true (h2 j hj)) ?_
  rw [List.length_take]
  rcases h3 with h | h | h
  · left; omega
  · left; omega
  · by_cases hk : k = 10
    · left; omega
    · right; rw [ht k (by omega)]; exact decide_eq_false h
theorem r3_down {B : List DV → List DV → Prop} {R : List DV → Prop} (k : Nat) (b : List Int) (hk : k < b.length)
    (hB : ∀ (i : Nat) (u : Int), i ≤ k → B [.int u, .int i] [.int (step3 (b[i]?.getD 0) u), .int ((i : Int) - 1)])
    (hR : R [.int (acc3 (b.take (k + 1))), .int (-1)]) : Rounds B R [.int 0, .int k] := by
  refine rounds_at (k + 1) (fun j => [.int (acc3 ((b.take (k + 1)).drop (k + 1 - j))), .int ((k : Int) - j)]) ?_ (fun _ => rfl) (fun j hj => ?_) ?_
  · rw [List.drop_eq_nil_of_le (by rw [List.length_take]; omega)]
    simp [acc3]
  · have hl : (b.take (k + 1)).length = k + 1 := by rw [List.length_take]; omega
    have hd : (b.take (k + 1)).drop (k + 1 - (j + 1)) = (b[k - j]?.getD 0) :: (b.take (k + 1)).drop (k + 1 - j) := by
      rw [List.drop_eq_getElem_cons (by omega)]
      have e1 : k + 1 - (j + 1) = k - j := by omega
      have e2 : k + 1 - (j + 1) + 1 = k + 1 - j := by omega
      rw [e2]
      congr 1
      rw [List.getElem_take, List.getElem?_eq_getElem (by omega)]
      simp only [e1, Option.getD_some]
    have h := hB (k - j) (acc3 ((b.take (k + 1)).drop (k + 1 - j))) (by omega)
    rw [hd]
    have e3 : ((k - j : Nat) : Int) = (k : Int) - j := by omega
    rw [e3] at h
    have e4 : (k : Int) - ((j + 1 : Nat) : Int) = (k : Int) - j - 1 := by omega
    rw [e4]
    exact h
  · have e1 : k + 1 - (k + 1) = 0 := by omega
    have e2 : (k : Int) - ((k + 1 : Nat) : Int) = -1 := by omega
    rw [e1, List.drop_zero, e2]
    exact hR
def r3GetF (ds : List DV) : List DV := r3GetE (gLi ds 0)
def r3GetTree : PT :=
(.loop 1 [(.int 0)]
 (.br (.un .not (.bin .le (.un .len (.var 0)) (.var 1)))
  (.br (.un .not (.bin .le (.int 10) (.var 1)))
   (.asrt (.bin .le (.int 0) (.var 1))
    (.br (.bin .le (.int 128) (.bin .idx (.var 0) (.bin .add (.int 0) (.var 1))))
     (.leaf [(.un (.wrap .i64) (.bin .add (.var 1) (.int 1)))])
     .fail))
   .fail)
  .fail)
 (.br (.un .not (.bin .le (.un .len (.var 0)) (.var 1)))
  (.br (.un .not (.bin .le (.int 10) (.var 1)))
   (.asrt (.bin .le (.int 0) (.var 1))
    (.br (.bin .le (.int 128) (.bin .idx (.var 0) (.bin .add (.int 0) (.var 1))))
     .fail
     (.loop 2 [(.int 0), (.var 1)]
      (.br (.bin .le (.int 0) (.var 3))
       (.asrt (.un .not (.bin .le (.un .len (.var 0)) (.var 3)))
        (.leaf [(.un (.wrap .u64) (.bin .add (.un (.wrap .u64) (.bin .mul (.int 128) (.var 2))) (.un (.wrap .u64) (.bin .tmod (.bin .idx (.var 0) (.bin .add (.int 0) (.var 3))) (.int 128))))), (.un (.wrap .i64) (.bin .sub (.var 3) (.int 1)))]))
       .fail)
      (.br (.bin .le (.int 0) (.var 3))
       (.asrt (.un .not (.bin .le (.un .len (.var 0)) (.var 3)))
        .fail)
       (.br (.bin .eq (.bin .tmod (.var 2) (.int 2)) (.int 1))
        (.asrt (.bin .le (.un .len (.bin .idx (.fn 117 (.bin .cons (.un (.wrap .i64) (.bin .sub (.un (.wrap .i64) (.bin .sub (.int 0) (.un (.wrap .i64) (.un (.wrap .u64) (.bin .tdiv (.var 2) (.int 2)))))) (.int 1))) .nil)) (.int 0))) (.int 1000000))
         (.asrt (.bin .le (.un .len (.bin .take (.bin .drop (.var 0) (.int 0)) (.bin .sub (.un (.wrap .i64) (.bin .add (.var 1) (.int 1))) (.int 0)))) (.int 1000000))
          (.br (.un .not (.bin .idx (.fn 154 (.bin .cons (.bin .idx (.fn 117 (.bin .cons (.un (.wrap .i64) (.bin .sub (.un (.wrap .i64) (.bin .sub (.int 0) (.un (.wrap .i64) (.un (.wrap .u64) (.bin .tdiv (.var 2) (.int 2)))))) (.int 1))) .nil)) (.int 0)) (.bin .cons (.bin .take (.bin .drop (.var 0) (.int 0)) (.bin .sub (.un (.wrap .i64) (.bin .add (.var 1) (.int 1))) (.int 0))) .nil))) (.int 0)))
           (.leaf [(.int 0), (.int 0), (.int 3)])
           (.leaf [(.un (.wrap .i64) (.bin .sub (.un (.wrap .i64) (.bin .sub (.int 0) (.un (.wrap .i64) (.un (.wrap .u64) (.bin .tdiv (.var 2) (.int 2)))))) (.int 1))), (.un (.wrap .i64) (.bin .add (.var 1) (.int 1))), (.int 0)]))))
        (.asrt (.bin .le (.un .len (.bin .idx (.fn 117 (.bin .cons (.un (.wrap .i64) (.un (.wrap .u64) (.bin .tdiv (.var 2) (.int 2)))) .nil)) (.int 0))) (.int 1000000))
         (.asrt (.bin .le (.un .len (.bin .take (.bin .drop (.var 0) (.int 0)) (.bin .sub (.un (.wrap .i64) (.bin .add (.var 1) (.int 1))) (.int 0)))) (.int 1000000))
          (.br (.un .not (.bin .idx (.fn 154 (.bin .cons (.bin .idx (.fn 117 (.bin .cons (.un (.wrap .i64) (.un (.wrap .u64) (.bin .tdiv (.var 2) (.int 2)))) .nil)) (.int 0)) (.bin .cons (.bin .take (.bin .drop (.var 0) (.int 0)) (.bin .sub (.un (.wrap .i64) (.bin .add (.var 1) (.int 1))) (.int 0))) .nil))) (.int 0)))
           (.leaf [(.int 0), (.int 0), (.int 3)])
           (.leaf [(.un (.wrap .i64) (.un (.wrap .u64) (.bin .tdiv (.var 2) (.int 2)))), (.un (.wrap .i64) (.bin .add (.var 1) (.int 1))), (.int 0)])))))))))
   (.br (.bin .eq (.var 1) (.int 10))
    (.leaf [(.int 0), (.int 0), (.int 3)])
    (.loop 2 [(.int 0), (.var 1)]
     (.br (.bin .le (.int 0) (.var 3))
      (.asrt (.un .not (.bin .le (.un .len (.var 0)) (.var 3)))
       (.leaf [(.un (.wrap .u64) (.bin .add (.un (.wrap .u64) (.bin .mul (.int 128) (.var 2))) (.un (.wrap .u64) (.bin .tmod (.bin .idx (.var 0) (.bin .add (.int 0) (.var 3))) (.int 128))))), (.un (.wrap .i64) (.bin .sub (.var 3) (.int 1)))]))
      .fail)
     (.br (.bin .le (.int 0) (.var 3))
      (.asrt (.un .not (.bin .le (.un .len (.var 0)) (.var 3)))
       .fail)
      (.br (.bin .eq (.bin .tmod (.var 2) (.int 2)) (.int 1))
       (.asrt (.bin .le (.int 0) (.un (.wrap .i64) (.bin .add (.var 1) (.int 1))))
        (.asrt (.bin .le (.un (.wrap .i64) (.bin .add (.var 1) (.int 1))) (.un .len (.var 0)))
         (.asrt (.bin .le (.un .len (.bin .idx (.fn 117 (.bin .cons (.un (.wrap .i64) (.bin .sub (.un (.wrap .i64) (.bin .sub (.int 0) (.un (.wrap .i64) (.un (.wrap .u64) (.bin .tdiv (.var 2) (.int 2)))))) (.int 1))) .nil)) (.int 0))) (.int 1000000))
          (.asrt (.bin .le (.un .len (.bin .take (.bin .drop (.var 0) (.int 0)) (.bin .sub (.un (.wrap .i64) (.bin .add (.var 1) (.int 1))) (.int 0)))) (.int 1000000))
           (.br (.un .not (.bin .idx (.fn 154 (.bin .cons (.bin .idx (.fn 117 (.bin .cons (.un (.wrap .i64) (.bin .sub (.un (.wrap .i64) (.bin .sub (.int 0) (.un (.wrap .i64) (.un (.wrap .u64) (.bin .tdiv (.var 2) (.int 2)))))) (.int 1))) .nil)) (.int 0)) (.bin .cons (.bin .take (.bin .drop (.var 0) (.int 0)) (.bin .sub (.un (.wrap .i64) (.bin .add (.var 1) (.int 1))) (.int 0))) .nil))) (.int 0)))
            (.leaf [(.int 0), (.int 0), (.int 3)])
            (.leaf [(.un (.wrap .i64) (.bin .sub (.un (.wrap .i64) (.bin .sub (.int 0) (.un (.wrap .i64) (.un (.wrap .u64) (.bin .tdiv (.var 2) (.int 2)))))) (.int 1))), (.un (.wrap .i64) (.bin .add (.var 1) (.int 1))), (.int 0)]))))))
       (.asrt (.bin .le (.int 0) (.un (.wrap .i64) (.bin .add (.var 1) (.int 1))))
        (.asrt (.bin .le (.un (.wrap .i64) (.bin .add (.var 1) (.int 1))) (.un .len (.var 0)))
         (.asrt (.bin .le (.un .len (.bin .idx (.fn 117 (.bin .cons (.un (.wrap .i64) (.un (.wrap .u64) (.bin .tdiv (.var 2) (.int 2)))) .nil)) (.int 0))) (.int 1000000))
          (.asrt (.bin .le (.un .len (.bin .take (.bin .drop (.var 0) (.int 0)) (.bin .sub (.un (.wrap .i64) (.bin .add (.var 1) (.int 1))) (.int 0)))) (.int 1000000))
           (.br (.un .not (.bin .idx (.fn 154 (.bin .cons (.bin .idx (.fn 117 (.bin .cons (.un (.wrap .i64) (.un (.wrap .u64) (.bin .tdiv (.var 2) (.int 2)))) .nil)) (.int 0)) (.bin .cons (.bin .take (.bin .drop (.var 0) (.int 0)) (.bin .sub (.un (.wrap .i64) (.bin .add (.var 1) (.int 1))) (.int 0))) .nil))) (.int 0)))
            (.leaf [(.int 0), (.int 0), (.int 3)])
            (.leaf [(.un (.wrap .i64) (.un (.wrap .u64) (.bin .tdiv (.var 2) (.int 2)))), (.un (.wrap .i64) (.bin .add (.var 1) (.int 1))), (.int 0)])))))))))))
  (.br (.bin .eq (.var 1) (.un .len (.var 0)))
   (.leaf [(.int 0), (.int 0), (.int 3)])
   (.br (.bin .eq (.var 1) (.int 10))
    (.leaf [(.int 0), (.int 0), (.int 3)])
    (.loop 2 [(.int 0), (.var 1)]
     (.br (.bin .le (.int 0) (.var 3))
      (.asrt (.un .not (.bin .le (.un .len (.var 0)) (.var 3)))
       (.leaf [(.un (.wrap .u64) (.bin .add (.un (.wrap .u64) (.bin .mul (.int 128) (.var 2))) (.un (.wrap .u64) (.bin .tmod (.bin .idx (.var 0) (.bin .add (.int 0) (.var 3))) (.int 128))))), (.un (.wrap .i64) (.bin .sub (.var 3) (.int 1)))]))
      .fail)
     (.br (.bin .le (.int 0) (.var 3))
      (.asrt (.un .not (.bin .le (.un .len (.var 0)) (.var 3)))
       .fail)
      (.br (.bin .eq (.bin .tmod (.var 2) (.int 2)) (.int 1))
       (.asrt (.bin .le (.int 0) (.un (.wrap .i64) (.bin .add (.var 1) (.int 1))))
        (.asrt (.bin .le (.un (.wrap .i64) (.bin .add (.var 1) (.int 1))) (.un .len (.var 0)))
         (.asrt (.bin .le (.un .len (.bin .idx (.fn 117 (.bin .cons (.un (.wrap .i64) (.bin .sub (.un (.wrap .i64) (.bin .sub (.int 0) (.un (.wrap .i64) (.un (.wrap .u64) (.bin .tdiv (.var 2) (.int 2)))))) (.int 1))) .nil)) (.int 0))) (.int 1000000))
          (.asrt (.bin .le (.un .len (.bin .take (.bin .drop (.var 0) (.int 0)) (.bin .sub (.un (.wrap .i64) (.bin .add (.var 1) (.int 1))) (.int 0)))) (.int 1000000))
           (.br (.un .not (.bin .idx (.fn 154 (.bin .cons (.bin .idx (.fn 117 (.bin .cons (.un (.wrap .i64) (.bin .sub (.un (.wrap .i64) (.bin .sub (.int 0) (.un (.wrap .i64) (.un (.wrap .u64) (.bin .tdiv (.var 2) (.int 2)))))) (.int 1))) .nil)) (.int 0)) (.bin .cons (.bin .take (.bin .drop (.var 0) (.int 0)) (.bin .sub (.un (.wrap .i64) (.bin .add (.var 1) (.int 1))) (.int 0))) .nil))) (.int 0)))
            (.leaf [(.int 0), (.int 0), (.int 3)])
            (.leaf [(.un (.wrap .i64) (.bin .sub (.un (.wrap .i64) (.bin .sub (.int 0) (.un (.wrap .i64) (.un (.wrap .u64) (.bin .tdiv (.var 2) (.int 2)))))) (.int 1))), (.un (.wrap .i64) (.bin .add (.var 1) (.int 1))), (.int 0)]))))))
       (.asrt (.bin .le (.int 0) (.un (.wrap .i64) (.bin .add (.var 1) (.int 1))))
        (.asrt (.bin .le (.un (.wrap .i64) (.bin .add (.var 1) (.int 1))) (.un .len (.var 0)))
         (.asrt (.bin .le (.un .len (.bin .idx (.fn 117 (.bin .cons (.un (.wrap .i64) (.un (.wrap .u64) (.bin .tdiv (.var 2) (.int 2)))) .nil)) (.int 0))) (.int 1000000))
          (.asrt (.bin .le (.un .len (.bin .take (.bin .drop (.var 0) (.int 0)) (.bin .sub (.un (.wrap .i64) (.bin .add (.var 1) (.int 1))) (.int 0)))) (.int 1000000))
           (.br (.un .not (.bin .idx (.fn 154 (.bin .cons (.bin .idx (.fn 117 (.bin .cons (.un (.wrap .i64) (.un (.wrap .u64) (.bin .tdiv (.var 2) (.int 2)))) .nil)) (.int 0)) (.bin .cons (.bin .take (.bin .drop (.var 0) (.int 0)) (.bin .sub (.un (.wrap .i64) (.bin .add (.var 1) (.int 1))) (.int 0))) .nil))) (.int 0)))
            (.leaf [(.int 0), (.int 0), (.int 3)])
            (.leaf [(.un (.wrap .i64) (.un (.wrap .u64) (.bin .tdiv (.var 2) (.int 2)))), (.un (.wrap .i64) (.bin .add (.var 1) (.int 1))), (.int 0)])))))))))))))
def r3GetSm : List (Nat × Smy) := [(98, ⟨117, [.one (.pl (.int .i64))], [.one (.rows true [.int .u8])], fun _ => [], none⟩), (116, ⟨154, [.one (.rows false [.int .u8]), .one (.rows false [.int .u8])], [.one (.pl .bool)], lenC [(0, 1000000), (1, 1000000)], none⟩)]
def r3GetLa : List (LK × LA) := [(⟨68, 8, 1, 2, 3⟩, ⟨[(5, (.int .u64 (.var 2))), (7, (.int .i64 (.var 3))), (35, .any), (36, .any), (37, .any), (38, .any), (39, .any), (40, .any), (41, .any), (42, .any), (43, .any), (44, .any), (45, .any), (46, .any), (47, .any)], [], [], 2, 0⟩),
  (⟨68, 8, 1, 2, 4⟩, ⟨[(5, (.int .u64 (.var 2))), (7, (.int .i64 (.var 3))), (35, .any), (36, .any), (37, .any), (38, .any), (39, .any), (40, .any), (41, .any), (42, .any), (43, .any), (44, .any), (45, .any), (46, .any), (47, .any)], [], [], 2, 0⟩),
  (⟨68, 3, 1, 1, 0⟩, ⟨[(6, (.int .i64 (.var 1))), (9, .any), (10, .any), (11, .any), (12, .any), (13, .any), (14, .any), (15, .any), (16, .any), (17, .any), (18, .any), (19, .any), (20, .any), (21, .any), (22, .any), (23, .any), (24, .any), (25, .any)], [], [], 1, 0⟩)]
def r3GetPhi : Fs := ⟨fun n d => match n with
  | 117 => .list (r3PutF d.l)
  | 154 => .list (r3SameF d.l)
  | _ => d, 147⟩
theorem r3GetS : SmyOk true Tryd.prog r3GetPhi r3GetSm := (smy_cons (fun _ => True) r3PutF r3Put_pure (fun _ _ _ _ => trivial) (fun _ => rfl) (fun _ h => by cases h) (smy_cons (lenP [(0, 1000000), (1, 1000000)]) r3SameF r3Same_pure (len_hp [(0, 1000000), (1, 1000000)]) (fun _ => rfl) (fun _ h => by cases h) smy_nil))
theorem r3GetT : treeOk ⟨Tryd.prog, r3GetSm, r3GetLa, true⟩ 4000 106 [.one (.rows false [.int .u8])] [.one (.pl (.int .i64)), .one (.pl (.int .i64)), .one (.pl (.int .i64))] ([]) r3GetTree = true := by decide +kernel
set_option maxHeartbeats 1000000 in
theorem r3Get_pure : PureE true Tryd.prog 106 [.one (.rows false [.int .u8])] [.one (.pl (.int .i64)), .one (.pl (.int .i64)), .one (.pl (.int .i64))] (lenP [(0, 1000000)]) r3GetF := by
  refine pure_tree (X := ⟨Tryd.prog, r3GetSm, r3GetLa, true⟩) (by decide +kernel) (Checked.mixed Tryd.checked) r3GetS (by decide +kernel) (by decide +kernel) r3GetT (by decide +kernel) ?_
  intro ds hl hp
  obtain ⟨d0, rfl⟩ := len1 hl
  have b0 : (d0.l.length : Int) ≤ 1000000 := hp (0, 1000000) (by simp)
  have hF : r3GetF [d0] = r3GetE (d0.l.map DV.i) := rfl
  rw [hF]
  clear hF hp hl
  have hN : nrmL (clsOf [.one (.rows false [.int .u8])]) [d0] = [.list ((d0.l.map DV.i).map DV.int)] := by
    simp only [clsOf, Sh.cls, List.append_nil, nrmL, Cl.nrm, map_Li]
  rw [hN]
  clear hN
  rw [← List.length_map (f := DV.i)] at b0
  generalize d0.l.map DV.i = x0 at b0 ⊢
  refine ⟨facts_nil _, ?_⟩
  unfold r3GetTree r3GetE
  simp only [Sat, clsOf, Sh.cls, List.append_nil, List.cons_append, List.nil_append, nrmL, Cl.nrm, CK.nrm, List.map_cons, List.map_nil, List.length_cons, List.length_nil, true_and]
  try simp only [q_le, q_eq, q_not, iff_true, iff_false, Bool.not_true, Bool.not_false, Bool.false_eq_true, eq_self]
  simp only [SE.den, evU, ev_add, ev_sub, ev_mul, ev_tdiv, ev_tmod, ev_idx, ev_cons, ev_take, ev_drop, i_int, b_bool, l_list, envL, List.getElem?_cons_succ, List.getElem?_cons_zero, Option.getD_some, Int.toNat_zero, List.length_map, get_Li, Int.zero_add, r3GetPhi, r3PutF, r3PutE, r3SameF, r3SameE, gi, gLi, dece_i, Int.zero_add, Int.sub_zero, List.drop_zero, take_Li, dece_i, nrm_D3]
  refine rounds_inv (fun y => ∃ k : Nat, y = [DV.int k] ∧ k ≤ x0.length ∧ k ≤ 10 ∧ ∀ j, j < k → 128 ≤ x0[j]?.getD 0) (fun y => 10 - ((y[0]?).getD (DV.int 0)).i.toNat) ⟨0, rfl, by omega, by omega, fun j hj => by omega⟩ ?_
  rintro y ⟨k, rfl, h0, h1, h2⟩
  have hw : IntKind.i64.wrap ((k : Int) + 1) = ((k + 1 : Nat) : Int) := by rw [w64 (by omega) (by omega)]; omega
  by_cases hc : k < x0.length ∧ k < 10 ∧ 128 ≤ x0[k]?.getD 0
  · right
    refine ⟨[DV.int ((k + 1 : Nat) : Int)], ?_, rfl, ⟨k + 1, rfl, by omega, by omega, fun j hj => ?_⟩, ?_⟩
    · simp only [i_int, List.getElem?_cons_zero, Option.getD_some, Int.toNat_natCast, eq_self, hw]
      exact ⟨fun _ => ⟨fun _ => ⟨by omega, fun _ => trivial, fun h => absurd hc.2.2 h⟩, fun h => absurd h (by omega)⟩, fun h => absurd h (by omega)⟩
    · by_cases e : j = k
      · rw [e]; exact hc.2.2
      · exact h2 j (by omega)
    · simp only [i_int, List.getElem?_cons_zero, Option.getD_some, Int.toNat_natCast]; omega
  · left
    have hlead : lead3 x0 = k := lead3_eq h0 h1 h2 (by omega)
    have hn : (lead3 x0 = x0.length ∨ lead3 x0 = 10) → get3 x0 = none := fun h => if_pos h
    simp only [i_int, List.getElem?_cons_zero, Option.getD_some, Int.toNat_natCast]
    refine ⟨fun hl => ⟨fun h10 => ⟨by omega, fun h => absurd ⟨by omega, by omega, h⟩ hc, fun hx => ⟨rfl, ?_⟩⟩, fun h10 => ⟨fun _ => by rw [hn (by omega)]; rfl, fun h => absurd (by omega) h⟩⟩, fun hl => ⟨fun _ => by rw [hn (by omega)]; rfl, fun h => absurd (by omega) h⟩⟩
    have hg : get3 x0 = if put3 (num3 (acc3 (x0.take (k + 1)))) = x0.take (k + 1) then some (num3 (acc3 (x0.take (k + 1))), k + 1) else none := by
      unfold get3
      rw [hlead, if_neg (by omega)]
    refine r3_down k x0 (by omega) (fun i u hi => ?_) ?_
    · have hwi : IntKind.i64.wrap ((i : Int) - 1) = (i : Int) - 1 := w64 (by omega) (by omega)
      simp only [i_int, List.getElem?_cons_succ, List.getElem?_cons_zero, Option.getD_some, Int.toNat_natCast, and_true, eq_self, DV.int.injEq, List.cons.injEq, List.cons_append, List.nil_append, hwi]
      exact ⟨fun _ => ⟨by omega, rfl⟩, fun h => absurd (by omega) h⟩
    · have hlt : ((x0.take (k + 1)).length : Int) ≤ 1000000 := by rw [List.length_take]; omega
      have hp := fun n => (put3_len n).2
      simp only [i_int, List.getElem?_cons_succ, List.getElem?_cons_zero, Option.getD_some, Int.toNat_natCast, List.cons_append, List.nil_append, hw, hg]
      generalize x0.take (k + 1) = L at *
      refine ⟨fun h => absurd h (by omega), fun _ => ⟨fun hm => ?_, fun hm => ?_⟩⟩
      · have e : num3 (acc3 L) = IntKind.i64.wrap (IntKind.i64.wrap (0 - IntKind.i64.wrap (IntKind.u64.wrap ((acc3 L).tdiv 2))) - 1) := if_pos hm
        rw [← e]
        generalize num3 (acc3 L) = m at *
        have := hp m
        refine ⟨by omega, hlt, fun h => ?_, fun h => ?_⟩
        · rw [if_neg (of_decide_eq_false h)]; rfl
        · rw [if_pos (of_decide_eq_true h)]; rfl
      · have e : num3 (acc3 L) = IntKind.i64.wrap (IntKind.u64.wrap ((acc3 L).tdiv 2)) := if_neg hm
        rw [← e]
        generalize num3 (acc3 L) = m at *
        have := hp m
        refine ⟨by omega, hlt, fun h => ?_, fun h => ?_⟩
        · rw [if_neg (of_decide_eq_false h)]; rfl
        · rw [if_pos (of_decide_eq_true h)]; rfl
end Go.Proofs.YtkfjgggiopegbaaDoor
end
section
namespace Go.Proofs.YtkfjgggiopegbaaDoor
set_option linter.unusedVariables false
set_option linter.unusedSimpArgs false
set_option maxRecDepth 100000
def gn3 : Nat → List Int → Nat → List Int → Option (List Int × Nat)
  | 0, _, a, acc => some (acc, a)
  | m + 1, b, a, acc => match get3 b with | none => none | some p => gn3 m (b.drop p.2) (a + p.2) (acc ++ [p.1])
def getNums3 (b : List Int) : Option (List Int × Nat) := match get3 b with | none => none | some p => if p.1 < 0 then none else gn3 p.1.toNat (b.drop p.2) p.2 []
def r3GetNumsE (b : List Int) : List DV := getN3 (getNums3 b)
theorem gn3_succ (m : Nat) (b : List Int) (a : Nat) (acc : List Int) : gn3 (m + 1) b a acc = match get3 b with | none => none | some p => gn3 m (b.drop p.2) (a + p.2) (acc ++ [p.1]) := rfl
theorem lead3_le (b : List Int) : lead3 b ≤ b.length := by
  unfold lead3
  have h := (List.takeWhile_sublist (fun x => decide (128 ≤ x)) (l := b.take 10)).length_le
  rw [List.length_take] at h
  omega
theorem get3_len {b : List Int} {n : Int} {k : Nat} (h : get3 b = some (n, k)) : 0 < k ∧ k ≤ b.length := by
  unfold get3 at h
  have := lead3_le b
  split at h
  · cases h
  · split at h
    · cases h
      omega
    · cases h
theorem nrm_N3f (o : Option (List Int × Nat)) : nrmL [Cl.rows false [CK.int IntKind.i64], Cl.pl (CK.int IntKind.i64), Cl.pl (CK.int IntKind.i64)] (getN3 o) = getN3 o := (show _ = nrmL [Cl.rows true [CK.int IntKind.i64], Cl.pl (CK.int IntKind.i64), Cl.pl (CK.int IntKind.i64)] (getN3 o) by cases o <;> rfl).trans (nrm_N3 o)
def r3GetNumsF (ds : List DV) : List DV := r3GetNumsE (gLi ds 0)
def r3GetNumsTree : PT :=
(.asrt (.bin .le (.un .len (.var 0)) (.int 1000000))
 (.br (.un .not (.bin .eq (.bin .idx (.fn 155 (.bin .cons (.var 0) .nil)) (.int 2)) (.int 0)))
  (.leaf [.nil, (.int 0), (.int 3)])
  (.br (.un .not (.bin .le (.int 0) (.bin .idx (.fn 155 (.bin .cons (.var 0) .nil)) (.int 0))))
   (.leaf [.nil, (.int 0), (.int 3)])
   (.loop 1 [(.bin .idx (.fn 155 (.bin .cons (.var 0) .nil)) (.int 1)), .nil, (.int 0)]
    (.br (.un .not (.bin .le (.bin .idx (.fn 155 (.bin .cons (.var 0) .nil)) (.int 0)) (.var 3)))
     (.asrt (.bin .le (.int 0) (.var 1))
      (.asrt (.bin .le (.var 1) (.un .len (.var 0)))
       (.asrt (.bin .le (.un .len (.bin .take (.bin .drop (.var 0) (.bin .add (.int 0) (.var 1))) (.bin .sub (.un .len (.var 0)) (.var 1)))) (.int 1000000))
        (.br (.un .not (.bin .eq (.bin .idx (.fn 155 (.bin .cons (.bin .take (.bin .drop (.var 0) (.bin .add (.int 0) (.var 1))) (.bin .sub (.un .len (.var 0)) (.var 1))) .nil)) (.int 2)) (.int 0)))
         .fail
         (.asrt (.bin .le (.bin .add (.un .len (.var 2)) (.int 1)) (.int 4294967296))
          (.leaf [(.un (.wrap .i64) (.bin .add (.var 1) (.bin .idx (.fn 155 (.bin .cons (.bin .take (.bin .drop (.var 0) (.bin .add (.int 0) (.var 1))) (.bin .sub (.un .len (.var 0)) (.var 1))) .nil)) (.int 1)))), (.bin .snoc (.var 2) (.bin .idx (.fn 155 (.bin .cons (.bin .take (.bin .drop (.var 0) (.bin .add (.int 0) (.var 1))) (.bin .sub (.un .len (.var 0)) (.var 1))) .nil)) (.int 0))), (.un (.wrap .i64) (.bin .add (.var 3) (.int 1)))]))))))
     .fail)
    (.br (.un .not (.bin .le (.bin .idx (.fn 155 (.bin .cons (.var 0) .nil)) (.int 0)) (.var 3)))
     (.asrt (.bin .le (.int 0) (.var 1))
      (.asrt (.bin .le (.var 1) (.un .len (.var 0)))
       (.asrt (.bin .le (.un .len (.bin .take (.bin .drop (.var 0) (.bin .add (.int 0) (.var 1))) (.bin .sub (.un .len (.var 0)) (.var 1)))) (.int 1000000))
        (.br (.un .not (.bin .eq (.bin .idx (.fn 155 (.bin .cons (.bin .take (.bin .drop (.var 0) (.bin .add (.int 0) (.var 1))) (.bin .sub (.un .len (.var 0)) (.var 1))) .nil)) (.int 2)) (.int 0)))
         (.leaf [.nil, (.int 0), (.int 3)])
         (.asrt (.bin .le (.bin .add (.un .len (.var 2)) (.int 1)) (.int 4294967296))
          .fail)))))
     (.leaf [(.var 2), (.var 1), (.int 0)]))))))
def r3GetNumsSm : List (Nat × Smy) := [(106, ⟨155, [.one (.rows false [.int .u8])], [.one (.pl (.int .i64)), .one (.pl (.int .i64)), .one (.pl (.int .i64))], lenC [(0, 1000000)], none⟩)]
def r3GetNumsLa : List (LK × LA) := [(⟨49, 6, 1, 1, 3⟩, ⟨[(6, (.int .i64 (.var 1))), (8, (.sl 1 1 (.int 0) (.un .len (.var 2)) none)), (9, (.int .i64 (.var 3))), (10, .any), (11, .any), (12, .any), (25, .any), (26, .any), (27, .any), (28, .any), (29, .any), (30, .any), (31, .any), (32, .any), (33, .any), (34, .any), (35, .any), (36, .any), (37, .any), (38, .any), (39, .any), (40, .any), (41, .any), (42, .any), (43, .any), (44, .any), (45, .any), (46, .any)], [(1, (.rows [.int .i64] (.var 2)))], [], 3, 1⟩)]
def r3GetNumsPhi : Fs := ⟨fun n d => match n with
  | 155 => .list (r3GetF d.l)
  | _ => d, 147⟩
theorem r3GetNumsS : SmyOk true Tryd.prog r3GetNumsPhi r3GetNumsSm := (smy_cons (lenP [(0, 1000000)]) r3GetF r3Get_pure (len_hp [(0, 1000000)]) (fun _ => rfl) (fun _ h => by cases h) smy_nil)
theorem r3GetNumsT : treeOk ⟨Tryd.prog, r3GetNumsSm, r3GetNumsLa, true⟩ 4000 83 [.one (.rows false [.int .u8])] [.one (.rows false [.int .i64]), .one (.pl (.int .i64)), .one (.pl (.int .i64))] ([]) r3GetNumsTree = true := by decide +kernel
set_option maxHeartbeats 1000000 in
theorem r3GetNums_pure : PureE true Tryd.prog 83 [.one (.rows false [.int .u8])] [.one (.rows false [.int .i64]), .one (.pl (.int .i64)), .one (.pl (.int .i64))] (lenP [(0, 100000)]) r3GetNumsF := by
  refine pure_tree (X := ⟨Tryd.prog, r3GetNumsSm, r3GetNumsLa, true⟩) (by decide +kernel) (Checked.mixed Tryd.checked) r3GetNumsS (by decide +kernel) (by decide +kernel) r3GetNumsT (by decide +kernel) ?_
  intro ds hl hp
  obtain ⟨d0, rfl⟩ := len1 hl
  have b0 : (d0.l.length : Int) ≤ 100000 := hp (0, 100000) (by simp)
  have hF : r3GetNumsF [d0] = r3GetNumsE (d0.l.map DV.i) := rfl
  rw [hF]
  clear hF hp hl
  have hN : nrmL (clsOf [.one (.rows false [.int .u8])]) [d0] = [.list ((d0.l.map DV.i).map DV.int)] := by
    simp only [clsOf, Sh.cls, List.append_nil, nrmL, Cl.nrm, map_Li]
  rw [hN]
  clear hN
  rw [← List.length_map (f := DV.i)] at b0
  generalize d0.l.map DV.i = x0 at b0 ⊢
  refine ⟨facts_nil _, ?_⟩
  unfold r3GetNumsTree r3GetNumsE
  simp only [Sat, clsOf, Sh.cls, List.append_nil, List.cons_append, List.nil_append, nrmL, Cl.nrm, CK.nrm, List.map_cons, List.map_nil, List.length_cons, List.length_nil, true_and]
  try simp only [q_le, q_eq, q_not, iff_true, iff_false, Bool.not_true, Bool.not_false, Bool.false_eq_true, eq_self]
  simp only [SE.den, evU, ev_add, ev_sub, ev_idx, ev_cons, ev_snoc, ev_take, ev_drop, i_int, l_list, envL, List.getElem?_cons_succ, List.getElem?_cons_zero, Option.getD_some, Int.toNat_zero, Int.reduceToNat, List.length_map, Int.zero_add, r3GetNumsPhi, r3GetF, r3GetE, gLi, dece_i, Int.zero_add, take_Li, drop_Li, dece_i, nrm_N3f]
  unfold getNums3
  cases hg : get3 x0 with
  | none =>
    simp [getD3, getN3, i_int, Option.getD_some, and_true, true_and, eq_self, not_true_eq_false, not_false_eq_true, DV.int.injEq, DV.list.injEq, List.cons.injEq]
    omega
  | some p =>
    obtain ⟨n, k⟩ := p
    obtain ⟨k0, k1⟩ := get3_len hg
    simp only [getD3, i_int, List.getElem?_cons_succ, List.getElem?_cons_zero, Option.getD_some, eq_self, not_true_eq_false]
    refine ⟨by omega, fun h => h.elim, fun _ => ⟨fun h => ?_, fun hn => ?_⟩⟩
    · rw [if_pos (by omega)]; rfl
    · rw [if_neg (by omega)]
      generalize hR : gn3 n.toNat (x0.drop k) k [] = R
      refine rounds_inv (fun y => ∃ (out : List Int) (i q : Nat), y = [.int q, .list (out.map .int), .int i] ∧ i ≤ n.toNat ∧ out.length = i ∧ i ≤ q ∧ q ≤ x0.length ∧ gn3 (n.toNat - i) (x0.drop q) q out = R) (fun y => n.toNat - ((y[2]?).getD (DV.int 0)).i.toNat) ⟨[], 0, k, rfl, by omega, rfl, by omega, k1, hR⟩ ?_
      · rintro y ⟨out, i, q, rfl, h0, h1, h1', h2, h3⟩
        have ht : List.take ((x0.length : Int) - (q : Int)).toNat (List.drop q x0) = x0.drop q := List.take_of_length_le (by rw [List.length_drop]; omega)
        have hwi : IntKind.i64.wrap ((i : Int) + 1) = ((i + 1 : Nat) : Int) := by rw [w64 (by omega) (by omega)]; omega
        have hdl : ((x0.drop q).length : Int) ≤ 1000000 := by rw [List.length_drop]; omega
        simp only [i_int, l_list, List.getElem?_cons_succ, List.getElem?_cons_zero, Option.getD_some, Int.toNat_natCast, List.length_map, rows_i, ht, hwi]
        by_cases hi : i < n.toNat
        · have e1 : ¬ n ≤ (i : Int) := by omega
          obtain ⟨m, hm'⟩ : ∃ m, n.toNat - i = m + 1 := ⟨n.toNat - i - 1, by omega⟩
          have hm2 : n.toNat - (i + 1) = m := by omega
          rw [hm', gn3_succ] at h3
          cases hq : get3 (x0.drop q) with
          | none =>
            left
            rw [hq] at h3
            simp only at h3
            rw [← h3]
            simp [e1, getN3, i_int]
            omega
          | some p =>
            obtain ⟨v, w⟩ := p
            rw [hq] at h3
            simp only at h3
            obtain ⟨w0, w1⟩ := get3_len hq
            rw [List.length_drop] at w1
            rw [List.drop_drop] at h3
            right
            refine ⟨[.int ((q + w : Nat) : Int), .list ((out ++ [v]).map .int), .int ((i + 1 : Nat) : Int)], ?_, rfl, ⟨out ++ [v], i + 1, q + w, rfl, by omega, by simp; omega, by omega, by omega, by rw [hm2]; exact h3⟩, ?_⟩
            · have hww : IntKind.i64.wrap ((q : Int) + (w : Int)) = ((q + w : Nat) : Int) := by rw [w64 (by omega) (by omega)]; omega
              simp [e1, hww, i_int]
              omega
            · simp only [i_int, List.getElem?_cons_succ, List.getElem?_cons_zero, Option.getD_some, Int.toNat_natCast]; omega
        · left
          have hi' : i = n.toNat := by omega
          have e1 : n ≤ (i : Int) := by omega
          rw [show n.toNat - i = 0 by omega] at h3
          have h3 : some (out, q) = R := h3
          rw [← h3]
          simp [e1, getN3]
end Go.Proofs.YtkfjgggiopegbaaDoor
end
section
namespace Go.Proofs.YtkfjgggiopegbaaDoor
set_option linter.unusedVariables false
set_option linter.unusedSimpArgs false
set_option maxRecDepth 100000
def pay3 (s : List UInt8) : List UInt8 := if s.length = 32 then (s.take 28).drop 1 else []
def load3 (l : List (List UInt8)) : List UInt8 := l.flatMap pay3
def guessN (m : Int) : Option (List Int × Nat) → (Int × List Tii) × Int
  | none => ((0, []), 0)
  | some p => if p.1.length = 0 then ((0, []), 0) else ((p.1[0]?.getD 0, pairsM (p.1.drop 1)), m)
def guess3 (l : List (List UInt8)) (a : Int) : (Int × List Tii) × Int :=
  if 0 ≤ a ∧ a < l.length ∧ (l[a.toNat]?.getD []).length = 32 then guessN (manyM l a.toNat) (getNums3 (bytesN (load3 ((l.drop a.toNat).take (manyM l a.toNat))))) else ((0, []), 0)
def guessD (r : (Int × List Tii) × Int) : List DV := [.int r.1.1, .list (r.1.2.map encii), .int r.2]
def r3GuessE (l : List (List UInt8)) (a : Int) : List DV := guessD (guess3 l a)
theorem nrm_guess (r : (Int × List Tii) × Int) : nrmL [Cl.pl (CK.int IntKind.i64), Cl.rows false [CK.int IntKind.i64, CK.int IntKind.i64], Cl.pl (CK.int IntKind.i64)] (guessD r) = guessD r := by
  simp only [guessD, nrmL, Cl.nrm, CK.nrm, l_list, i_int, rows_ii]
theorem guess_no {l : List (List UInt8)} {a : Int} (h : ¬ (0 ≤ a ∧ a < l.length ∧ (l[a.toNat]?.getD []).length = 32)) : guess3 l a = ((0, []), 0) := if_neg h
theorem load3_snoc (l : List (List UInt8)) (j : Nat) (hj : j < l.length) : load3 (l.take (j + 1)) = load3 (l.take j) ++ pay3 (l[j]?.getD []) := by
  unfold load3
  rw [List.take_add_one, List.getElem?_eq_getElem hj, List.flatMap_append]
  simp
theorem load3_len (l : List (List UInt8)) : (load3 l).length ≤ 27 * l.length := by
  induction l with
  | nil => simp [load3]
  | cons s l ih =>
    unfold load3 at ih ⊢
    rw [List.flatMap_cons, List.length_append, List.length_cons]
    have : (pay3 s).length ≤ 27 := by
      unfold pay3
      split
      · rw [List.length_drop, List.length_take]; omega
      · simp
    omega
theorem gn3_len : ∀ (m : Nat) (b : List Int) (a : Nat) (acc l : List Int) (u : Nat), gn3 m b a acc = some (l, u) → l.length ≤ acc.length + b.length ∧ u ≤ a + b.length
  | 0, b, a, acc, l, u, h => by cases h; omega
  | m + 1, b, a, acc, l, u, h => by
    rw [gn3_succ] at h
    cases hg : get3 b with
    | none => rw [hg] at h; cases h
    | some p =>
      rw [hg] at h
      obtain ⟨n, k⟩ := p
      obtain ⟨k0, k1⟩ := get3_len hg
      have := gn3_len m _ _ _ _ _ h
      simp only [List.length_append, List.length_cons, List.length_nil, List.length_drop] at this
      omega
theorem getNums3_len {b l : List Int} {u : Nat} (h : getNums3 b = some (l, u)) : l.length ≤ b.length ∧ u ≤ b.length := by
  unfold getNums3 at h
  cases hg : get3 b with
  | none => rw [hg] at h; cases h
  | some p =>
    rw [hg] at h
    obtain ⟨n, k⟩ := p
    obtain ⟨k0, k1⟩ := get3_len hg
    simp only at h
    split at h
    · cases h
    · have := gn3_len _ _ _ _ _ _ h
      simp only [List.length_drop, List.length_nil] at this
      omega
theorem getd_int (n : List Int) (i : Nat) : ((n.map DV.int)[i]?).getD (DV.int 0) = .int (n[i]?.getD 0) := by rw [List.getElem?_map]; cases n[i]? <;> rfl
theorem pairs_take : ∀ (l : List Int) (j : Nat), 2 * j + 1 < l.length → pairsM (l.take (2 * (j + 1))) = pairsM (l.take (2 * j)) ++ [(l[2 * j]?.getD 0, l[2 * j + 1]?.getD 0)]
  | [], j, h => by simp at h
  | [a], j, h => by simp at h
  | a :: b :: l, 0, h => by simp [pairsM]
  | a :: b :: l, j + 1, h => by
    have ih := pairs_take l j (by simp only [List.length_cons] at h; omega)
    have e1 : (a :: b :: l).take (2 * (j + 1 + 1)) = a :: b :: l.take (2 * (j + 1)) := by
      rw [show 2 * (j + 1 + 1) = 2 * (j + 1) + 1 + 1 by omega]; rfl
    have e2 : (a :: b :: l).take (2 * (j + 1)) = a :: b :: l.take (2 * j) := by
      rw [show 2 * (j + 1) = 2 * j + 1 + 1 by omega]; rfl
    rw [e1, e2]
    show (a, b) :: pairsM (l.take (2 * (j + 1))) = (a, b) :: pairsM (l.take (2 * j)) ++ _
    rw [ih]
    rw [show 2 * (j + 1) = 2 * j + 1 + 1 by omega]
    rfl
theorem pairs_all : ∀ (l : List Int), pairsM (l.take (2 * (l.length / 2))) = pairsM l
  | [] => rfl
  | [a] => by simp [pairsM]
  | a :: b :: l => by
    have ih := pairs_all l
    have e1 : (a :: b :: l).take (2 * ((a :: b :: l).length / 2)) = a :: b :: l.take (2 * (l.length / 2)) := by
      rw [show 2 * ((a :: b :: l).length / 2) = 2 * (l.length / 2) + 1 + 1 by simp only [List.length_cons]; omega]; rfl
    rw [e1]
    show (a, b) :: pairsM (l.take (2 * (l.length / 2))) = _
    rw [ih]; rfl
theorem r3_pairs {B : List DV → List DV → Prop} {R : List DV → Prop} (n : List Int) (h1 : 1 ≤ n.length)
    (hB : ∀ (i : Nat) (out : List Tii), i + 1 < n.length → 1 ≤ i → out.length ≤ i → B [.int i, .list (out.map encii)] [.int ((i + 2 : Nat) : Int), .list ((out ++ [(n[i]?.getD 0, n[i + 1]?.getD 0)]).map encii)])
    (hR : ∀ i : Nat, n.length ≤ i + 1 → i ≤ n.length → R [.int i, .list ((pairsM (n.drop 1)).map encii)]) : Rounds B R [.int 1, .list []] := by
  have hd : (n.drop 1).length = n.length - 1 := List.length_drop ..
  have hpl : ∀ j, (pairsM ((n.drop 1).take (2 * j))).length ≤ j := fun j => by
    have : ∀ (l : List Int), 2 * (pairsM l).length ≤ l.length := by
      intro l
      induction l using pairsM.induct with
      | case1 a b l ih => show 2 * ((a, b) :: pairsM l).length ≤ _; simp only [List.length_cons]; omega
      | case2 l h => rw [pairsM]; simp; exact h
    have h := this ((n.drop 1).take (2 * j))
    rw [List.length_take] at h
    omega
  refine rounds_at ((n.length - 1) / 2) (fun j => [.int ((1 + 2 * j : Nat) : Int), .list ((pairsM ((n.drop 1).take (2 * j))).map encii)]) (by simp [pairsM]) (fun _ => rfl) (fun j hj => ?_) ?_
  · rw [pairs_take (n.drop 1) j (by omega)]
    have h := hB (1 + 2 * j) (pairsM ((n.drop 1).take (2 * j))) (by omega) (by omega) (by have := hpl j; omega)
    rw [List.getElem?_drop, List.getElem?_drop]
    rw [show 1 + 2 * (j + 1) = 1 + 2 * j + 2 by omega, show 1 + (2 * j + 1) = 1 + 2 * j + 1 by omega]
    exact h
  · have h := hR (1 + 2 * ((n.length - 1) / 2)) (by omega) (by omega)
    rw [show (n.length - 1) / 2 = (n.drop 1).length / 2 by rw [hd], pairs_all, hd]
    exact h
def r3GuessF (ds : List DV) : List DV := r3GuessE (gLs ds 0) (gi ds 1)
def r3GuessTree : PT :=
(.br (.un .not (.bin .le (.int 0) (.var 1)))
 (.leaf [(.int 0), .nil, (.int 0)])
 (.br (.bin .le (.un .len (.var 0)) (.var 1))
  (.leaf [(.int 0), .nil, (.int 0)])
  (.br (.un .not (.bin .eq (.un .slen (.bin .idx (.var 0) (.bin .add (.int 0) (.var 1)))) (.int 32)))
   (.leaf [(.int 0), .nil, (.int 0)])
   (.loop 2 [(.str []), (.var 1)]
    (.br (.un .not (.bin .le (.un (.wrap .i64) (.bin .add (.var 1) (.un (.wrap .i64) (.bin .add (.un (.wrap .i64) (.bin .byte (.bin .idx (.var 0) (.bin .add (.int 0) (.var 1))) (.int 0))) (.int 1))))) (.var 3)))
     (.br (.un .not (.bin .le (.un .len (.var 0)) (.var 3)))
      (.asrt (.bin .le (.int 0) (.var 3))
       (.br (.bin .eq (.un .slen (.bin .idx (.var 0) (.bin .add (.int 0) (.var 3)))) (.int 32))
        (.asrt (.bin .le (.bin .add (.un .slen (.var 2)) (.un .slen (.bin .sdrop (.bin .stake (.bin .idx (.var 0) (.bin .add (.int 0) (.var 3))) (.int 28)) (.int 1)))) (.int 9223372036854775807))
         (.leaf [(.bin .cat (.var 2) (.bin .sdrop (.bin .stake (.bin .idx (.var 0) (.bin .add (.int 0) (.var 3))) (.int 28)) (.int 1))), (.un (.wrap .i64) (.bin .add (.var 3) (.int 1)))]))
        (.leaf [(.var 2), (.un (.wrap .i64) (.bin .add (.var 3) (.int 1)))])))
      .fail)
     .fail)
    (.br (.un .not (.bin .le (.un (.wrap .i64) (.bin .add (.var 1) (.un (.wrap .i64) (.bin .add (.un (.wrap .i64) (.bin .byte (.bin .idx (.var 0) (.bin .add (.int 0) (.var 1))) (.int 0))) (.int 1))))) (.var 3)))
     (.br (.un .not (.bin .le (.un .len (.var 0)) (.var 3)))
      (.asrt (.bin .le (.int 0) (.var 3))
       (.br (.bin .eq (.un .slen (.bin .idx (.var 0) (.bin .add (.int 0) (.var 3)))) (.int 32))
        (.asrt (.bin .le (.bin .add (.un .slen (.var 2)) (.un .slen (.bin .sdrop (.bin .stake (.bin .idx (.var 0) (.bin .add (.int 0) (.var 3))) (.int 28)) (.int 1)))) (.int 9223372036854775807))
         .fail)
        .fail))
      (.asrt (.bin .le (.un .slen (.var 2)) (.int 100000))
       (.br (.un .not (.bin .eq (.bin .idx (.fn 156 (.bin .cons (.un .bytes (.var 2)) .nil)) (.int 2)) (.int 0)))
        (.leaf [(.int 0), .nil, (.int 0)])
        (.br (.bin .eq (.un .len (.bin .idx (.fn 156 (.bin .cons (.un .bytes (.var 2)) .nil)) (.int 0))) (.int 0))
         (.leaf [(.int 0), .nil, (.int 0)])
         (.loop 4 [(.int 1), .nil]
          (.br (.un .not (.bin .le (.un .len (.bin .idx (.fn 156 (.bin .cons (.un .bytes (.var 2)) .nil)) (.int 0))) (.un (.wrap .i64) (.bin .add (.var 4) (.int 1)))))
           (.asrt (.bin .le (.int 0) (.var 4))
            (.asrt (.un .not (.bin .le (.un .len (.bin .idx (.fn 156 (.bin .cons (.un .bytes (.var 2)) .nil)) (.int 0))) (.var 4)))
             (.asrt (.bin .le (.int 0) (.un (.wrap .i64) (.bin .add (.var 4) (.int 1))))
              (.asrt (.bin .le (.bin .add (.un .len (.var 5)) (.int 1)) (.int 4294967296))
               (.leaf [(.un (.wrap .i64) (.bin .add (.var 4) (.int 2))), (.bin .snoc (.var 5) (.bin .cons (.bin .idx (.bin .idx (.fn 156 (.bin .cons (.un .bytes (.var 2)) .nil)) (.int 0)) (.bin .add (.int 0) (.var 4))) (.bin .cons (.bin .idx (.bin .idx (.fn 156 (.bin .cons (.un .bytes (.var 2)) .nil)) (.int 0)) (.bin .add (.int 0) (.un (.wrap .i64) (.bin .add (.var 4) (.int 1))))) .nil)))])))))
           .fail)
          (.br (.un .not (.bin .le (.un .len (.bin .idx (.fn 156 (.bin .cons (.un .bytes (.var 2)) .nil)) (.int 0))) (.un (.wrap .i64) (.bin .add (.var 4) (.int 1)))))
           (.asrt (.bin .le (.int 0) (.var 4))
            (.asrt (.un .not (.bin .le (.un .len (.bin .idx (.fn 156 (.bin .cons (.un .bytes (.var 2)) .nil)) (.int 0))) (.var 4)))
             (.asrt (.bin .le (.int 0) (.un (.wrap .i64) (.bin .add (.var 4) (.int 1))))
              (.asrt (.bin .le (.bin .add (.un .len (.var 5)) (.int 1)) (.int 4294967296))
               .fail))))
           (.leaf [(.bin .idx (.bin .idx (.fn 156 (.bin .cons (.un .bytes (.var 2)) .nil)) (.int 0)) (.int 0)), (.var 5), (.un (.wrap .i64) (.bin .add (.un (.wrap .i64) (.bin .byte (.bin .idx (.var 0) (.bin .add (.int 0) (.var 1))) (.int 0))) (.int 1)))])))))))
     (.asrt (.bin .le (.un .slen (.var 2)) (.int 100000))
      (.br (.un .not (.bin .eq (.bin .idx (.fn 156 (.bin .cons (.un .bytes (.var 2)) .nil)) (.int 2)) (.int 0)))
       (.leaf [(.int 0), .nil, (.int 0)])
       (.br (.bin .eq (.un .len (.bin .idx (.fn 156 (.bin .cons (.un .bytes (.var 2)) .nil)) (.int 0))) (.int 0))
        (.leaf [(.int 0), .nil, (.int 0)])
        (.loop 4 [(.int 1), .nil]
         (.br (.un .not (.bin .le (.un .len (.bin .idx (.fn 156 (.bin .cons (.un .bytes (.var 2)) .nil)) (.int 0))) (.un (.wrap .i64) (.bin .add (.var 4) (.int 1)))))
          (.asrt (.bin .le (.int 0) (.var 4))
           (.asrt (.un .not (.bin .le (.un .len (.bin .idx (.fn 156 (.bin .cons (.un .bytes (.var 2)) .nil)) (.int 0))) (.var 4)))
            (.asrt (.bin .le (.int 0) (.un (.wrap .i64) (.bin .add (.var 4) (.int 1))))
             (.asrt (.bin .le (.bin .add (.un .len (.var 5)) (.int 1)) (.int 4294967296))
              (.leaf [(.un (.wrap .i64) (.bin .add (.var 4) (.int 2))), (.bin .snoc (.var 5) (.bin .cons (.bin .idx (.bin .idx (.fn 156 (.bin .cons (.un .bytes (.var 2)) .nil)) (.int 0)) (.bin .add (.int 0) (.var 4))) (.bin .cons (.bin .idx (.bin .idx (.fn 156 (.bin .cons (.un .bytes (.var 2)) .nil)) (.int 0)) (.bin .add (.int 0) (.un (.wrap .i64) (.bin .add (.var 4) (.int 1))))) .nil)))])))))
          .fail)
         (.br (.un .not (.bin .le (.un .len (.bin .idx (.fn 156 (.bin .cons (.un .bytes (.var 2)) .nil)) (.int 0))) (.un (.wrap .i64) (.bin .add (.var 4) (.int 1)))))
          (.asrt (.bin .le (.int 0) (.var 4))
           (.asrt (.un .not (.bin .le (.un .len (.bin .idx (.fn 156 (.bin .cons (.un .bytes (.var 2)) .nil)) (.int 0))) (.var 4)))
            (.asrt (.bin .le (.int 0) (.un (.wrap .i64) (.bin .add (.var 4) (.int 1))))
             (.asrt (.bin .le (.bin .add (.un .len (.var 5)) (.int 1)) (.int 4294967296))
              .fail))))
          (.leaf [(.bin .idx (.bin .idx (.fn 156 (.bin .cons (.un .bytes (.var 2)) .nil)) (.int 0)) (.int 0)), (.var 5), (.un (.wrap .i64) (.bin .add (.un (.wrap .i64) (.bin .byte (.bin .idx (.var 0) (.bin .add (.int 0) (.var 1))) (.int 0))) (.int 1)))])))))))))))
def r3GuessSm : List (Nat × Smy) := [(83, ⟨156, [.one (.rows false [.int .u8])], [.one (.rows false [.int .i64]), .one (.pl (.int .i64)), .one (.pl (.int .i64))], lenC [(0, 100000)], none⟩)]
def r3GuessLa : List (LK × LA) := [(⟨107, 17, 6, 4, 7⟩, ⟨[(13, (.int .i64 (.var 4))), (83, .any), (84, .any), (85, .any), (86, .any), (87, .any), (88, .any), (89, .any), (90, .any), (91, .any), (92, .any), (93, .any), (94, .any), (95, .any), (96, .any), (97, .any), (98, .any), (99, .any), (100, .any), (101, .any), (102, .any), (103, .any), (104, .any)], [(5, (.cells [(.int .i64 (.bin .idx (.bin .idx (.fn 156 (.bin .cons (.un .bytes (.var 2)) .nil)) (.int 0)) (.int 0))), (.sl 6 2 (.int 0) (.un .len (.var 5)) none)])), (6, (.rows [.int .i64, .int .i64] (.var 5)))], [], 2, 1⟩),
  (⟨107, 17, 6, 4, 8⟩, ⟨[(13, (.int .i64 (.var 4))), (83, .any), (84, .any), (85, .any), (86, .any), (87, .any), (88, .any), (89, .any), (90, .any), (91, .any), (92, .any), (93, .any), (94, .any), (95, .any), (96, .any), (97, .any), (98, .any), (99, .any), (100, .any), (101, .any), (102, .any), (103, .any), (104, .any)], [(5, (.cells [(.int .i64 (.bin .idx (.bin .idx (.fn 156 (.bin .cons (.un .bytes (.var 2)) .nil)) (.int 0)) (.int 0))), (.sl 6 2 (.int 0) (.un .len (.var 5)) none)])), (6, (.rows [.int .i64, .int .i64] (.var 5)))], [], 2, 1⟩),
  (⟨107, 8, 3, 2, 3⟩, ⟨[(7, (.str (.var 2))), (8, (.int .i64 (.var 3))), (38, .any), (39, .any), (40, .any), (41, .any), (42, .any), (43, .any), (44, .any), (45, .any), (46, .any), (47, .any), (48, .any), (49, .any), (50, .any), (51, .any), (52, .any), (53, .any), (54, .any), (55, .any), (56, .any), (57, .any), (58, .any), (59, .any), (60, .any), (61, .any), (62, .any), (63, .any)], [], [], 2, 0⟩)]
def r3GuessPhi : Fs := ⟨fun n d => match n with
  | 156 => .list (r3GetNumsF d.l)
  | _ => d, 147⟩
theorem r3GuessS : SmyOk true Tryd.prog r3GuessPhi r3GuessSm := (smy_cons (lenP [(0, 100000)]) r3GetNumsF r3GetNums_pure (len_hp [(0, 100000)]) (fun _ => rfl) (fun _ h => by cases h) smy_nil)
theorem r3GuessT : treeOk ⟨Tryd.prog, r3GuessSm, r3GuessLa, true⟩ 4000 45 [.one (.rows false [.str]), .one (.pl (.int .i64))] [.agg [.pl (.int .i64), .rows false [.int .i64, .int .i64]], .one (.pl (.int .i64))] ([]) r3GuessTree = true := by decide +kernel
set_option maxHeartbeats 1000000 in
theorem r3Guess_pure : PureE true Tryd.prog 45 [.one (.rows false [.str]), .one (.pl (.int .i64))] [.agg [.pl (.int .i64), .rows false [.int .i64, .int .i64]], .one (.pl (.int .i64))] (fun ds => lenP [(0, 1000)] ds ∧ rgeP [(1, -9223372036854775808, 9223372036854775807)] ds) r3GuessF := by
  refine pure_tree (X := ⟨Tryd.prog, r3GuessSm, r3GuessLa, true⟩) (by decide +kernel) (Checked.mixed Tryd.checked) r3GuessS (by decide +kernel) (by decide +kernel) r3GuessT (by decide +kernel) ?_
  intro ds hl hp
  obtain ⟨d0, d1, rfl⟩ := len2 hl
  have b0 : (d0.l.length : Int) ≤ 1000 := hp.1 (0, 1000) (by simp)
  have r1 : -9223372036854775808 ≤ d1.i ∧ d1.i ≤ 9223372036854775807 := hp.2 (1, -9223372036854775808, 9223372036854775807) (by simp)
  have hF : r3GuessF [d0, d1] = r3GuessE (d0.l.map DV.s) d1.i := rfl
  rw [hF]
  clear hF hp hl
  have hN : nrmL (clsOf [.one (.rows false [.str]), .one (.pl (.int .i64))]) [d0, d1] = [.list ((d0.l.map DV.s).map DV.str), .int d1.i] := by
    simp only [clsOf, Sh.cls, List.append_nil, List.cons_append, List.nil_append, nrmL, Cl.nrm, CK.nrm, map_Ls]
  rw [hN]
  clear hN
  rw [← List.length_map (f := DV.s)] at b0
  generalize d0.l.map DV.s = x0 at b0 ⊢
  generalize d1.i = x1 at r1 ⊢
  refine ⟨facts_nil _, ?_⟩
  unfold r3GuessTree r3GuessE
  simp only [Sat, clsOf, Sh.cls, List.append_nil, List.cons_append, List.nil_append, nrmL, Cl.nrm, CK.nrm, List.map_cons, List.map_nil, List.length_cons, List.length_nil, true_and]
  try simp only [q_le, q_eq, q_not, iff_true, iff_false, Bool.not_true, Bool.not_false, Bool.false_eq_true, eq_self]
  simp only [SE.den, evU, ev_add, ev_cat, ev_byte, ev_idx, ev_cons, ev_snoc, ev_stake, ev_sdrop, i_int, s_str, l_list, envL, List.getElem?_cons_succ, List.getElem?_cons_zero, Option.getD_some, Int.toNat_zero, Int.reduceToNat, List.length_map, get_Ls, Int.zero_add, r3GuessPhi, r3GetNumsF, r3GetNumsE, gLi, dece_i, Int.zero_add, nrm_guess]
  refine ⟨fun h => by rw [guess_no (by omega)]; rfl, fun h0 => ⟨fun h => by rw [guess_no (by omega)]; rfl, fun h1 => ⟨fun h => by rw [guess_no (by omega)]; rfl, fun h2 => ?_⟩⟩⟩
  obtain ⟨a, rfl⟩ : ∃ a : Nat, x1 = a := ⟨x1.toNat, by omega⟩
  simp only [Int.toNat_natCast] at h2 ⊢
  have hm1 : 1 ≤ manyM x0 a ∧ manyM x0 a ≤ 256 := by
    have : ((x0[a]?.getD [])[0]?.getD 0).toNat < 256 := UInt8.toNat_lt _
    unfold manyM
    omega
  have hm : (IntKind.i64.wrap (IntKind.i64.wrap ((((x0[a]?.getD [])[0]?.getD 0).toNat : Nat) : Int) + 1)) = (manyM x0 a : Nat) := by
    have e : manyM x0 a = ((x0[a]?.getD [])[0]?.getD 0).toNat + 1 := rfl
    rw [e] at hm1 ⊢
    generalize ((x0[a]?.getD [])[0]?.getD 0).toNat = q at *
    rw [w64 (n := (q : Int)) (by omega) (by omega), w64 (by omega) (by omega)]
    omega
  have hg : guess3 x0 a = guessN (manyM x0 a) (getNums3 (bytesN (load3 ((x0.drop a).take (manyM x0 a))))) := by
    unfold guess3
    rw [if_pos ⟨h0, by omega, by rw [Int.toNat_natCast]; omega⟩, Int.toNat_natCast]
  have hw2 : IntKind.i64.wrap ((a : Int) + (manyM x0 a : Nat)) = ((a + manyM x0 a : Nat) : Int) := by rw [w64 (by omega) (by omega)]; omega
  rw [hg]
  simp only [hm, hw2]
  clear hm hw2 hg
  generalize manyM x0 a = M at *
  have hdl : (x0.drop a).length = x0.length - a := List.length_drop ..
  refine rounds_at (min M (x0.length - a)) (fun j => [DV.str (load3 ((x0.drop a).take j)), DV.int ((a + j : Nat) : Int)]) (by simp [load3]) (fun _ => rfl) (fun j hj => ?_) ?_
  · rw [load3_snoc (x0.drop a) j (by omega)]
    have hll := load3_len ((x0.drop a).take j)
    rw [List.length_take] at hll
    have he : (x0.drop a)[j]?.getD [] = x0[a + j]?.getD [] := by rw [List.getElem?_drop]
    have hwj : IntKind.i64.wrap (((a + j : Nat) : Int) + 1) = ((a + (j + 1) : Nat) : Int) := by rw [w64 (by omega) (by omega)]; omega
    rw [he]
    simp only [i_int, s_str, List.getElem?_cons_succ, List.getElem?_cons_zero, Option.getD_some, Int.toNat_natCast, and_true, eq_self, DV.str.injEq, List.cons.injEq, hwj]
    generalize x0[a + j]?.getD [] = s at *
    refine ⟨fun _ => ⟨fun _ => ⟨by omega, fun hs => ?_, fun hs => ?_⟩, fun h => absurd h (by omega)⟩, fun h => absurd h (by omega)⟩
    · have : pay3 s = (s.take 28).drop 1 := if_pos (by omega)
      rw [this]
      exact ⟨by rw [List.length_drop, List.length_take]; omega, rfl⟩
    · have : pay3 s = [] := if_neg (by omega)
      rw [this, List.append_nil]
  · have ht : (x0.drop a).take (min M (x0.length - a)) = (x0.drop a).take M := by
      rcases Nat.le_total M (x0.length - a) with h | h
      · rw [Nat.min_eq_left h]
      · rw [Nat.min_eq_right h, List.take_of_length_le (by omega), List.take_of_length_le (by omega)]
    rw [ht]
    have hll := load3_len ((x0.drop a).take M)
    rw [List.length_take] at hll
    simp only [i_int, s_str, List.getElem?_cons_succ, List.getElem?_cons_zero, Option.getD_some, Int.toNat_natCast, List.cons_append, List.nil_append]
    generalize load3 ((x0.drop a).take M) = b at *
    refine ⟨fun h => ⟨fun h' => absurd h' (by omega), fun _ => ?_⟩, fun _ => ?_⟩
    all_goals
      refine ⟨by omega, ?_⟩
      cases hn : getNums3 (bytesN b) with
      | none =>
        simp only [getN3, i_int, l_list, List.getElem?_cons_succ, List.getElem?_cons_zero, List.getElem?_nil, Option.getD_some, Option.getD_none]
        exact ⟨fun _ => rfl, fun h => absurd h (by omega)⟩
      | some p =>
        obtain ⟨n, u⟩ := p
        have hnl := (getNums3_len hn).1
        rw [bytes_len] at hnl
        simp only [getN3, i_int, l_list, List.getElem?_cons_succ, List.getElem?_cons_zero, Option.getD_some, List.length_map, eq_self, not_true_eq_false, getd_int]
        have hgn : n.length ≠ 0 → guessN (M : Int) (some (n, u)) = ((n[0]?.getD 0, pairsM (n.drop 1)), (M : Int)) := fun h => if_neg h
        refine ⟨fun h => h.elim, fun _ => ⟨fun h => by rw [show guessN (M : Int) (some (n, u)) = ((0, []), 0) from if_pos (show n.length = 0 by omega)]; rfl, fun hz => ⟨rfl, ?_⟩⟩⟩
        rw [hgn (by omega)]
        refine r3_pairs n (by omega) (fun i out hi h1i ho => ?_) (fun i hi hi2 => ?_)
        · have w1 : IntKind.i64.wrap ((i : Int) + 1) = ((i + 1 : Nat) : Int) := by rw [w64 (by omega) (by omega)]; omega
          have w2 : IntKind.i64.wrap ((i : Int) + 2) = ((i + 2 : Nat) : Int) := by rw [w64 (by omega) (by omega)]; omega
          simp only [i_int, l_list, List.getElem?_cons_succ, List.getElem?_cons_zero, Option.getD_some, Int.toNat_natCast, List.length_map, and_true, true_and, eq_self, DV.list.injEq, List.cons.injEq, w1, w2]
          refine ⟨fun _ => ⟨by omega, by omega, by omega, by omega, ?_⟩, fun h => absurd h (by omega)⟩
          simp [encii]
        · have w1 : IntKind.i64.wrap ((i : Int) + 1) = ((i + 1 : Nat) : Int) := by rw [w64 (by omega) (by omega)]; omega
          simp only [i_int, l_list, List.getElem?_cons_succ, List.getElem?_cons_zero, Option.getD_some, List.length_map, rows_ii, rows_ii, w1]
          exact ⟨fun h => absurd (by omega) h, fun _ => rfl⟩
end Go.Proofs.YtkfjgggiopegbaaDoor
end
section
namespace Go.Proofs.YtkfjgggiopegbaaDoor
set_option linter.unusedVariables false
set_option linter.unusedSimpArgs false
set_option maxRecDepth 100000
theorem flatW_snoc (w : List Tii) (i : Nat) (h : i < w.length) : flatW (w.take (i + 1)) = flatW (w.take i) ++ [(w[i]?.getD dii).1, (w[i]?.getD dii).2] := by
  rw [List.take_add_one, List.getElem?_eq_getElem h]
  unfold flatW
  rw [List.flatMap_append]
  simp
end Go.Proofs.YtkfjgggiopegbaaDoor
end
section
namespace Go.Proofs.YtkfjgggiopegbaaDoor
set_option linter.unusedVariables false
set_option linter.unusedSimpArgs false
set_option maxRecDepth 100000
def record3 (v : Int) (w : List Tii) : List (List UInt8) := if validM v w = true then sectsM ((padM (strN (nums3 (v :: flatW w)))).length / 27) (padM (strN (nums3 (v :: flatW w)))) else []
def rRecordE (v : Int) (w : List Tii) : List DV := [.list ((record3 v w).map .str)]
theorem record3_eq {v : Int} {w : List Tii} (hw : rgeW w) : record3 v w = recordM v w := by
  unfold record3 recordM bodyM
  split
  · rename_i hv
    obtain ⟨_, v1, v2, v3⟩ := validM_iff.1 hv
    have hl : (v :: flatW w).length ≤ 65 := by rw [List.length_cons, flatW_len]; omega
    rw [nums3_eq (by omega) fun n hn => by
      rcases List.mem_cons.1 hn with e | e
      · omega
      · exact flatW_rge hw n e]
  · rfl
theorem sumM_rge (s : List UInt8) : 0 ≤ sumM s ∧ sumM s < 4294967296 := by
  obtain ⟨a, b, c, d⟩ := sumS_rge s
  unfold sumM
  omega
theorem le4_ops (n : Int) (h0 : 0 ≤ n) (h1 : n < 4294967296) : List.map (fun d : DV => UInt8.ofNat d.i.toNat) [.int (IntKind.u8.wrap (n.tmod 256)), .int (IntKind.u8.wrap ((IntKind.i64.wrap (n.tdiv 256)).tmod 256)), .int (IntKind.u8.wrap ((IntKind.i64.wrap (n.tdiv 65536)).tmod 256)), .int (IntKind.u8.wrap (IntKind.i64.wrap (n.tdiv 16777216)))] = le4 n := by
  unfold le4
  simp only [List.map_cons, List.map_nil, i_int]
  rw [Int.tmod_eq_emod_of_nonneg h0, Int.tdiv_eq_ediv_of_nonneg h0, Int.tdiv_eq_ediv_of_nonneg h0, Int.tdiv_eq_ediv_of_nonneg h0, w64 (n := n / 256) (by omega) (by omega), w64 (n := n / 65536) (by omega) (by omega), w64 (n := n / 16777216) (by omega) (by omega), Int.tmod_eq_emod_of_nonneg (by omega), Int.tmod_eq_emod_of_nonneg (by omega)]
  rw [u8_wrap (n % 256) (by omega) (by omega), u8_wrap (n / 256 % 256) (by omega) (by omega), u8_wrap (n / 65536 % 256) (by omega) (by omega), u8_wrap (n / 16777216) (by omega) (by omega)]
  have : n / 16777216 % 256 = n / 16777216 := by omega
  rw [this]
theorem head_ops (k : Int) (c : List UInt8) : List.map (fun d : DV => UInt8.ofNat d.i.toNat) [.int (IntKind.u8.wrap k)] ++ c = headS k c := by
  show UInt8.ofNat (IntKind.u8.wrap k).toNat :: c = _
  rw [wrap_u8n]
  rfl
def rRecordF (ds : List DV) : List DV := rRecordE (gi ds 0) (gLii ds 1)
def rRecordTree : PT :=
(.asrt (.bin .le (.un .len (.var 1)) (.int 9223372036854775807))
 (.br (.un .not (.bin .idx (.fn 114 (.bin .cons (.var 0) (.bin .cons (.var 1) .nil))) (.int 0)))
  (.leaf [.nil])
  (.loop 2 [(.bin .cons (.var 0) .nil), (.int 0)]
   (.br (.un .not (.bin .le (.un .len (.var 1)) (.var 3)))
    (.asrt (.bin .le (.int 0) (.var 3))
     (.asrt (.bin .le (.bin .add (.un .len (.var 2)) (.int 2)) (.int 4294967296))
      (.leaf [(.bin .app (.var 2) (.bin .cons (.bin .idx (.bin .idx (.var 1) (.bin .add (.int 0) (.var 3))) (.int 0)) (.bin .cons (.bin .idx (.bin .idx (.var 1) (.bin .add (.int 0) (.var 3))) (.int 1)) .nil))), (.un (.wrap .i64) (.bin .add (.var 3) (.int 1)))])))
    .fail)
   (.br (.un .not (.bin .le (.un .len (.var 1)) (.var 3)))
    (.asrt (.bin .le (.int 0) (.var 3))
     (.asrt (.bin .le (.bin .add (.un .len (.var 2)) (.int 2)) (.int 4294967296))
      .fail))
    (.asrt (.bin .le (.un .len (.var 2)) (.int 1000))
     (.loop 4 [(.un .str8 (.bin .idx (.fn 118 (.bin .cons (.var 2) .nil)) (.int 0)))]
      (.br (.un .not (.bin .eq (.bin .tmod (.un .slen (.var 4)) (.int 27)) (.int 0)))
       (.asrt (.bin .le (.bin .add (.un .slen (.var 4)) (.int 1)) (.int 9223372036854775807))
        (.leaf [(.bin .cat (.var 4) (.str [0]))]))
       .fail)
      (.br (.un .not (.bin .eq (.bin .tmod (.un .slen (.var 4)) (.int 27)) (.int 0)))
       (.asrt (.bin .le (.bin .add (.un .slen (.var 4)) (.int 1)) (.int 9223372036854775807))
        .fail)
       (.loop 5 [.nil, (.int 0)]
        (.br (.un .not (.bin .le (.un (.wrap .i64) (.bin .tdiv (.un .slen (.var 4)) (.int 27))) (.var 6)))
         (.asrt (.bin .le (.int 0) (.un (.wrap .i64) (.bin .add (.un (.wrap .i64) (.bin .mul (.int 27) (.var 6))) (.int 27))))
          (.asrt (.bin .le (.un (.wrap .i64) (.bin .add (.un (.wrap .i64) (.bin .mul (.int 27) (.var 6))) (.int 27))) (.un .slen (.var 4)))
           (.asrt (.bin .le (.int 0) (.un (.wrap .i64) (.bin .mul (.int 27) (.var 6))))
            (.asrt (.bin .le (.un (.wrap .i64) (.bin .mul (.int 27) (.var 6))) (.un (.wrap .i64) (.bin .add (.un (.wrap .i64) (.bin .mul (.int 27) (.var 6))) (.int 27))))
             (.asrt (.bin .le (.bin .add (.int 1) (.un .slen (.bin .sdrop (.bin .stake (.var 4) (.un (.wrap .i64) (.bin .add (.un (.wrap .i64) (.bin .mul (.int 27) (.var 6))) (.int 27)))) (.un (.wrap .i64) (.bin .mul (.int 27) (.var 6)))))) (.int 9223372036854775807))
              (.asrt (.bin .le (.un .slen (.bin .cat (.un .str8 (.bin .cons (.un (.wrap .u8) (.un (.wrap .i64) (.bin .sub (.un (.wrap .i64) (.bin .sub (.un (.wrap .i64) (.bin .tdiv (.un .slen (.var 4)) (.int 27))) (.int 1))) (.var 6)))) .nil)) (.bin .sdrop (.bin .stake (.var 4) (.un (.wrap .i64) (.bin .add (.un (.wrap .i64) (.bin .mul (.int 27) (.var 6))) (.int 27)))) (.un (.wrap .i64) (.bin .mul (.int 27) (.var 6)))))) (.int 1000000))
               (.asrt (.bin .le (.bin .add (.un .len (.var 5)) (.int 1)) (.int 4294967296))
                (.leaf [(.bin .snoc (.var 5) (.bin .cat (.bin .cat (.un .str8 (.bin .cons (.un (.wrap .u8) (.un (.wrap .i64) (.bin .sub (.un (.wrap .i64) (.bin .sub (.un (.wrap .i64) (.bin .tdiv (.un .slen (.var 4)) (.int 27))) (.int 1))) (.var 6)))) .nil)) (.bin .sdrop (.bin .stake (.var 4) (.un (.wrap .i64) (.bin .add (.un (.wrap .i64) (.bin .mul (.int 27) (.var 6))) (.int 27)))) (.un (.wrap .i64) (.bin .mul (.int 27) (.var 6))))) (.un .str8 (.bin .cons (.un (.wrap .u8) (.bin .tmod (.bin .idx (.fn 116 (.bin .cons (.bin .cat (.un .str8 (.bin .cons (.un (.wrap .u8) (.un (.wrap .i64) (.bin .sub (.un (.wrap .i64) (.bin .sub (.un (.wrap .i64) (.bin .tdiv (.un .slen (.var 4)) (.int 27))) (.int 1))) (.var 6)))) .nil)) (.bin .sdrop (.bin .stake (.var 4) (.un (.wrap .i64) (.bin .add (.un (.wrap .i64) (.bin .mul (.int 27) (.var 6))) (.int 27)))) (.un (.wrap .i64) (.bin .mul (.int 27) (.var 6))))) .nil)) (.int 0)) (.int 256))) (.bin .cons (.un (.wrap .u8) (.bin .tmod (.un (.wrap .i64) (.bin .tdiv (.bin .idx (.fn 116 (.bin .cons (.bin .cat (.un .str8 (.bin .cons (.un (.wrap .u8) (.un (.wrap .i64) (.bin .sub (.un (.wrap .i64) (.bin .sub (.un (.wrap .i64) (.bin .tdiv (.un .slen (.var 4)) (.int 27))) (.int 1))) (.var 6)))) .nil)) (.bin .sdrop (.bin .stake (.var 4) (.un (.wrap .i64) (.bin .add (.un (.wrap .i64) (.bin .mul (.int 27) (.var 6))) (.int 27)))) (.un (.wrap .i64) (.bin .mul (.int 27) (.var 6))))) .nil)) (.int 0)) (.int 256))) (.int 256))) (.bin .cons (.un (.wrap .u8) (.bin .tmod (.un (.wrap .i64) (.bin .tdiv (.bin .idx (.fn 116 (.bin .cons (.bin .cat (.un .str8 (.bin .cons (.un (.wrap .u8) (.un (.wrap .i64) (.bin .sub (.un (.wrap .i64) (.bin .sub (.un (.wrap .i64) (.bin .tdiv (.un .slen (.var 4)) (.int 27))) (.int 1))) (.var 6)))) .nil)) (.bin .sdrop (.bin .stake (.var 4) (.un (.wrap .i64) (.bin .add (.un (.wrap .i64) (.bin .mul (.int 27) (.var 6))) (.int 27)))) (.un (.wrap .i64) (.bin .mul (.int 27) (.var 6))))) .nil)) (.int 0)) (.int 65536))) (.int 256))) (.bin .cons (.un (.wrap .u8) (.un (.wrap .i64) (.bin .tdiv (.bin .idx (.fn 116 (.bin .cons (.bin .cat (.un .str8 (.bin .cons (.un (.wrap .u8) (.un (.wrap .i64) (.bin .sub (.un (.wrap .i64) (.bin .sub (.un (.wrap .i64) (.bin .tdiv (.un .slen (.var 4)) (.int 27))) (.int 1))) (.var 6)))) .nil)) (.bin .sdrop (.bin .stake (.var 4) (.un (.wrap .i64) (.bin .add (.un (.wrap .i64) (.bin .mul (.int 27) (.var 6))) (.int 27)))) (.un (.wrap .i64) (.bin .mul (.int 27) (.var 6))))) .nil)) (.int 0)) (.int 16777216)))) .nil))))))), (.un (.wrap .i64) (.bin .add (.var 6) (.int 1)))]))))))))
         .fail)
        (.br (.un .not (.bin .le (.un (.wrap .i64) (.bin .tdiv (.un .slen (.var 4)) (.int 27))) (.var 6)))
         (.asrt (.bin .le (.int 0) (.un (.wrap .i64) (.bin .add (.un (.wrap .i64) (.bin .mul (.int 27) (.var 6))) (.int 27))))
          (.asrt (.bin .le (.un (.wrap .i64) (.bin .add (.un (.wrap .i64) (.bin .mul (.int 27) (.var 6))) (.int 27))) (.un .slen (.var 4)))
           (.asrt (.bin .le (.int 0) (.un (.wrap .i64) (.bin .mul (.int 27) (.var 6))))
            (.asrt (.bin .le (.un (.wrap .i64) (.bin .mul (.int 27) (.var 6))) (.un (.wrap .i64) (.bin .add (.un (.wrap .i64) (.bin .mul (.int 27) (.var 6))) (.int 27))))
             (.asrt (.bin .le (.bin .add (.int 1) (.un .slen (.bin .sdrop (.bin .stake (.var 4) (.un (.wrap .i64) (.bin .add (.un (.wrap .i64) (.bin .mul (.int 27) (.var 6))) (.int 27)))) (.un (.wrap .i64) (.bin .mul (.int 27) (.var 6)))))) (.int 9223372036854775807))
              (.asrt (.bin .le (.un .slen (.bin .cat (.un .str8 (.bin .cons (.un (.wrap .u8) (.un (.wrap .i64) (.bin .sub (.un (.wrap .i64) (.bin .sub (.un (.wrap .i64) (.bin .tdiv (.un .slen (.var 4)) (.int 27))) (.int 1))) (.var 6)))) .nil)) (.bin .sdrop (.bin .stake (.var 4) (.un (.wrap .i64) (.bin .add (.un (.wrap .i64) (.bin .mul (.int 27) (.var 6))) (.int 27)))) (.un (.wrap .i64) (.bin .mul (.int 27) (.var 6)))))) (.int 1000000))
               (.asrt (.bin .le (.bin .add (.un .len (.var 5)) (.int 1)) (.int 4294967296))
                .fail)))))))
         (.leaf [(.var 5)]))))))))))
def rRecordSm : List (Nat × Smy) := [(72, ⟨114, [.agg [.pl (.int .i64), .rows false [.int .i64, .int .i64]]], [.one (.pl .bool)], lenC [(1, 9223372036854775807)], none⟩), (73, ⟨118, [.one (.rows false [.int .i64])], [.one (.rows true [.int .u8])], lenC [(0, 1000)], none⟩), (74, ⟨116, [.one (.pl .str)], [.one (.pl (.int .i64))], fun es => (fun _ => []) es ++ slenC [(0, 0, 1000000)] es, none⟩)]
def rRecordLa : List (LK × LA) := [(⟨99, 15, 6, 5, 5⟩, ⟨[(8, (.sl 6 1 (.int 0) (.un .len (.var 5)) none)), (9, (.int .i64 (.var 6))), (10, .any), (11, .any), (55, .any), (56, .any), (57, .any), (58, .any), (59, .any), (60, .any), (61, .any), (62, .any), (63, .any), (64, .any), (65, .any), (66, .any), (67, .any), (68, .any), (69, .any), (70, .any), (71, .any), (72, .any), (73, .any), (74, .any), (75, .any), (76, .any), (77, .any), (78, .any), (79, .any), (80, .any), (81, .any), (82, .any), (83, .any), (84, .any), (85, .any), (86, .any), (87, .any), (88, .any), (89, .any), (90, .any), (91, .any), (92, .any), (93, .any), (94, .any), (95, .any), (96, .any), (97, .any)], [(6, (.rows [.str] (.var 5)))], [], 2, 1⟩),
  (⟨99, 10, 6, 4, 4⟩, ⟨[(6, (.str (.var 4))), (44, .any), (45, .any), (46, .any), (47, .any), (48, .any), (49, .any), (50, .any), (51, .any)], [], [], 1, 0⟩),
  (⟨99, 6, 4, 2, 2⟩, ⟨[(4, (.sl 4 1 (.int 0) (.un .len (.var 2)) none)), (5, (.int .i64 (.var 3))), (19, .any), (20, .any), (21, .any), (22, .any), (23, .any), (24, .any), (25, .any), (26, .any), (27, .any), (28, .any), (29, .any), (30, .any), (31, .any), (32, .any), (33, .any), (34, .any), (35, .any), (36, .any), (37, .any), (38, .any), (39, .any), (40, .any)], [(4, (.rows [.int .i64] (.var 2)))], [3], 2, 1⟩)]
def rRecordPhi : Fs := ⟨fun n d => match n with
  | 114 => .list (rValidF d.l)
  | 118 => .list (r3NumsF d.l)
  | 116 => .list (rSum23F d.l)
  | _ => d, 147⟩
theorem rRecordS : SmyOk true Tryd.prog rRecordPhi rRecordSm := (smy_cons (lenP [(1, 9223372036854775807)]) rValidF rValid_pure (len_hp [(1, 9223372036854775807)]) (fun _ => rfl) (fun _ h => by cases h) (smy_cons (lenP [(0, 1000)]) r3NumsF r3Nums_pure (len_hp [(0, 1000)]) (fun _ => rfl) (fun _ h => by cases h) (smy_cons (fun ds => (fun _ => True) ds ∧ slenP [(0, 0, 1000000)] ds) rSum23F rSum23_pure (slen_hp (C := fun _ => []) (Q := fun _ => True) [(0, 0, 1000000)] (fun _ _ _ _ => trivial)) (fun _ => rfl) (fun _ h => by cases h) smy_nil)))
theorem rRecordT : treeOk ⟨Tryd.prog, rRecordSm, rRecordLa, true⟩ 4000 38 [.agg [.pl (.int .i64), .rows false [.int .i64, .int .i64]]] [.one (.rows true [.str])] ([]) rRecordTree = true := by decide +kernel
set_option maxHeartbeats 1000000 in
theorem rRecord_pure : PureE true Tryd.prog 38 [.agg [.pl (.int .i64), .rows false [.int .i64, .int .i64]]] [.one (.rows true [.str])] (lenP [(1, 1000000)]) rRecordF := by
  refine pure_tree (X := ⟨Tryd.prog, rRecordSm, rRecordLa, true⟩) (by decide +kernel) (Checked.mixed Tryd.checked) rRecordS (by decide +kernel) (by decide +kernel) rRecordT (by decide +kernel) ?_
  intro ds hl hp
  obtain ⟨d0, d1, rfl⟩ := len2 hl
  have b1 : (d1.l.length : Int) ≤ 1000000 := hp (1, 1000000) (by simp)
  have hF : rRecordF [d0, d1] = rRecordE d0.i (d1.l.map decii) := rfl
  rw [hF]
  clear hF hp hl
  have hN : nrmL (clsOf [.agg [.pl (.int .i64), .rows false [.int .i64, .int .i64]]]) [d0, d1] = [.int d0.i, .list ((d1.l.map decii).map encii)] := by
    simp only [clsOf, Sh.cls, List.append_nil, nrmL, Cl.nrm, CK.nrm, map_Lii]
  rw [hN]
  clear hN
  generalize d0.i = x0
  rw [← List.length_map (f := decii)] at b1
  generalize d1.l.map decii = x1 at b1 ⊢
  refine ⟨facts_nil _, ?_⟩
  unfold rRecordTree rRecordE
  simp only [Sat, clsOf, Sh.cls, List.append_nil, List.cons_append, List.nil_append, nrmL, Cl.nrm, List.map_cons, List.map_nil, List.length_cons, List.length_nil, List.cons.injEq, DV.list.injEq, and_true, true_and]
  simp only [q_le, q_eq, q_not, iff_true, iff_false, Bool.not_true, Bool.not_false, Bool.false_eq_true, eq_self]
  simp only [SE.den, evU, ev_add, ev_sub, ev_mul, ev_tdiv, ev_tmod, ev_cat, ev_idx, ev_cons, ev_snoc, ev_app, ev_stake, ev_sdrop, i_int, b_bool, s_str, l_list, envL, List.getElem?_cons_succ, List.getElem?_cons_zero, Option.getD_some, Int.toNat_zero, Int.reduceToNat, List.length_map, rows_s, Int.zero_add, rRecordPhi, rValidF, rValidE, r3NumsF, r3NumsE, rSum23F, rSum23E, gi, gs, gLi, gLii, deces_ii]
  refine ⟨by omega, fun h => ?_, fun hv => ?_⟩
  · unfold record3
    rw [if_neg (by simp [h])]
    rfl
  · obtain ⟨_, v1, v2, v3⟩ := validM_iff.1 hv
    refine rounds_at x1.length (fun i => [.list ((x0 :: flatW (x1.take i)).map .int), .int i]) rfl (fun _ => rfl) (fun i hi => ?_) ?_
    · have e1 : ¬ (x1.length : Int) ≤ i := by omega
      have hwi : IntKind.i64.wrap ((i : Int) + 1) = ((i + 1 : Nat) : Int) := by rw [w64 (by omega) (by omega)]; omega
      have hl : (flatW (x1.take i)).length = 2 * i := by rw [flatW_len, List.length_take]; omega
      rw [flatW_snoc _ _ hi]
      simp only [i_int, l_list, List.getElem?_cons_succ, List.getElem?_cons_zero, Option.getD_some, Int.toNat_natCast, List.length_map, and_true, eq_self, not_false_eq_true, DV.list.injEq, List.cons.injEq, e1, hwi, raw_ii_0, raw_ii_1, List.length_cons, hl]
      refine ⟨fun _ => ⟨by omega, by omega, ?_⟩, fun h => h.elim⟩
      simp
    · rw [List.take_length]
      generalize hL : x0 :: flatW x1 = L
      have hLl : L.length ≤ 65 := by rw [← hL, List.length_cons, flatW_len]; omega
      have hn := nums3_len L
      obtain ⟨B, hB⟩ : ∃ B, B = padM (strN (nums3 L)) := ⟨_, rfl⟩
      have hBl : B.length = ((nums3 L).length + 26) / 27 * 27 := by rw [hB, pad_len, strN_len]
      have hR : record3 x0 x1 = sectsM (B.length / 27) B := by
        unfold record3
        rw [if_pos hv, hL, ← hB]
      obtain ⟨M, hMe⟩ : ∃ M, M = ((nums3 L).length + 26) / 27 := ⟨_, rfl⟩
      have hBM : B.length / 27 = M := by omega
      rw [hBM] at hR
      obtain ⟨N, hN⟩ : ∃ N, N = strN (nums3 L) := ⟨_, rfl⟩
      have hNl : N.length = (nums3 L).length := by rw [hN, strN_len]
      simp only [i_int, l_list, List.getElem?_cons_succ, List.getElem?_cons_zero, Option.getD_some, List.length_map, dece_i, dece_i, str8_Li, hR]
      refine ⟨fun h => absurd (Int.le_refl _) h, fun _ => ⟨by omega, ?_⟩⟩
      rw [← hN]
      rw [← hN] at hB
      refine ⟨rfl, ?_⟩
      have hBe : B = N ++ List.replicate (27 * M - N.length) 0 := by rw [hB]; unfold padM; congr 2; omega
      refine rounds_inv (fun y => ∃ k : Nat, y = [.str (N ++ List.replicate k 0)] ∧ k ≤ 27 * M - N.length) (fun y => 27 * M - ((y[0]?).getD (DV.int 0)).s.length) ⟨0, by rw [List.replicate_zero, List.append_nil], Nat.zero_le _⟩ ?_
      rintro y ⟨k, rfl, hk⟩
      have hlen : ((N ++ List.replicate k 0).length : Int) = N.length + k := by simp
      simp only [s_str, List.getElem?_cons_succ, List.getElem?_cons_zero, Option.getD_some, List.cons_append, List.nil_append, hlen]
      have htm : ((N.length : Int) + k).tmod 27 = ((N.length + k) % 27 : Nat) := by rw [Int.tmod_eq_emod_of_nonneg (by omega)]; omega
      rw [htm]
      by_cases hk2 : (N.length + k) % 27 = 0
      · left
        have hkk : k = 27 * M - N.length := by omega
        rw [hkk, ← hBe] at hlen ⊢
        have h0 : (((N.length + (27 * M - N.length)) % 27 : Nat) : Int) = 0 := by omega
        refine ⟨fun h => absurd h0 h, fun _ => ⟨rfl, ?_⟩⟩
        have hdiv : IntKind.i64.wrap ((B.length : Int).tdiv 27) = M := by
          have : (B.length : Int).tdiv 27 = M := by rw [Int.tdiv_eq_ediv_of_nonneg (by omega)]; omega
          rw [this, w64 (by omega) (by omega)]
        have hdiv2 : IntKind.i64.wrap (((N.length : Int) + ((27 * M - N.length : Nat) : Int)).tdiv 27) = M := by
          rw [← hlen]; exact hdiv
        refine rounds_at M (fun i => [.list (((sectsM M B).take i).map .str), .int i]) rfl (fun _ => rfl) (fun i hi => ?_) ?_
        · have e1 : ¬ (M : Int) ≤ i := by omega
          have hwi : IntKind.i64.wrap ((i : Int) + 1) = ((i + 1 : Nat) : Int) := by rw [w64 (by omega) (by omega)]; omega
          have hw3 : IntKind.i64.wrap (27 * (i : Int)) = ((27 * i : Nat) : Int) := by rw [w64 (by omega) (by omega)]; omega
          have hw2 : IntKind.i64.wrap (((27 * i : Nat) : Int) + 27) = ((27 * (i + 1) : Nat) : Int) := by rw [w64 (by omega) (by omega)]; omega
          have hw4 : IntKind.i64.wrap (IntKind.i64.wrap ((M : Int) - 1) - i) = ((M - 1 - i : Nat) : Int) := by rw [w64 (n := (M : Int) - 1) (by omega) (by omega), w64 (by omega) (by omega)]; omega
          have hc : List.drop (27 * i) (List.take (27 * (i + 1)) B) = List.take 27 (List.drop (27 * i) B) := by rw [List.drop_take]; congr 1; omega
          have hcl : (List.take 27 (List.drop (27 * i) B)).length = 27 := by rw [List.length_take, List.length_drop]; omega
          have ht : (sectsM M B).take (i + 1) = (sectsM M B).take i ++ [sectorM ((M - 1 - i : Nat) : Int) (List.take 27 (List.drop (27 * i) B))] := by
            rw [List.take_add_one, ← sects_at M B i hi, List.getElem?_eq_getElem (by rw [sects_len]; exact hi)]; rfl
          have htl : ((sectsM M B).take i).length = i := by rw [List.length_take, sects_len]; omega
          rw [ht]
          simp only [i_int, l_list, List.getElem?_cons_succ, List.getElem?_cons_zero, Option.getD_some, Int.toNat_natCast, List.length_map, inj_Ls, and_true, eq_self, not_false_eq_true, DV.list.injEq, List.cons.injEq, e1, hwi, hw2, hw3, hw4, hdiv2, Int.toNat_natCast, hc, hcl, htl, snoc_Ls, head_ops]
          generalize hS : List.take 27 (List.drop (27 * i) B) = C at hcl
          obtain ⟨s0, s1⟩ := sumM_rge (headS ((M - 1 - i : Nat) : Int) C)
          rw [le4_ops _ s0 s1]
          have hhl : (headS ((M - 1 - i : Nat) : Int) C).length = 28 := by unfold headS; rw [List.length_cons, hcl]
          refine ⟨fun _ => ⟨by omega, by omega, by omega, by omega, by omega, by omega, by omega, ?_⟩, fun h => h⟩
          rfl
        · have : List.take M (sectsM M B) = sectsM M B := List.take_of_length_le (by rw [sects_len]; omega)
          rw [this]
          simp only [i_int, l_list, List.getElem?_cons_succ, List.getElem?_cons_zero, Option.getD_some, List.length_map, rows_s, eq_self, hdiv2]
          exact ⟨fun h => absurd (Int.le_refl _) h, fun _ => True.intro⟩
      · right
        have h0 : ¬ (((N.length + k) % 27 : Nat) : Int) = 0 := by omega
        refine ⟨[.str (N ++ List.replicate (k + 1) 0)], ⟨fun _ => ⟨by omega, ?_⟩, fun h => absurd h h0⟩, rfl, ⟨k + 1, rfl, by omega⟩, ?_⟩
        · rw [List.replicate_succ', ← List.append_assoc]
        · simp only [s_str, List.getElem?_cons_zero, Option.getD_some, List.length_replicate, List.length_append, List.length_replicate]; omega
end Go.Proofs.YtkfjgggiopegbaaDoor
end
section
namespace Go.Proofs.YtkfjgggiopegbaaDoor
set_option linter.unusedVariables false
set_option linter.unusedSimpArgs false
set_option maxRecDepth 100000
def rTextsE (a b : List (List UInt8)) : List DV := [.bool (decide (a = b))]
def rTextsF (ds : List DV) : List DV := rTextsE (gLs ds 0) (gLs ds 1)
def rTextsTree : PT :=
(.br (.un .not (.bin .eq (.un .len (.var 0)) (.un .len (.var 1))))
 (.leaf [(.bool false)])
 (.loop 2 [(.int 0)]
  (.br (.un .not (.bin .le (.un .len (.var 0)) (.var 2)))
   (.asrt (.bin .le (.int 0) (.var 2))
    (.asrt (.un .not (.bin .le (.un .len (.var 1)) (.var 2)))
     (.br (.un .not (.bin .eqs (.bin .idx (.var 0) (.bin .add (.int 0) (.var 2))) (.bin .idx (.var 1) (.bin .add (.int 0) (.var 2)))))
      .fail
      (.leaf [(.un (.wrap .i64) (.bin .add (.var 2) (.int 1)))]))))
   .fail)
  (.br (.un .not (.bin .le (.un .len (.var 0)) (.var 2)))
   (.asrt (.bin .le (.int 0) (.var 2))
    (.asrt (.un .not (.bin .le (.un .len (.var 1)) (.var 2)))
     (.br (.un .not (.bin .eqs (.bin .idx (.var 0) (.bin .add (.int 0) (.var 2))) (.bin .idx (.var 1) (.bin .add (.int 0) (.var 2)))))
      (.leaf [(.bool false)])
      .fail)))
   (.leaf [(.bool true)]))))
def rTextsSm : List (Nat × Smy) := []
def rTextsLa : List (LK × LA) := [(⟨26, 4, 2, 2, 1⟩, ⟨[(5, (.int .i64 (.var 2))), (11, .any), (12, .any), (13, .any), (14, .any), (15, .any), (16, .any), (17, .any), (18, .any), (19, .any), (20, .any), (21, .any), (22, .any), (23, .any), (24, .any), (25, .any)], [], [], 1, 0⟩)]
def rTextsPhi : Fs := ⟨fun n d => match n with
  | _ => d, 147⟩
theorem rTextsS : SmyOk true Tryd.prog rTextsPhi rTextsSm := smy_nil
theorem rTextsT : treeOk ⟨Tryd.prog, rTextsSm, rTextsLa, true⟩ 4000 46 [.one (.rows false [.str]), .one (.rows false [.str])] [.one (.pl .bool)] ([]) rTextsTree = true := by decide +kernel
set_option maxHeartbeats 1000000 in
theorem rTexts_pure : PureE true Tryd.prog 46 [.one (.rows false [.str]), .one (.rows false [.str])] [.one (.pl .bool)] (lenP [(0, 1000000), (1, 1000000)]) rTextsF := by
  refine pure_tree (X := ⟨Tryd.prog, rTextsSm, rTextsLa, true⟩) (by decide +kernel) (Checked.mixed Tryd.checked) rTextsS (by decide +kernel) (by decide +kernel) rTextsT (by decide +kernel) ?_
  intro ds hl hp
  obtain ⟨d0, d1, rfl⟩ := len2 hl
  have b0 : (d0.l.length : Int) ≤ 1000000 := hp (0, 1000000) (by simp)
  have b1 : (d1.l.length : Int) ≤ 1000000 := hp (1, 1000000) (by simp)
  have hF : rTextsF [d0, d1] = rTextsE (d0.l.map DV.s) (d1.l.map DV.s) := rfl
  rw [hF]
  clear hF hp hl
  have hN : nrmL (clsOf [.one (.rows false [.str]), .one (.rows false [.str])]) [d0, d1] = [.list ((d0.l.map DV.s).map DV.str), .list ((d1.l.map DV.s).map DV.str)] := by
    simp only [clsOf, Sh.cls, List.append_nil, List.cons_append, List.nil_append, nrmL, Cl.nrm, map_Ls]
  rw [hN]
  clear hN
  rw [← List.length_map (f := DV.s)] at b0
  generalize d0.l.map DV.s = x0 at b0 ⊢
  rw [← List.length_map (f := DV.s)] at b1
  generalize d1.l.map DV.s = x1 at b1 ⊢
  refine ⟨facts_nil _, ?_⟩
  unfold rTextsTree rTextsE
  simp only [Sat, clsOf, Sh.cls, List.append_nil, List.cons_append, List.nil_append, nrmL, Cl.nrm, CK.nrm, List.map_cons, List.map_nil, List.length_cons, List.length_nil, List.cons.injEq, DV.bool.injEq, and_true, true_and]
  simp only [q_le, q_eq, q_eqs, q_not, q_bool, iff_true, iff_false, Bool.not_true, Bool.not_false, Bool.false_eq_true, eq_self]
  simp only [SE.den, evU, ev_add, ev_idx, i_int, b_bool, l_list, envL, List.getElem?_cons_succ, List.getElem?_cons_zero, Option.getD_some, List.length_map, get_Ls, Int.zero_add]
  refine ⟨fun h => ?_, fun h => ?_⟩
  · exact (decide_eq_false (fun e => h (by rw [e]))).symm
  · have hl : x0.length = x1.length := by omega
    refine rounds_find x0.length (fun i => [DV.int i]) (fun i => x0[i]?.getD [] ≠ x1[i]?.getD []) rfl (fun _ => rfl) (fun i hi hs hj => ?_) (fun i hi hs hj => ?_) (fun hj => ?_)
    · simp only [i_int, List.getElem?_cons_zero, Option.getD_some, Int.toNat_natCast, and_true, eq_self, DV.int.injEq, List.cons.injEq]
      simp only [w64 (n := (i : Int) + 1) (by omega) (by omega)]
      grind
    · simp only [i_int, List.getElem?_cons_zero, Option.getD_some, Int.toNat_natCast]
      grind
    · simp only [i_int, List.getElem?_cons_zero, Option.getD_some, Int.toNat_natCast]
      have : x0 = x1 := List.ext_getElem? fun i => by
        by_cases hi : i < x0.length
        · have := hj i hi
          rw [List.getElem?_eq_getElem hi, List.getElem?_eq_getElem (by omega)] at this ⊢
          simpa using this
        · rw [List.getElem?_eq_none (by omega), List.getElem?_eq_none (by omega)]
      grind
end Go.Proofs.YtkfjgggiopegbaaDoor
end
section
namespace Go.Proofs.YtkfjgggiopegbaaDoor
set_option linter.unusedVariables false
set_option linter.unusedSimpArgs false
set_option maxRecDepth 100000
def parse3G (l : List (List UInt8)) (a : Int) (g : (Int × List Tii) × Int) (r : List (List UInt8)) : Option ((Int × List Tii) × Nat) :=
  if g.2 = 0 ∨ r.length = 0 ∨ (r.length : Int) ≠ g.2 ∨ ¬ g.2 ≤ l.length - a then none else if r = (l.drop a.toNat).take g.2.toNat then some (g.1, g.2.toNat) else none
def parse3 (l : List (List UInt8)) (a : Int) : Option ((Int × List Tii) × Nat) := parse3G l a (guess3 l a) (record3 (guess3 l a).1.1 (guess3 l a).1.2)
def r3ParseE (l : List (List UInt8)) (a : Int) : List DV := parse4 (parse3 l a)
theorem guess3_len (l : List (List UInt8)) (a : Int) : (guess3 l a).1.2.length ≤ 10000 ∧ ((guess3 l a).2 ≠ 0 → 0 ≤ a ∧ a < l.length ∧ 1 ≤ (guess3 l a).2 ∧ (guess3 l a).2 ≤ 256) := by
  have hm1 : 1 ≤ manyM l a.toNat ∧ manyM l a.toNat ≤ 256 := by
    have : ((l[a.toNat]?.getD [])[0]?.getD 0).toNat < 256 := UInt8.toNat_lt _
    unfold manyM
    omega
  unfold guess3
  split
  · rename_i hc
    generalize manyM l a.toNat = M at *
    have hll := load3_len ((l.drop a.toNat).take M)
    rw [List.length_take] at hll
    cases hn : getNums3 (bytesN (load3 ((l.drop a.toNat).take M))) with
    | none => exact ⟨by simp [guessN], fun h => absurd rfl h⟩
    | some p =>
      obtain ⟨n, u⟩ := p
      have hnl := (getNums3_len hn).1
      rw [bytes_len] at hnl
      have hp := pairs_len (n.drop 1)
      rw [List.length_drop] at hp
      unfold guessN
      simp only
      split
      · exact ⟨by simp, fun h => absurd rfl h⟩
      · exact ⟨by simp only; omega, fun _ => ⟨hc.1, hc.2.1, by simp only; omega, by simp only; omega⟩⟩
  · exact ⟨by simp, fun h => absurd rfl h⟩
theorem nrm_parse4 (o : Option ((Int × List Tii) × Nat)) : nrmL [Cl.pl (CK.int IntKind.i64), Cl.rows false [CK.int IntKind.i64, CK.int IntKind.i64], Cl.pl (CK.int IntKind.i64), Cl.pl (CK.int IntKind.i64)] (parse4 o) = parse4 o := by
  cases o with
  | none => rfl
  | some r => simp only [parse4, nrmL, Cl.nrm, CK.nrm, l_list, i_int, rows_ii]
def r3ParseF (ds : List DV) : List DV := r3ParseE (gLs ds 0) (gi ds 1)
def r3ParseTree : PT :=
(.asrt (.bin .le (.un .len (.var 0)) (.int 1000))
 (.asrt (.bin .le (.int (-9223372036854775808)) (.var 1))
  (.asrt (.bin .le (.var 1) (.int 9223372036854775807))
   (.asrt (.bin .le (.un .len (.bin .idx (.fn 157 (.bin .cons (.var 0) (.bin .cons (.var 1) .nil))) (.int 1))) (.int 1000000))
    (.br (.bin .eq (.bin .idx (.fn 157 (.bin .cons (.var 0) (.bin .cons (.var 1) .nil))) (.int 2)) (.int 0))
     (.leaf [(.int 0), .nil, (.int 0), (.int 11)])
     (.br (.bin .eq (.un .len (.bin .idx (.fn 119 (.bin .cons (.bin .idx (.fn 157 (.bin .cons (.var 0) (.bin .cons (.var 1) .nil))) (.int 0)) (.bin .cons (.bin .idx (.fn 157 (.bin .cons (.var 0) (.bin .cons (.var 1) .nil))) (.int 1)) .nil))) (.int 0))) (.int 0))
      (.leaf [(.int 0), .nil, (.int 0), (.int 11)])
      (.br (.un .not (.bin .eq (.un .len (.bin .idx (.fn 119 (.bin .cons (.bin .idx (.fn 157 (.bin .cons (.var 0) (.bin .cons (.var 1) .nil))) (.int 0)) (.bin .cons (.bin .idx (.fn 157 (.bin .cons (.var 0) (.bin .cons (.var 1) .nil))) (.int 1)) .nil))) (.int 0))) (.bin .idx (.fn 157 (.bin .cons (.var 0) (.bin .cons (.var 1) .nil))) (.int 2))))
       (.leaf [(.int 0), .nil, (.int 0), (.int 11)])
       (.br (.un .not (.bin .le (.bin .idx (.fn 157 (.bin .cons (.var 0) (.bin .cons (.var 1) .nil))) (.int 2)) (.un (.wrap .i64) (.bin .sub (.un .len (.var 0)) (.var 1)))))
        (.leaf [(.int 0), .nil, (.int 0), (.int 11)])
        (.asrt (.bin .le (.int 0) (.un (.wrap .i64) (.bin .add (.var 1) (.bin .idx (.fn 157 (.bin .cons (.var 0) (.bin .cons (.var 1) .nil))) (.int 2)))))
         (.asrt (.bin .le (.un (.wrap .i64) (.bin .add (.var 1) (.bin .idx (.fn 157 (.bin .cons (.var 0) (.bin .cons (.var 1) .nil))) (.int 2)))) (.un .len (.var 0)))
          (.asrt (.bin .le (.int 0) (.var 1))
           (.asrt (.bin .le (.var 1) (.un (.wrap .i64) (.bin .add (.var 1) (.bin .idx (.fn 157 (.bin .cons (.var 0) (.bin .cons (.var 1) .nil))) (.int 2)))))
            (.asrt (.bin .le (.un .len (.bin .idx (.fn 119 (.bin .cons (.bin .idx (.fn 157 (.bin .cons (.var 0) (.bin .cons (.var 1) .nil))) (.int 0)) (.bin .cons (.bin .idx (.fn 157 (.bin .cons (.var 0) (.bin .cons (.var 1) .nil))) (.int 1)) .nil))) (.int 0))) (.int 1000000))
             (.asrt (.bin .le (.un .len (.bin .take (.bin .drop (.var 0) (.bin .add (.int 0) (.var 1))) (.bin .sub (.un (.wrap .i64) (.bin .add (.var 1) (.bin .idx (.fn 157 (.bin .cons (.var 0) (.bin .cons (.var 1) .nil))) (.int 2)))) (.var 1)))) (.int 1000000))
              (.br (.un .not (.bin .idx (.fn 115 (.bin .cons (.bin .idx (.fn 119 (.bin .cons (.bin .idx (.fn 157 (.bin .cons (.var 0) (.bin .cons (.var 1) .nil))) (.int 0)) (.bin .cons (.bin .idx (.fn 157 (.bin .cons (.var 0) (.bin .cons (.var 1) .nil))) (.int 1)) .nil))) (.int 0)) (.bin .cons (.bin .take (.bin .drop (.var 0) (.bin .add (.int 0) (.var 1))) (.bin .sub (.un (.wrap .i64) (.bin .add (.var 1) (.bin .idx (.fn 157 (.bin .cons (.var 0) (.bin .cons (.var 1) .nil))) (.int 2)))) (.var 1))) .nil))) (.int 0)))
               (.leaf [(.int 0), .nil, (.int 0), (.int 11)])
               (.leaf [(.bin .idx (.fn 157 (.bin .cons (.var 0) (.bin .cons (.var 1) .nil))) (.int 0)), (.bin .idx (.fn 157 (.bin .cons (.var 0) (.bin .cons (.var 1) .nil))) (.int 1)), (.bin .idx (.fn 157 (.bin .cons (.var 0) (.bin .cons (.var 1) .nil))) (.int 2)), (.int 0)]))))))))))))))))
def r3ParseSm : List (Nat × Smy) := [(45, ⟨157, [.one (.rows false [.str]), .one (.pl (.int .i64))], [.agg [.pl (.int .i64), .rows false [.int .i64, .int .i64]], .one (.pl (.int .i64))], fun es => lenC [(0, 1000)] es ++ rgeC [(1, -9223372036854775808, 9223372036854775807)] es, none⟩), (38, ⟨119, [.agg [.pl (.int .i64), .rows false [.int .i64, .int .i64]]], [.one (.rows true [.str])], lenC [(1, 1000000)], none⟩), (46, ⟨115, [.one (.rows false [.str]), .one (.rows false [.str])], [.one (.pl .bool)], lenC [(0, 1000000), (1, 1000000)], none⟩)]
def r3ParseLa : List (LK × LA) := []
def r3ParsePhi : Fs := ⟨fun n d => match n with
  | 157 => .list (r3GuessF d.l)
  | 119 => .list (rRecordF d.l)
  | 115 => .list (rTextsF d.l)
  | _ => d, 147⟩
theorem r3ParseS : SmyOk true Tryd.prog r3ParsePhi r3ParseSm := (smy_cons (fun ds => lenP [(0, 1000)] ds ∧ rgeP [(1, -9223372036854775808, 9223372036854775807)] ds) r3GuessF r3Guess_pure (both_hp [(0, 1000)] [(1, -9223372036854775808, 9223372036854775807)]) (fun _ => rfl) (fun _ h => by cases h) (smy_cons (lenP [(1, 1000000)]) rRecordF rRecord_pure (len_hp [(1, 1000000)]) (fun _ => rfl) (fun _ h => by cases h) (smy_cons (lenP [(0, 1000000), (1, 1000000)]) rTextsF rTexts_pure (len_hp [(0, 1000000), (1, 1000000)]) (fun _ => rfl) (fun _ h => by cases h) smy_nil)))
theorem r3ParseT : treeOk ⟨Tryd.prog, r3ParseSm, r3ParseLa, true⟩ 4000 11 [.one (.rows false [.str]), .one (.pl (.int .i64))] [.agg [.pl (.int .i64), .rows false [.int .i64, .int .i64]], .one (.pl (.int .i64)), .one (.pl (.int .i64))] ([]) r3ParseTree = true := by decide +kernel
set_option maxHeartbeats 1000000 in
theorem r3Parse_pure : PureE true Tryd.prog 11 [.one (.rows false [.str]), .one (.pl (.int .i64))] [.agg [.pl (.int .i64), .rows false [.int .i64, .int .i64]], .one (.pl (.int .i64)), .one (.pl (.int .i64))] (fun ds => lenP [(0, 1000)] ds ∧ rgeP [(1, -9223372036854775808, 9223372036854775807)] ds) r3ParseF := by
  refine pure_tree (X := ⟨Tryd.prog, r3ParseSm, r3ParseLa, true⟩) (by decide +kernel) (Checked.mixed Tryd.checked) r3ParseS (by decide +kernel) (by decide +kernel) r3ParseT (by decide +kernel) ?_
  intro ds hl hp
  obtain ⟨d0, d1, rfl⟩ := len2 hl
  have b0 : (d0.l.length : Int) ≤ 1000 := hp.1 (0, 1000) (by simp)
  have r1 : -9223372036854775808 ≤ d1.i ∧ d1.i ≤ 9223372036854775807 := hp.2 (1, -9223372036854775808, 9223372036854775807) (by simp)
  have hF : r3ParseF [d0, d1] = r3ParseE (d0.l.map DV.s) d1.i := rfl
  rw [hF]
  clear hF hp hl
  have hN : nrmL (clsOf [.one (.rows false [.str]), .one (.pl (.int .i64))]) [d0, d1] = [.list ((d0.l.map DV.s).map DV.str), .int d1.i] := by
    simp only [clsOf, Sh.cls, List.append_nil, List.cons_append, List.nil_append, nrmL, Cl.nrm, CK.nrm, map_Ls]
  rw [hN]
  clear hN
  rw [← List.length_map (f := DV.s)] at b0
  generalize d0.l.map DV.s = x0 at b0 ⊢
  generalize d1.i = x1 at r1 ⊢
  refine ⟨facts_nil _, ?_⟩
  unfold r3ParseTree r3ParseE
  simp only [Sat, clsOf, Sh.cls, List.append_nil, List.cons_append, List.nil_append, nrmL, Cl.nrm, CK.nrm, List.map_cons, List.map_nil]
  try simp only [q_le, q_eq, q_not, iff_true, iff_false, Bool.not_true, Bool.not_false, Bool.false_eq_true, eq_self]
  simp only [SE.den, evU, ev_add, ev_sub, ev_idx, ev_cons, ev_take, ev_drop, i_int, b_bool, l_list, envL, List.getElem?_cons_succ, List.getElem?_cons_zero, Option.getD_some, Int.toNat_zero, Int.reduceToNat, List.length_map, Int.zero_add, rows_ii, rows_ii, r3ParsePhi, r3GuessF, r3GuessE, rRecordF, rRecordE, rTextsF, rTextsE, gi, gLs, dece_s, gLii, deces_ii, Int.zero_add, nrm_parse4, guessD]
  obtain ⟨g1, g2⟩ := guess3_len x0 x1
  unfold parse3
  generalize hg : guess3 x0 x1 = g at *
  obtain ⟨⟨v, w⟩, m⟩ := g
  simp only at g1 g2
  simp only [dece_s, take_Ls, drop_Ls]
  generalize record3 v w = r at *
  have hP : ∀ (h : m = 0 ∨ r.length = 0 ∨ (r.length : Int) ≠ m ∨ ¬ m ≤ x0.length - x1), parse3G x0 x1 ((v, w), m) r = none := fun h => if_pos h
  refine ⟨b0, r1.1, r1.2, by omega, fun h => by rw [hP (.inl h)]; rfl, fun h0 => ⟨fun h => by rw [hP (.inr (.inl (by omega)))]; rfl, fun h1 => ⟨fun h => by rw [hP (.inr (.inr (.inl h)))]; rfl, fun h2 => ?_⟩⟩⟩
  obtain ⟨a0, a1, m1, m2⟩ := g2 h0
  have w1 : IntKind.i64.wrap ((x0.length : Int) - x1) = x0.length - x1 := w64 (by omega) (by omega)
  have w2 : IntKind.i64.wrap (x1 + m) = x1 + m := w64 (by omega) (by omega)
  have e1 : (x1 + m - x1).toNat = m.toNat := by omega
  simp only [w1, w2, e1]
  refine ⟨fun h => by rw [hP (.inr (.inr (.inr h)))]; rfl, fun h3 => ⟨by omega, by omega, a0, by omega, by omega, by rw [List.length_map, List.length_take, List.length_drop]; omega, fun h => ?_, fun h => ?_⟩⟩
  · have : parse3G x0 x1 ((v, w), m) r = none := by
      unfold parse3G
      rw [if_neg (by simp only; omega), if_neg (of_decide_eq_false h)]
    rw [this]; rfl
  · have : parse3G x0 x1 ((v, w), m) r = some ((v, w), m.toNat) := by
      unfold parse3G
      rw [if_neg (by simp only; omega), if_pos (of_decide_eq_true h)]
    rw [this]
    simp only [parse4]
    have : ((m.toNat : Nat) : Int) = m := by omega
    rw [this]
end Go.Proofs.YtkfjgggiopegbaaDoor
end
section
namespace Go.Proofs.YtkfjgggiopegbaaDoor
set_option linter.unusedVariables false
set_option linter.unusedSimpArgs false
theorem acc_grp : ∀ (f : Nat) (u : Int), 0 ≤ u → u < 18446744073709551616 → u < 128 ^ (f + 1) → acc3 (grpM f u) = u
  | 0, u, h0, h1, h2 => by
    have e : (128 : Int) ^ (0 + 1) = 128 := rfl
    rw [e] at h2
    show step3 u 0 = u
    unfold step3
    rw [Int.tmod_eq_emod_of_nonneg h0, u64_wrap (u % 128) (by omega) (by omega), show (128 : Int) * 0 = 0 from rfl, u64_wrap 0 (by omega) (by omega), u64_wrap _ (by omega) (by omega)]
    omega
  | f + 1, u, h0, h1, h2 => by
    unfold grpM
    by_cases hu : u < 128
    · rw [if_pos hu]
      show step3 u 0 = u
      unfold step3
      rw [Int.tmod_eq_emod_of_nonneg h0, u64_wrap (u % 128) (by omega) (by omega), show (128 : Int) * 0 = 0 from rfl, u64_wrap 0 (by omega) (by omega), u64_wrap _ (by omega) (by omega)]
      omega
    · rw [if_neg hu]
      have e : (128 : Int) ^ (f + 1 + 1) = 128 ^ (f + 1) * 128 := by rw [Int.pow_succ]
      rw [e] at h2
      have ih := acc_grp f (u / 128) (by omega) (by omega) (Int.ediv_lt_of_lt_mul (by omega) h2)
      show step3 (u % 128 + 128) (acc3 (grpM f (u / 128))) = u
      rw [ih]
      unfold step3
      rw [Int.tmod_eq_emod_of_nonneg (by omega), u64_wrap ((u % 128 + 128) % 128) (by omega) (by omega), u64_wrap (128 * (u / 128)) (by omega) (by omega), u64_wrap _ (by omega) (by omega)]
      omega
theorem grp_at : ∀ (f : Nat) (u : Int), 0 ≤ u → u < 128 ^ (f + 1) → (∀ j, j + 1 < (grpM f u).length → 128 ≤ (grpM f u)[j]?.getD 0) ∧ (grpM f u)[(grpM f u).length - 1]?.getD 0 < 128
  | 0, u, h0, h2 => by
    have e : (128 : Int) ^ (0 + 1) = 128 := rfl
    rw [e] at h2
    refine ⟨fun j hj => ?_, h2⟩
    simp [grpM] at hj
  | f + 1, u, h0, h2 => by
    unfold grpM
    by_cases hu : u < 128
    · rw [if_pos hu]
      refine ⟨fun j hj => ?_, hu⟩
      simp at hj
    · rw [if_neg hu]
      have e : (128 : Int) ^ (f + 1 + 1) = 128 ^ (f + 1) * 128 := by rw [Int.pow_succ]
      rw [e] at h2
      obtain ⟨i1, i2⟩ := grp_at f (u / 128) (by omega) (Int.ediv_lt_of_lt_mul (by omega) h2)
      have hl := (grp_len f (u / 128)).1
      refine ⟨fun j hj => ?_, ?_⟩
      · cases j with
        | zero => show 128 ≤ u % 128 + 128; omega
        | succ j => exact i1 j (by simpa using hj)
      · rw [List.length_cons, show (grpM f (u / 128)).length + 1 - 1 = (grpM f (u / 128)).length - 1 + 1 by omega]
        exact i2
theorem num_zig {n : Int} (h0 : -9223372036854775808 ≤ n) (h1 : n ≤ 9223372036854775807) : num3 (zigM n) = n := by
  obtain ⟨z0, z1⟩ := zig_rge h0 h1
  have hz := unzig_zig n
  unfold unzigM at hz
  unfold num3
  generalize zigM n = u at *
  rw [Int.tmod_eq_emod_of_nonneg z0, Int.tdiv_eq_ediv_of_nonneg z0, u64_wrap (u / 2) (by omega) (by omega), w64 (n := u / 2) (by omega) (by omega)]
  by_cases hu : u % 2 = 1
  · rw [if_pos hu, w64 (n := 0 - u / 2) (by omega) (by omega), w64 (by omega) (by omega)]
    rw [if_neg (by omega)] at hz
    omega
  · rw [if_neg hu]
    rw [if_pos (by omega)] at hz
    exact hz
theorem num3_rge (u : Int) : -9223372036854775808 ≤ num3 u ∧ num3 u ≤ 9223372036854775807 := by
  unfold num3
  split <;> (rw [w64_eq]; omega)
theorem pow10 : (128 : Int) ^ (9 + 1) = 1180591620717411303424 := by decide
theorem get3_eq {b : List Int} (hb : ∀ x ∈ b, 0 ≤ x ∧ x ≤ 255) : get3 b = getM b := by
  cases hg : getM b with
  | none =>
    cases h3 : get3 b with
    | none => rfl
    | some p =>
      exfalso
      obtain ⟨n, k⟩ := p
      unfold get3 at h3
      split at h3
      · cases h3
      · split at h3
        · rename_i hp
          obtain ⟨r0, r1⟩ := num3_rge (acc3 (b.take (lead3 b + 1)))
          rw [put3_eq r0 r1, putR_eq r0 r1] at hp
          have := get_put r0 r1 (b.drop (lead3 b + 1))
          rw [hp, List.take_append_drop, hg] at this
          cases this
        · cases h3
  | some p =>
    obtain ⟨n, m⟩ := p
    obtain ⟨h0, h1, hm, hml, ht⟩ := getM_canon hb hg
    obtain ⟨z0, z1⟩ := zig_rge h0 h1
    have hpl := put_len n
    have hlen : (putM n).length = m := by rw [← ht, List.length_take]; omega
    have hat : ∀ j, j < m → (putM n)[j]?.getD 0 = b[j]?.getD 0 := fun j hj => by rw [← ht, List.getElem?_take, if_pos hj]
    obtain ⟨g1, g2⟩ := grp_at 9 (zigM n) z0 (by rw [pow10]; omega)
    have e : grpM 9 (zigM n) = putM n := rfl
    rw [e, hlen] at g1 g2
    have hl : lead3 b = m - 1 := lead3_eq (by omega) (by omega) (fun j hj => by rw [← hat j (by omega)]; exact g1 j (by omega)) (by
      right; right
      rw [← hat (m - 1) (by omega)]
      omega)
    have ha : acc3 (putM n) = zigM n := acc_grp 9 (zigM n) z0 z1 (by rw [pow10]; omega)
    unfold get3
    rw [hl, show m - 1 + 1 = m by omega, ht, ha, num_zig h0 h1, put3_eq h0 h1, putR_eq h0 h1, if_neg (by omega), if_pos rfl]
theorem gn3_eq : ∀ (m : Nat) (b : List Int) (a : Nat) (acc : List Int), (∀ x ∈ b, 0 ≤ x ∧ x ≤ 255) → gn3 m b a acc = gnG m b a acc
  | 0, _, _, _, _ => rfl
  | m + 1, b, a, acc, hb => by
    rw [gn3_succ, gnG, get3_eq hb]
    cases getM b with
    | none => rfl
    | some p => exact gn3_eq m _ _ _ fun x hx => hb x (List.mem_of_mem_drop hx)
theorem gn3_cnt : ∀ (m : Nat) (b : List Int) (a : Nat) (acc l : List Int) (u : Nat), gn3 m b a acc = some (l, u) → m ≤ b.length
  | 0, b, a, acc, l, u, h => Nat.zero_le _
  | m + 1, b, a, acc, l, u, h => by
    rw [gn3_succ] at h
    cases hg : get3 b with
    | none => rw [hg] at h; cases h
    | some p =>
      rw [hg] at h
      obtain ⟨n, k⟩ := p
      obtain ⟨k0, k1⟩ := get3_len hg
      have := gn3_cnt m _ _ _ _ _ h
      simp only [List.length_drop] at this
      omega
theorem getNums3_eq {b : List Int} (hb : ∀ x ∈ b, 0 ≤ x ∧ x ≤ 255) : getNums3 b = getNumsM b := by
  unfold getNums3 getNumsM
  rw [get3_eq hb]
  cases hg : getM b with
  | none => rfl
  | some p =>
    obtain ⟨n, k⟩ := p
    simp only
    by_cases hn : n < 0
    · rw [if_pos hn, if_pos (.inl hn)]
    · rw [if_neg hn]
      by_cases hl : (b.length : Int) < n
      · rw [if_pos (.inr hl)]
        cases h3 : gn3 n.toNat (b.drop k) k [] with
        | none => rfl
        | some q =>
          obtain ⟨l, u⟩ := q
          have := gn3_cnt _ _ _ _ _ _ h3
          rw [List.length_drop] at this
          omega
      · rw [if_neg (by omega), gn3_eq _ _ _ _ fun x hx => hb x (List.mem_of_mem_drop hx)]
theorem load_sects3 : ∀ (n : Nat) (b : List UInt8), b.length = 27 * n → load3 (sectsM n b) = b
  | 0, b, h => by
    have : b = [] := List.eq_nil_of_length_eq_zero (by omega)
    rw [this]; rfl
  | n + 1, b, h => by
    have h27 : (b.take 27).length = 27 := by rw [List.length_take]; omega
    have ih := load_sects3 n (b.drop 27) (by rw [List.length_drop]; omega)
    show pay3 (sectorM n (b.take 27)) ++ load3 (sectsM n (b.drop 27)) = b
    rw [ih]
    unfold pay3
    rw [if_pos (by rw [sector_len, h27]), sector_body h27, List.take_append_drop]
theorem nums_body {v : Int} {w : List Tii} (hv : validM v w = true) (hw : rgeW w) : getNumsM (bytesN (bodyM v w)) = some (v :: flatW w, (numsM (v :: flatW w)).length) := by
  obtain ⟨e, l65, hr, h660, h0⟩ := nums_entry hv hw
  have hb := nums_rge (l := v :: flatW w) (by omega) hr
  unfold bodyM padM
  rw [e, bytes_app, bytes_str hb, getNums_nums _ (by omega) hr]
theorem parse3_eq (l : List (List UInt8)) (a : Int) : parse3 l a = parseM l a := by
  cases hm : parseM l a with
  | some q =>
    obtain ⟨⟨v, w⟩, n⟩ := q
    obtain ⟨c1, c2, c3, c4, c5, c6, c7⟩ := parse_canon hm
    simp only at c1 c2 c7
    obtain ⟨h1, h2, h3⟩ := body_len c1 c2
    have hrl := record_len c1
    have hR : recordM v w = sectsM ((bodyM v w).length / 27) (bodyM v w) := by unfold recordM; rw [if_pos c1]
    have hn : n = (recordM v w).length := by rw [c7, List.length_take, List.length_drop]; omega
    have h32 : (l[a.toNat]?.getD []).length = 32 := by
      have h0 : (recordM v w)[0]? = l[a.toNat]? := by
        rw [c7, List.getElem?_take, if_pos (by omega), List.getElem?_drop, Nat.add_zero]
      rw [← h0, List.getElem?_eq_getElem (by omega)]
      exact record_secs c1 c2 _ (List.getElem_mem _)
    have hg : guess3 l a = ((v, w), (n : Int)) := by
      unfold guess3
      rw [if_pos ⟨c3, by omega, h32⟩, ← c6, ← c7]
      rw [show load3 (recordM v w) = bodyM v w by rw [hR]; exact load_sects3 _ _ h1]
      rw [getNums3_eq (bytes_rge _), nums_body c1 c2]
      unfold guessN
      simp only
      rw [if_neg (by simp)]
      show ((v, pairsM (flatW w)), (n : Int)) = _
      rw [pairs_flat]
    unfold parse3
    rw [hg]
    simp only
    rw [record3_eq c2]
    unfold parse3G
    rw [if_neg (by simp only; omega)]
    simp only [Int.toNat_natCast]
    rw [if_pos c7]
  | none =>
    cases h3 : parse3 l a with
    | none => rfl
    | some q =>
      exfalso
      unfold parse3 parse3G at h3
      obtain ⟨_, hgl⟩ := guess3_len l a
      have hgv : (guess3 l a).2 ≠ 0 → rgeW (guess3 l a).1.2 := by
        unfold guess3
        split
        · rename_i hc
          cases hn : getNums3 (bytesN (load3 ((l.drop a.toNat).take (manyM l a.toNat)))) with
          | none => exact fun h => absurd rfl h
          | some p =>
            rw [getNums3_eq (bytes_rge _)] at hn
            obtain ⟨n, u⟩ := p
            obtain ⟨hr, _⟩ := getNums_canon (bytes_rge _) hn
            unfold guessN
            simp only
            split
            · exact fun h => absurd rfl h
            · exact fun _ => pairs_rge _ (n.drop 1) (Nat.le_refl _) fun x hx => hr x (List.mem_of_mem_drop hx)
        · exact fun h => absurd rfl h
      generalize guess3 l a = g at *
      obtain ⟨⟨v, w⟩, m⟩ := g
      simp only at h3 hgl hgv
      split at h3
      · cases h3
      · rename_i hc
        split at h3
        · rename_i hr
          obtain ⟨a0, a1, m1, m2⟩ := hgl (by omega)
          have hw := hgv (by omega)
          rw [record3_eq hw] at hr hc
          have hv : validM v w = true := by
            cases hv : validM v w with
            | true => rfl
            | false =>
              have : recordM v w = [] := by unfold recordM; rw [if_neg (by simp [hv])]
              rw [this] at hc
              simp at hc
          have hl : l = l.take a.toNat ++ recordM v w ++ (l.drop a.toNat).drop m.toNat := by
            rw [hr, List.append_assoc, List.take_append_drop, List.take_append_drop]
          have hp := parse_record hv hw (l.take a.toNat) ((l.drop a.toNat).drop m.toNat)
          rw [← hl, List.length_take, show ((min a.toNat l.length : Nat) : Int) = a by omega, hm] at hp
          cases hp
        · cases h3
end Go.Proofs.YtkfjgggiopegbaaDoor
end
section
namespace Go.Proofs.YtkfjgggiopegbaaDoor
set_option linter.unusedVariables false
set_option linter.unusedSimpArgs false
set_option maxRecDepth 100000
def r3RecoverE (l : List (List UInt8)) : List DV := [.list ((recoverM l).1.map encEn), .int (recoverM l).2]
def r3RecoverF (ds : List DV) : List DV := r3RecoverE (gLs ds 0)
def r3RecoverTree : PT :=
(.loop 1 [.nil, (.int 0), (.int 0)]
 (.br (.bin .le (.var 2) (.un .len (.var 0)))
  (.asrt (.bin .le (.un .len (.var 0)) (.int 1000))
   (.asrt (.bin .le (.int (-9223372036854775808)) (.var 2))
    (.br (.un .not (.bin .eq (.bin .idx (.fn 158 (.bin .cons (.var 0) (.bin .cons (.var 2) .nil))) (.int 3)) (.int 0)))
     .fail
     (.br (.bin .le (.bin .idx (.fn 158 (.bin .cons (.var 0) (.bin .cons (.var 2) .nil))) (.int 0)) (.var 3))
      .fail
      (.asrt (.bin .le (.bin .add (.un .len (.var 1)) (.int 1)) (.int 4294967296))
       (.leaf [(.bin .snoc (.var 1) (.bin .cons (.bin .idx (.fn 158 (.bin .cons (.var 0) (.bin .cons (.var 2) .nil))) (.int 0)) (.bin .cons (.bin .idx (.fn 158 (.bin .cons (.var 0) (.bin .cons (.var 2) .nil))) (.int 1)) .nil))), (.un (.wrap .i64) (.bin .add (.var 2) (.bin .idx (.fn 158 (.bin .cons (.var 0) (.bin .cons (.var 2) .nil))) (.int 2)))), (.bin .idx (.fn 158 (.bin .cons (.var 0) (.bin .cons (.var 2) .nil))) (.int 0))]))))))
  .fail)
 (.br (.bin .le (.var 2) (.un .len (.var 0)))
  (.asrt (.bin .le (.un .len (.var 0)) (.int 1000))
   (.asrt (.bin .le (.int (-9223372036854775808)) (.var 2))
    (.br (.un .not (.bin .eq (.bin .idx (.fn 158 (.bin .cons (.var 0) (.bin .cons (.var 2) .nil))) (.int 3)) (.int 0)))
     (.leaf [(.var 1), (.var 2)])
     (.br (.bin .le (.bin .idx (.fn 158 (.bin .cons (.var 0) (.bin .cons (.var 2) .nil))) (.int 0)) (.var 3))
      (.leaf [(.var 1), (.var 2)])
      (.asrt (.bin .le (.bin .add (.un .len (.var 1)) (.int 1)) (.int 4294967296))
       .fail)))))
  (.leaf [(.var 1), (.var 2)])))
def r3RecoverSm : List (Nat × Smy) := [(11, ⟨158, [.one (.rows false [.str]), .one (.pl (.int .i64))], [.agg [.pl (.int .i64), .rows false [.int .i64, .int .i64]], .one (.pl (.int .i64)), .one (.pl (.int .i64))], fun es => lenC [(0, 1000)] es ++ rgeC [(1, -9223372036854775808, 9223372036854775807)] es, none⟩)]
def r3RecoverLa : List (LK × LA) := [(⟨40, 4, 1, 1, 0⟩, ⟨[(4, (.sl 1 2 (.int 0) (.un .len (.var 1)) none)), (5, (.int .i64 (.var 2))), (6, (.int .i64 (.var 3))), (7, .any), (8, .any), (9, .any), (10, .any), (11, .any), (12, .any), (13, .any), (14, .any), (15, .any), (16, .any), (17, .any), (18, .any), (19, .any), (20, .any), (21, .any), (22, .any), (23, .any), (24, .any), (25, .any), (26, .any), (27, .any), (28, .any), (29, .any), (30, .any), (31, .any), (32, .any), (33, .any), (34, .any), (35, .any), (36, .any), (37, .any)], [(1, (.nrows [.pl (.int .i64), .sub [.int .i64, .int .i64]] (.var 1)))], [], 3, 1⟩)]
def r3RecoverPhi : Fs := ⟨fun n d => match n with
  | 158 => .list (r3ParseF d.l)
  | _ => d, 147⟩
theorem r3RecoverS : SmyOk true Tryd.prog r3RecoverPhi r3RecoverSm := (smy_cons (fun ds => lenP [(0, 1000)] ds ∧ rgeP [(1, -9223372036854775808, 9223372036854775807)] ds) r3ParseF r3Parse_pure (both_hp [(0, 1000)] [(1, -9223372036854775808, 9223372036854775807)]) (fun _ => rfl) (fun _ h => by cases h) smy_nil)
theorem r3RecoverT : treeOk ⟨Tryd.prog, r3RecoverSm, r3RecoverLa, true⟩ 4000 13 [.one (.rows false [.str])] [.one (.nst [.pl (.int .i64), .sub [.int .i64, .int .i64]]), .one (.pl (.int .i64))] ([]) r3RecoverTree = true := by decide +kernel
set_option maxHeartbeats 1000000 in
theorem r3Recover_pure : PureE true Tryd.prog 13 [.one (.rows false [.str])] [.one (.nst [.pl (.int .i64), .sub [.int .i64, .int .i64]]), .one (.pl (.int .i64))] (lenP [(0, 1000)]) r3RecoverF := by
  refine pure_tree (X := ⟨Tryd.prog, r3RecoverSm, r3RecoverLa, true⟩) (by decide +kernel) (Checked.mixed Tryd.checked) r3RecoverS (by decide +kernel) (by decide +kernel) r3RecoverT (by decide +kernel) ?_
  intro ds hl hp
  obtain ⟨d0, rfl⟩ := len1 hl
  have b0 : (d0.l.length : Int) ≤ 1000 := hp (0, 1000) (by simp)
  have hF : r3RecoverF [d0] = r3RecoverE (d0.l.map DV.s) := rfl
  rw [hF]
  clear hF hp hl
  have hN : nrmL (clsOf [.one (.rows false [.str])]) [d0] = [.list ((d0.l.map DV.s).map DV.str)] := by
    simp only [clsOf, Sh.cls, List.append_nil, nrmL, Cl.nrm, map_Ls]
  rw [hN]
  clear hN
  rw [← List.length_map (f := DV.s)] at b0
  generalize d0.l.map DV.s = x0 at b0 ⊢
  refine ⟨facts_nil _, ?_⟩
  unfold r3RecoverTree r3RecoverE
  simp only [Sat, clsOf, Sh.cls, List.append_nil, List.cons_append, List.nil_append, nrmL, Cl.nrm, CK.nrm, List.map_cons, List.map_nil, List.length_cons, List.length_nil, List.cons.injEq, DV.int.injEq, DV.list.injEq, and_true, true_and]
  try simp only [q_le, q_eq, q_not, iff_true, iff_false, Bool.not_true, Bool.not_false, Bool.false_eq_true, eq_self]
  simp only [SE.den, evU, ev_add, ev_idx, ev_cons, ev_snoc, i_int, l_list, envL, List.getElem?_cons_succ, List.getElem?_cons_zero, Option.getD_some, Int.toNat_zero, Int.reduceToNat, List.length_map, rows_En, rows_En, r3RecoverPhi, r3ParseF, r3ParseE, gi, gLs, dece_s, parse3_eq]
  refine rounds_inv (fun y => ∃ (acc : List TEn) (a last : Int) (n : Nat), y = [DV.list (acc.map encEn), DV.int a, DV.int last] ∧ 0 ≤ a ∧ a ≤ x0.length ∧ (acc.length : Int) ≤ a ∧ (x0.length : Int) - a < n ∧ acc ++ (recM x0 n a last).1 = (recoverM x0).1 ∧ (recM x0 n a last).2 = (recoverM x0).2) (fun y => ((x0.length : Int) - (((y[1]?).getD (DV.int 0)).i)).toNat) ⟨[], 0, 0, x0.length + 1, rfl, by omega, by omega, by simp, by omega, rfl, rfl⟩ ?_
  rintro y ⟨acc, a, last, n, rfl, h0, h1, h2, h3, h4, h5⟩
  cases n with
  | zero => omega
  | succ n =>
  cases hp : parseM x0 a with
  | none =>
    rw [recM_none hp] at h4 h5
    left
    simp only [i_int, l_list, List.getElem?_cons_succ, List.getElem?_cons_zero, Option.getD_some, List.length_map, rows_En, inj_LEn, rows_En, inj_LEn, hp, parse4]
    exact ⟨fun _ => ⟨b0, by omega, fun _ => ⟨by simpa using h4, h5⟩, fun h => absurd h (by omega)⟩, fun h => absurd h1 h⟩
  | some r =>
    by_cases hr : r.1.1 ≤ last
    · rw [recM_old hp hr] at h4 h5
      left
      simp only [i_int, l_list, List.getElem?_cons_succ, List.getElem?_cons_zero, Option.getD_some, List.length_map, eq_self, not_true_eq_false, rows_En, inj_LEn, rows_En, inj_LEn, hp, parse4]
      exact ⟨fun _ => ⟨b0, by omega, fun h => h.elim, fun _ => ⟨fun _ => ⟨by simpa using h4, h5⟩, fun h => absurd hr h⟩⟩, fun h => absurd h1 h⟩
    · rw [recM_some hp hr] at h4 h5
      obtain ⟨_, _, _, c4, c5, _, _⟩ := parse_canon (e := r.1) (n := r.2) hp
      have hw : IntKind.i64.wrap (a + (r.2 : Int)) = a + r.2 := w64 (by omega) (by omega)
      right
      simp only [i_int, l_list, List.getElem?_cons_succ, List.getElem?_cons_zero, Option.getD_some, List.length_map, eq_self, not_true_eq_false, hp, parse4, hw]
      refine ⟨_, ⟨fun _ => ⟨b0, by omega, fun h => h, fun _ => ⟨fun h => absurd h hr, fun _ => ⟨by omega, rfl⟩⟩⟩, fun h => absurd h1 h⟩, rfl, ⟨acc ++ [r.1], a + r.2, r.1.1, n, ?_, by omega, by omega, by simp only [List.length_append, List.length_cons, List.length_nil]; omega, by omega, ?_, h5⟩, ?_⟩
      · rw [List.map_append]; rfl
      · rw [List.append_assoc]; exact h4
      · show ((x0.length : Int) - (a + r.2)).toNat < _
        omega
end Go.Proofs.YtkfjgggiopegbaaDoor
end
