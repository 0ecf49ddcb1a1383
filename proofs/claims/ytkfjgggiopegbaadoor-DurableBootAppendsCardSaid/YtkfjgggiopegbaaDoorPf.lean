/- DurableBootAppends: the law returns true for every input, and each argument reads afterwards as it read before. No condition. -/
import Derived.Shelf.Strings.Repeat
import Derived.Test.YtkfjgggiopegbaaDoorTie
import Derived.Test.YtkfjgggiopegbaaDoorCards
import Derived.Lay
import Derived.SevenTiedAt
import Derived.Test.YtkfjgggiopegbaaDoorPe
section
namespace Go.Proofs.YtkfjgggiopegbaaDoor
set_option linter.unusedVariables false
set_option linter.unusedSimpArgs false
set_option maxRecDepth 100000
def lSane25E : List DV := [.bool true]
def lSane25F (ds : List DV) : List DV := lSane25E
def lSane25Tree : PT :=
(.leaf [(.bool true)])
def lSane25Sm : List (Nat × Smy) := [(32, ⟨131, [.agg [.rows false [.int .i64]], .agg [.rows false [.str], .rows false [.int .i64, .str]], .agg [.pl (.int .i64), .pl (.int .i64), .pl (.int .i64), .pl (.int .i64), .pl .str]], [.agg [.rows false [.int .i64]], .agg [.rows false [.str], .rows false [.int .i64, .str]], .agg [.pl (.int .i64), .pl .bool], .one (.pl (.int .i64))], lenC [(0, 1000000), (1, 1000000), (2, 1000000)], some uDoF⟩), (27, ⟨4, [.agg [.rows false [.int .i64]], .agg [.rows false [.int .i64]]], [.one (.pl .bool)], lenC [(0, 1000000), (1, 1000000)], some rSameF⟩), (10, ⟨105, [.one (.rows false [.str]), .one (.pl (.int .i64))], [.agg [.pl (.int .i64), .rows true [.int .i64, .int .i64]], .one (.pl (.int .i64)), .one (.pl (.int .i64))], lenC [(0, 1000)], some wParseF⟩), (30, ⟨74, [.one (.pl (.int .i64))], [.agg [.rows false [.str], .rows false [.int .i64, .str]], .one (.pl (.int .i64))], fun _ => [], some rDNewF⟩), (52, ⟨8, [.agg [.rows false [.int .i64]], .one (.rows false [.int .i64, .int .i64, .int .i64, .int .i64, .str])], [.agg [.rows false [.int .i64]], .one (.rows true [.int .i64, .bool]), .one (.pl (.int .i64))], lenC [(0, 1000000), (1, 1000000)], some memAllF⟩), (53, ⟨27, [.agg [.pl (.int .i64), .pl (.int .i64), .pl (.int .i64), .pl (.int .i64), .pl (.int .i64), .pl (.int .i64), .pl (.int .i64), .pl (.int .i64), .pl (.int .i64), .pl (.int .i64), .pl (.int .i64), .pl (.int .i64), .pl (.int .i64)], .one (.rows false [.int .i64])], [.one (.rows true [.int .i64, .int .i64, .int .i64, .int .i64, .str])], fun es => lenC [(13, 1000000)] es ++ rgeC [(1, 0, 1000)] es, some layInitF⟩), (28, ⟨128, [.agg [.pl (.int .i64), .pl (.int .i64), .pl (.int .i64), .pl (.int .i64), .pl (.int .i64)]], [.agg [.pl (.int .i64), .pl (.int .i64), .pl (.int .i64), .pl (.int .i64), .pl (.int .i64), .pl (.int .i64), .pl (.int .i64), .pl (.int .i64), .pl (.int .i64), .pl (.int .i64), .pl (.int .i64), .pl (.int .i64), .pl (.int .i64)], .one (.pl (.int .i64))], fun _ => [], some rOfMF⟩), (33, ⟨24, [.agg [.rows false [.int .i64]], .one (.pl (.int .i64))], [.one (.pl (.int .i64))], fun _ => [], some rCellF⟩), (34, ⟨32, [.agg [.pl (.int .i64), .pl (.int .i64), .pl (.int .i64), .pl (.int .i64), .pl (.int .i64), .pl (.int .i64), .pl (.int .i64), .pl (.int .i64), .pl (.int .i64), .pl (.int .i64), .pl (.int .i64), .pl (.int .i64), .pl (.int .i64)], .one (.pl (.int .i64))], [.one (.pl (.int .i64))], fun _ => [], some rValF⟩), (35, ⟨31, [.agg [.pl (.int .i64), .pl (.int .i64), .pl (.int .i64), .pl (.int .i64), .pl (.int .i64), .pl (.int .i64), .pl (.int .i64), .pl (.int .i64), .pl (.int .i64), .pl (.int .i64), .pl (.int .i64), .pl (.int .i64), .pl (.int .i64)], .one (.pl (.int .i64))], [.one (.pl (.int .i64))], fun _ => [], some rWordF⟩), (74, ⟨116, [.one (.pl .str)], [.one (.pl (.int .i64))], fun es => (fun _ => []) es ++ slenC [(0, 0, 1000000)] es, some rSum23F⟩), (73, ⟨118, [.one (.rows false [.int .i64])], [.one (.rows true [.int .u8])], lenC [(0, 1000)], some r3NumsF⟩), (72, ⟨114, [.agg [.pl (.int .i64), .rows false [.int .i64, .int .i64]]], [.one (.pl .bool)], lenC [(1, 9223372036854775807)], some rValidF⟩)]
def lSane25La : List (LK × LA) := []
def lSane25Phi : Fs := ⟨fun n d => match n with
  | 131 => .list (uDoF d.l)
  | 4 => .list (rSameF d.l)
  | 105 => .list (wParseF d.l)
  | 74 => .list (rDNewF d.l)
  | 8 => .list (memAllF d.l)
  | 27 => .list (layInitF d.l)
  | 128 => .list (rOfMF d.l)
  | 24 => .list (rCellF d.l)
  | 32 => .list (rValF d.l)
  | 31 => .list (rWordF d.l)
  | 116 => .list (rSum23F d.l)
  | 118 => .list (r3NumsF d.l)
  | 114 => .list (rValidF d.l)
  | _ => d, 147⟩
theorem lSane25S : SmyOk true Tryd.prog lSane25Phi lSane25Sm := (smy_cons (lenP [(0, 1000000), (1, 1000000), (2, 1000000)]) uDoF uDo_pure (len_hp [(0, 1000000), (1, 1000000), (2, 1000000)]) (fun _ => rfl) (fun _ h => by cases h; rfl) (smy_cons (lenP [(0, 1000000), (1, 1000000)]) rSameF rSame_pure (len_hp [(0, 1000000), (1, 1000000)]) (fun _ => rfl) (fun _ h => by cases h; rfl) (smy_cons (lenP [(0, 1000)]) wParseF wParse_pure (len_hp [(0, 1000)]) (fun _ => rfl) (fun _ h => by cases h; rfl) (smy_cons (fun _ => True) rDNewF rDNew_pure (fun _ _ _ _ => trivial) (fun _ => rfl) (fun _ h => by cases h; rfl) (smy_cons (lenP [(0, 1000000), (1, 1000000)]) memAllF memAll_pure (len_hp [(0, 1000000), (1, 1000000)]) (fun _ => rfl) (fun _ h => by cases h; rfl) (smy_cons (fun ds => lenP [(13, 1000000)] ds ∧ rgeP [(1, 0, 1000)] ds) layInitF layInit_pure (both_hp [(13, 1000000)] [(1, 0, 1000)]) (fun _ => rfl) (fun _ h => by cases h; rfl) (smy_cons (fun _ => True) rOfMF rOfM_pure (fun _ _ _ _ => trivial) (fun _ => rfl) (fun _ h => by cases h; rfl) (smy_cons (fun _ => True) rCellF rCell_pure (fun _ _ _ _ => trivial) (fun _ => rfl) (fun _ h => by cases h; rfl) (smy_cons (fun _ => True) rValF rVal_pure (fun _ _ _ _ => trivial) (fun _ => rfl) (fun _ h => by cases h; rfl) (smy_cons (fun _ => True) rWordF rWord_pure (fun _ _ _ _ => trivial) (fun _ => rfl) (fun _ h => by cases h; rfl) (smy_cons (fun ds => (fun _ => True) ds ∧ slenP [(0, 0, 1000000)] ds) rSum23F rSum23_pure (slen_hp (C := fun _ => []) (Q := fun _ => True) [(0, 0, 1000000)] (fun _ _ _ _ => trivial)) (fun _ => rfl) (fun _ h => by cases h; rfl) (smy_cons (lenP [(0, 1000)]) r3NumsF r3Nums_pure (len_hp [(0, 1000)]) (fun _ => rfl) (fun _ h => by cases h; rfl) (smy_cons (lenP [(1, 9223372036854775807)]) rValidF rValid_pure (len_hp [(1, 9223372036854775807)]) (fun _ => rfl) (fun _ h => by cases h; rfl) smy_nil)))))))))))))
theorem lSane25T : treeOk ⟨Tryd.prog, lSane25Sm, lSane25La, true⟩ 4000 19 [] [.one (.pl .bool)] ([]) lSane25Tree = true := by decide +kernel
set_option maxHeartbeats 1000000 in
theorem lSane25_pure : PureE true Tryd.prog 19 [] [.one (.pl .bool)] (fun _ => True) lSane25F := by
  refine pure_tree (X := ⟨Tryd.prog, lSane25Sm, lSane25La, true⟩) (by decide +kernel) (Checked.mixed Tryd.checked) lSane25S (by decide +kernel) (by decide +kernel) lSane25T (by decide +kernel) ?_
  intro ds hl hp
  obtain rfl := len0 hl
  have hF : lSane25F [] = lSane25E  := rfl
  rw [hF]
  clear hF hp hl
  have hN : nrmL (clsOf []) [] = [] := by
    simp only [clsOf, nrmL]
  rw [hN]
  clear hN
  refine ⟨facts_nil _, ?_⟩
  unfold lSane25Tree
  simp only [Sat, clsOf, Sh.cls, List.append_nil, nrmL, Cl.nrm, CK.nrm, List.map_cons, List.map_nil, List.cons.injEq, DV.bool.injEq, and_true, lSane25E]
  all_goals try simp only [q_bool]
  all_goals try simp only [b_bool, eq_self]
  all_goals try rfl
end Go.Proofs.YtkfjgggiopegbaaDoor
end
section
namespace Go.Proofs.YtkfjgggiopegbaaDoor
set_option linter.unusedVariables false
set_option linter.unusedSimpArgs false
set_option maxRecDepth 100000
def bitU (b d : Int) : Bool := decide ((IntKind.u8.wrap (b.tdiv d)).tmod 2 = 1)
def entV (i b : Int) : Int := IntKind.i64.wrap (IntKind.i64.wrap (IntKind.i64.wrap (2 * i) + 1) + IntKind.i64.wrap ((IntKind.i64.wrap b).tdiv 128))
def entX (i c : Int) : Int := IntKind.i64.wrap (IntKind.i64.wrap (IntKind.i64.wrap (1000000 * i) + c) - 50)
def entW (i b : Int) : List Tii := (if bitU b 1 = true then [(0, entX i 0)] else []) ++ ((if bitU b 2 = true then [(1, entX i 7)] else []) ++ ((if bitU b 4 = true then [(2, entX i 14)] else []) ++ ((if bitU b 8 = true then [(3, entX i 21)] else []) ++ (if bitU b 16 = true then [(4, entX i 28)] else []))))
def entsN (l : List Int) (n : Nat) : List TEn := (List.range n).map fun i : Nat => (entV i (l[i]?.getD 0), entW i (l[i]?.getD 0))
def entsM (l : List Int) : List TEn := entsN l l.length
theorem ents_len (l : List Int) (n : Nat) : (entsN l n).length = n := by simp [entsN]
theorem ents_succ (l : List Int) (n : Nat) : entsN l (n + 1) = entsN l n ++ [(entV n (l[n]?.getD 0), entW n (l[n]?.getD 0))] := by
  unfold entsN
  rw [List.range_succ, List.map_append]
  rfl
def lEntE (l : List Int) : List DV := [.list ((entsM l).map encEn)]
def lEntF (ds : List DV) : List DV := lEntE (gLi ds 0)
def lEntTree : PT :=
(.loop 1 [.nil, (.int 0)]
 (.br (.un .not (.bin .le (.un .len (.var 0)) (.var 2)))
  (.asrt (.bin .le (.int 0) (.var 2))
   (.br (.bin .eq (.bin .tmod (.un (.wrap .u8) (.bin .tdiv (.bin .idx (.var 0) (.bin .add (.int 0) (.var 2))) (.int 1))) (.int 2)) (.int 1))
    (.br (.bin .eq (.bin .tmod (.un (.wrap .u8) (.bin .tdiv (.bin .idx (.var 0) (.bin .add (.int 0) (.var 2))) (.int 2))) (.int 2)) (.int 1))
     (.br (.bin .eq (.bin .tmod (.un (.wrap .u8) (.bin .tdiv (.bin .idx (.var 0) (.bin .add (.int 0) (.var 2))) (.int 4))) (.int 2)) (.int 1))
      (.br (.bin .eq (.bin .tmod (.un (.wrap .u8) (.bin .tdiv (.bin .idx (.var 0) (.bin .add (.int 0) (.var 2))) (.int 8))) (.int 2)) (.int 1))
       (.br (.bin .eq (.bin .tmod (.un (.wrap .u8) (.bin .tdiv (.bin .idx (.var 0) (.bin .add (.int 0) (.var 2))) (.int 16))) (.int 2)) (.int 1))
        (.asrt (.bin .le (.bin .add (.un .len (.var 1)) (.int 1)) (.int 4294967296))
         (.leaf [(.bin .snoc (.var 1) (.bin .cons (.un (.wrap .i64) (.bin .add (.un (.wrap .i64) (.bin .add (.un (.wrap .i64) (.bin .mul (.int 2) (.var 2))) (.int 1))) (.un (.wrap .i64) (.bin .tdiv (.un (.wrap .i64) (.bin .idx (.var 0) (.bin .add (.int 0) (.var 2)))) (.int 128))))) (.bin .cons (.bin .cons (.bin .cons (.int 0) (.bin .cons (.un (.wrap .i64) (.bin .sub (.un (.wrap .i64) (.bin .add (.un (.wrap .i64) (.bin .mul (.int 1000000) (.var 2))) (.int 0))) (.int 50))) .nil)) (.bin .cons (.bin .cons (.int 1) (.bin .cons (.un (.wrap .i64) (.bin .sub (.un (.wrap .i64) (.bin .add (.un (.wrap .i64) (.bin .mul (.int 1000000) (.var 2))) (.int 7))) (.int 50))) .nil)) (.bin .cons (.bin .cons (.int 2) (.bin .cons (.un (.wrap .i64) (.bin .sub (.un (.wrap .i64) (.bin .add (.un (.wrap .i64) (.bin .mul (.int 1000000) (.var 2))) (.int 14))) (.int 50))) .nil)) (.bin .cons (.bin .cons (.int 3) (.bin .cons (.un (.wrap .i64) (.bin .sub (.un (.wrap .i64) (.bin .add (.un (.wrap .i64) (.bin .mul (.int 1000000) (.var 2))) (.int 21))) (.int 50))) .nil)) (.bin .cons (.bin .cons (.int 4) (.bin .cons (.un (.wrap .i64) (.bin .sub (.un (.wrap .i64) (.bin .add (.un (.wrap .i64) (.bin .mul (.int 1000000) (.var 2))) (.int 28))) (.int 50))) .nil)) .nil))))) .nil))), (.un (.wrap .i64) (.bin .add (.var 2) (.int 1)))]))
        (.asrt (.bin .le (.bin .add (.un .len (.var 1)) (.int 1)) (.int 4294967296))
         (.leaf [(.bin .snoc (.var 1) (.bin .cons (.un (.wrap .i64) (.bin .add (.un (.wrap .i64) (.bin .add (.un (.wrap .i64) (.bin .mul (.int 2) (.var 2))) (.int 1))) (.un (.wrap .i64) (.bin .tdiv (.un (.wrap .i64) (.bin .idx (.var 0) (.bin .add (.int 0) (.var 2)))) (.int 128))))) (.bin .cons (.bin .cons (.bin .cons (.int 0) (.bin .cons (.un (.wrap .i64) (.bin .sub (.un (.wrap .i64) (.bin .add (.un (.wrap .i64) (.bin .mul (.int 1000000) (.var 2))) (.int 0))) (.int 50))) .nil)) (.bin .cons (.bin .cons (.int 1) (.bin .cons (.un (.wrap .i64) (.bin .sub (.un (.wrap .i64) (.bin .add (.un (.wrap .i64) (.bin .mul (.int 1000000) (.var 2))) (.int 7))) (.int 50))) .nil)) (.bin .cons (.bin .cons (.int 2) (.bin .cons (.un (.wrap .i64) (.bin .sub (.un (.wrap .i64) (.bin .add (.un (.wrap .i64) (.bin .mul (.int 1000000) (.var 2))) (.int 14))) (.int 50))) .nil)) (.bin .cons (.bin .cons (.int 3) (.bin .cons (.un (.wrap .i64) (.bin .sub (.un (.wrap .i64) (.bin .add (.un (.wrap .i64) (.bin .mul (.int 1000000) (.var 2))) (.int 21))) (.int 50))) .nil)) .nil)))) .nil))), (.un (.wrap .i64) (.bin .add (.var 2) (.int 1)))])))
       (.br (.bin .eq (.bin .tmod (.un (.wrap .u8) (.bin .tdiv (.bin .idx (.var 0) (.bin .add (.int 0) (.var 2))) (.int 16))) (.int 2)) (.int 1))
        (.asrt (.bin .le (.bin .add (.un .len (.var 1)) (.int 1)) (.int 4294967296))
         (.leaf [(.bin .snoc (.var 1) (.bin .cons (.un (.wrap .i64) (.bin .add (.un (.wrap .i64) (.bin .add (.un (.wrap .i64) (.bin .mul (.int 2) (.var 2))) (.int 1))) (.un (.wrap .i64) (.bin .tdiv (.un (.wrap .i64) (.bin .idx (.var 0) (.bin .add (.int 0) (.var 2)))) (.int 128))))) (.bin .cons (.bin .cons (.bin .cons (.int 0) (.bin .cons (.un (.wrap .i64) (.bin .sub (.un (.wrap .i64) (.bin .add (.un (.wrap .i64) (.bin .mul (.int 1000000) (.var 2))) (.int 0))) (.int 50))) .nil)) (.bin .cons (.bin .cons (.int 1) (.bin .cons (.un (.wrap .i64) (.bin .sub (.un (.wrap .i64) (.bin .add (.un (.wrap .i64) (.bin .mul (.int 1000000) (.var 2))) (.int 7))) (.int 50))) .nil)) (.bin .cons (.bin .cons (.int 2) (.bin .cons (.un (.wrap .i64) (.bin .sub (.un (.wrap .i64) (.bin .add (.un (.wrap .i64) (.bin .mul (.int 1000000) (.var 2))) (.int 14))) (.int 50))) .nil)) (.bin .cons (.bin .cons (.int 4) (.bin .cons (.un (.wrap .i64) (.bin .sub (.un (.wrap .i64) (.bin .add (.un (.wrap .i64) (.bin .mul (.int 1000000) (.var 2))) (.int 28))) (.int 50))) .nil)) .nil)))) .nil))), (.un (.wrap .i64) (.bin .add (.var 2) (.int 1)))]))
        (.asrt (.bin .le (.bin .add (.un .len (.var 1)) (.int 1)) (.int 4294967296))
         (.leaf [(.bin .snoc (.var 1) (.bin .cons (.un (.wrap .i64) (.bin .add (.un (.wrap .i64) (.bin .add (.un (.wrap .i64) (.bin .mul (.int 2) (.var 2))) (.int 1))) (.un (.wrap .i64) (.bin .tdiv (.un (.wrap .i64) (.bin .idx (.var 0) (.bin .add (.int 0) (.var 2)))) (.int 128))))) (.bin .cons (.bin .cons (.bin .cons (.int 0) (.bin .cons (.un (.wrap .i64) (.bin .sub (.un (.wrap .i64) (.bin .add (.un (.wrap .i64) (.bin .mul (.int 1000000) (.var 2))) (.int 0))) (.int 50))) .nil)) (.bin .cons (.bin .cons (.int 1) (.bin .cons (.un (.wrap .i64) (.bin .sub (.un (.wrap .i64) (.bin .add (.un (.wrap .i64) (.bin .mul (.int 1000000) (.var 2))) (.int 7))) (.int 50))) .nil)) (.bin .cons (.bin .cons (.int 2) (.bin .cons (.un (.wrap .i64) (.bin .sub (.un (.wrap .i64) (.bin .add (.un (.wrap .i64) (.bin .mul (.int 1000000) (.var 2))) (.int 14))) (.int 50))) .nil)) .nil))) .nil))), (.un (.wrap .i64) (.bin .add (.var 2) (.int 1)))]))))
      (.br (.bin .eq (.bin .tmod (.un (.wrap .u8) (.bin .tdiv (.bin .idx (.var 0) (.bin .add (.int 0) (.var 2))) (.int 8))) (.int 2)) (.int 1))
       (.br (.bin .eq (.bin .tmod (.un (.wrap .u8) (.bin .tdiv (.bin .idx (.var 0) (.bin .add (.int 0) (.var 2))) (.int 16))) (.int 2)) (.int 1))
        (.asrt (.bin .le (.bin .add (.un .len (.var 1)) (.int 1)) (.int 4294967296))
         (.leaf [(.bin .snoc (.var 1) (.bin .cons (.un (.wrap .i64) (.bin .add (.un (.wrap .i64) (.bin .add (.un (.wrap .i64) (.bin .mul (.int 2) (.var 2))) (.int 1))) (.un (.wrap .i64) (.bin .tdiv (.un (.wrap .i64) (.bin .idx (.var 0) (.bin .add (.int 0) (.var 2)))) (.int 128))))) (.bin .cons (.bin .cons (.bin .cons (.int 0) (.bin .cons (.un (.wrap .i64) (.bin .sub (.un (.wrap .i64) (.bin .add (.un (.wrap .i64) (.bin .mul (.int 1000000) (.var 2))) (.int 0))) (.int 50))) .nil)) (.bin .cons (.bin .cons (.int 1) (.bin .cons (.un (.wrap .i64) (.bin .sub (.un (.wrap .i64) (.bin .add (.un (.wrap .i64) (.bin .mul (.int 1000000) (.var 2))) (.int 7))) (.int 50))) .nil)) (.bin .cons (.bin .cons (.int 3) (.bin .cons (.un (.wrap .i64) (.bin .sub (.un (.wrap .i64) (.bin .add (.un (.wrap .i64) (.bin .mul (.int 1000000) (.var 2))) (.int 21))) (.int 50))) .nil)) (.bin .cons (.bin .cons (.int 4) (.bin .cons (.un (.wrap .i64) (.bin .sub (.un (.wrap .i64) (.bin .add (.un (.wrap .i64) (.bin .mul (.int 1000000) (.var 2))) (.int 28))) (.int 50))) .nil)) .nil)))) .nil))), (.un (.wrap .i64) (.bin .add (.var 2) (.int 1)))]))
        (.asrt (.bin .le (.bin .add (.un .len (.var 1)) (.int 1)) (.int 4294967296))
         (.leaf [(.bin .snoc (.var 1) (.bin .cons (.un (.wrap .i64) (.bin .add (.un (.wrap .i64) (.bin .add (.un (.wrap .i64) (.bin .mul (.int 2) (.var 2))) (.int 1))) (.un (.wrap .i64) (.bin .tdiv (.un (.wrap .i64) (.bin .idx (.var 0) (.bin .add (.int 0) (.var 2)))) (.int 128))))) (.bin .cons (.bin .cons (.bin .cons (.int 0) (.bin .cons (.un (.wrap .i64) (.bin .sub (.un (.wrap .i64) (.bin .add (.un (.wrap .i64) (.bin .mul (.int 1000000) (.var 2))) (.int 0))) (.int 50))) .nil)) (.bin .cons (.bin .cons (.int 1) (.bin .cons (.un (.wrap .i64) (.bin .sub (.un (.wrap .i64) (.bin .add (.un (.wrap .i64) (.bin .mul (.int 1000000) (.var 2))) (.int 7))) (.int 50))) .nil)) (.bin .cons (.bin .cons (.int 3) (.bin .cons (.un (.wrap .i64) (.bin .sub (.un (.wrap .i64) (.bin .add (.un (.wrap .i64) (.bin .mul (.int 1000000) (.var 2))) (.int 21))) (.int 50))) .nil)) .nil))) .nil))), (.un (.wrap .i64) (.bin .add (.var 2) (.int 1)))])))
       (.br (.bin .eq (.bin .tmod (.un (.wrap .u8) (.bin .tdiv (.bin .idx (.var 0) (.bin .add (.int 0) (.var 2))) (.int 16))) (.int 2)) (.int 1))
        (.asrt (.bin .le (.bin .add (.un .len (.var 1)) (.int 1)) (.int 4294967296))
         (.leaf [(.bin .snoc (.var 1) (.bin .cons (.un (.wrap .i64) (.bin .add (.un (.wrap .i64) (.bin .add (.un (.wrap .i64) (.bin .mul (.int 2) (.var 2))) (.int 1))) (.un (.wrap .i64) (.bin .tdiv (.un (.wrap .i64) (.bin .idx (.var 0) (.bin .add (.int 0) (.var 2)))) (.int 128))))) (.bin .cons (.bin .cons (.bin .cons (.int 0) (.bin .cons (.un (.wrap .i64) (.bin .sub (.un (.wrap .i64) (.bin .add (.un (.wrap .i64) (.bin .mul (.int 1000000) (.var 2))) (.int 0))) (.int 50))) .nil)) (.bin .cons (.bin .cons (.int 1) (.bin .cons (.un (.wrap .i64) (.bin .sub (.un (.wrap .i64) (.bin .add (.un (.wrap .i64) (.bin .mul (.int 1000000) (.var 2))) (.int 7))) (.int 50))) .nil)) (.bin .cons (.bin .cons (.int 4) (.bin .cons (.un (.wrap .i64) (.bin .sub (.un (.wrap .i64) (.bin .add (.un (.wrap .i64) (.bin .mul (.int 1000000) (.var 2))) (.int 28))) (.int 50))) .nil)) .nil))) .nil))), (.un (.wrap .i64) (.bin .add (.var 2) (.int 1)))]))
        (.asrt (.bin .le (.bin .add (.un .len (.var 1)) (.int 1)) (.int 4294967296))
         (.leaf [(.bin .snoc (.var 1) (.bin .cons (.un (.wrap .i64) (.bin .add (.un (.wrap .i64) (.bin .add (.un (.wrap .i64) (.bin .mul (.int 2) (.var 2))) (.int 1))) (.un (.wrap .i64) (.bin .tdiv (.un (.wrap .i64) (.bin .idx (.var 0) (.bin .add (.int 0) (.var 2)))) (.int 128))))) (.bin .cons (.bin .cons (.bin .cons (.int 0) (.bin .cons (.un (.wrap .i64) (.bin .sub (.un (.wrap .i64) (.bin .add (.un (.wrap .i64) (.bin .mul (.int 1000000) (.var 2))) (.int 0))) (.int 50))) .nil)) (.bin .cons (.bin .cons (.int 1) (.bin .cons (.un (.wrap .i64) (.bin .sub (.un (.wrap .i64) (.bin .add (.un (.wrap .i64) (.bin .mul (.int 1000000) (.var 2))) (.int 7))) (.int 50))) .nil)) .nil)) .nil))), (.un (.wrap .i64) (.bin .add (.var 2) (.int 1)))])))))
     (.br (.bin .eq (.bin .tmod (.un (.wrap .u8) (.bin .tdiv (.bin .idx (.var 0) (.bin .add (.int 0) (.var 2))) (.int 4))) (.int 2)) (.int 1))
      (.br (.bin .eq (.bin .tmod (.un (.wrap .u8) (.bin .tdiv (.bin .idx (.var 0) (.bin .add (.int 0) (.var 2))) (.int 8))) (.int 2)) (.int 1))
       (.br (.bin .eq (.bin .tmod (.un (.wrap .u8) (.bin .tdiv (.bin .idx (.var 0) (.bin .add (.int 0) (.var 2))) (.int 16))) (.int 2)) (.int 1))
        (.asrt (.bin .le (.bin .add (.un .len (.var 1)) (.int 1)) (.int 4294967296))
         (.leaf [(.bin .snoc (.var 1) (.bin .cons (.un (.wrap .i64) (.bin .add (.un (.wrap .i64) (.bin .add (.un (.wrap .i64) (.bin .mul (.int 2) (.var 2))) (.int 1))) (.un (.wrap .i64) (.bin .tdiv (.un (.wrap .i64) (.bin .idx (.var 0) (.bin .add (.int 0) (.var 2)))) (.int 128))))) (.bin .cons (.bin .cons (.bin .cons (.int 0) (.bin .cons (.un (.wrap .i64) (.bin .sub (.un (.wrap .i64) (.bin .add (.un (.wrap .i64) (.bin .mul (.int 1000000) (.var 2))) (.int 0))) (.int 50))) .nil)) (.bin .cons (.bin .cons (.int 2) (.bin .cons (.un (.wrap .i64) (.bin .sub (.un (.wrap .i64) (.bin .add (.un (.wrap .i64) (.bin .mul (.int 1000000) (.var 2))) (.int 14))) (.int 50))) .nil)) (.bin .cons (.bin .cons (.int 3) (.bin .cons (.un (.wrap .i64) (.bin .sub (.un (.wrap .i64) (.bin .add (.un (.wrap .i64) (.bin .mul (.int 1000000) (.var 2))) (.int 21))) (.int 50))) .nil)) (.bin .cons (.bin .cons (.int 4) (.bin .cons (.un (.wrap .i64) (.bin .sub (.un (.wrap .i64) (.bin .add (.un (.wrap .i64) (.bin .mul (.int 1000000) (.var 2))) (.int 28))) (.int 50))) .nil)) .nil)))) .nil))), (.un (.wrap .i64) (.bin .add (.var 2) (.int 1)))]))
        (.asrt (.bin .le (.bin .add (.un .len (.var 1)) (.int 1)) (.int 4294967296))
         (.leaf [(.bin .snoc (.var 1) (.bin .cons (.un (.wrap .i64) (.bin .add (.un (.wrap .i64) (.bin .add (.un (.wrap .i64) (.bin .mul (.int 2) (.var 2))) (.int 1))) (.un (.wrap .i64) (.bin .tdiv (.un (.wrap .i64) (.bin .idx (.var 0) (.bin .add (.int 0) (.var 2)))) (.int 128))))) (.bin .cons (.bin .cons (.bin .cons (.int 0) (.bin .cons (.un (.wrap .i64) (.bin .sub (.un (.wrap .i64) (.bin .add (.un (.wrap .i64) (.bin .mul (.int 1000000) (.var 2))) (.int 0))) (.int 50))) .nil)) (.bin .cons (.bin .cons (.int 2) (.bin .cons (.un (.wrap .i64) (.bin .sub (.un (.wrap .i64) (.bin .add (.un (.wrap .i64) (.bin .mul (.int 1000000) (.var 2))) (.int 14))) (.int 50))) .nil)) (.bin .cons (.bin .cons (.int 3) (.bin .cons (.un (.wrap .i64) (.bin .sub (.un (.wrap .i64) (.bin .add (.un (.wrap .i64) (.bin .mul (.int 1000000) (.var 2))) (.int 21))) (.int 50))) .nil)) .nil))) .nil))), (.un (.wrap .i64) (.bin .add (.var 2) (.int 1)))])))
       (.br (.bin .eq (.bin .tmod (.un (.wrap .u8) (.bin .tdiv (.bin .idx (.var 0) (.bin .add (.int 0) (.var 2))) (.int 16))) (.int 2)) (.int 1))
        (.asrt (.bin .le (.bin .add (.un .len (.var 1)) (.int 1)) (.int 4294967296))
         (.leaf [(.bin .snoc (.var 1) (.bin .cons (.un (.wrap .i64) (.bin .add (.un (.wrap .i64) (.bin .add (.un (.wrap .i64) (.bin .mul (.int 2) (.var 2))) (.int 1))) (.un (.wrap .i64) (.bin .tdiv (.un (.wrap .i64) (.bin .idx (.var 0) (.bin .add (.int 0) (.var 2)))) (.int 128))))) (.bin .cons (.bin .cons (.bin .cons (.int 0) (.bin .cons (.un (.wrap .i64) (.bin .sub (.un (.wrap .i64) (.bin .add (.un (.wrap .i64) (.bin .mul (.int 1000000) (.var 2))) (.int 0))) (.int 50))) .nil)) (.bin .cons (.bin .cons (.int 2) (.bin .cons (.un (.wrap .i64) (.bin .sub (.un (.wrap .i64) (.bin .add (.un (.wrap .i64) (.bin .mul (.int 1000000) (.var 2))) (.int 14))) (.int 50))) .nil)) (.bin .cons (.bin .cons (.int 4) (.bin .cons (.un (.wrap .i64) (.bin .sub (.un (.wrap .i64) (.bin .add (.un (.wrap .i64) (.bin .mul (.int 1000000) (.var 2))) (.int 28))) (.int 50))) .nil)) .nil))) .nil))), (.un (.wrap .i64) (.bin .add (.var 2) (.int 1)))]))
        (.asrt (.bin .le (.bin .add (.un .len (.var 1)) (.int 1)) (.int 4294967296))
         (.leaf [(.bin .snoc (.var 1) (.bin .cons (.un (.wrap .i64) (.bin .add (.un (.wrap .i64) (.bin .add (.un (.wrap .i64) (.bin .mul (.int 2) (.var 2))) (.int 1))) (.un (.wrap .i64) (.bin .tdiv (.un (.wrap .i64) (.bin .idx (.var 0) (.bin .add (.int 0) (.var 2)))) (.int 128))))) (.bin .cons (.bin .cons (.bin .cons (.int 0) (.bin .cons (.un (.wrap .i64) (.bin .sub (.un (.wrap .i64) (.bin .add (.un (.wrap .i64) (.bin .mul (.int 1000000) (.var 2))) (.int 0))) (.int 50))) .nil)) (.bin .cons (.bin .cons (.int 2) (.bin .cons (.un (.wrap .i64) (.bin .sub (.un (.wrap .i64) (.bin .add (.un (.wrap .i64) (.bin .mul (.int 1000000) (.var 2))) (.int 14))) (.int 50))) .nil)) .nil)) .nil))), (.un (.wrap .i64) (.bin .add (.var 2) (.int 1)))]))))
      (.br (.bin .eq (.bin .tmod (.un (.wrap .u8) (.bin .tdiv (.bin .idx (.var 0) (.bin .add (.int 0) (.var 2))) (.int 8))) (.int 2)) (.int 1))
       (.br (.bin .eq (.bin .tmod (.un (.wrap .u8) (.bin .tdiv (.bin .idx (.var 0) (.bin .add (.int 0) (.var 2))) (.int 16))) (.int 2)) (.int 1))
        (.asrt (.bin .le (.bin .add (.un .len (.var 1)) (.int 1)) (.int 4294967296))
         (.leaf [(.bin .snoc (.var 1) (.bin .cons (.un (.wrap .i64) (.bin .add (.un (.wrap .i64) (.bin .add (.un (.wrap .i64) (.bin .mul (.int 2) (.var 2))) (.int 1))) (.un (.wrap .i64) (.bin .tdiv (.un (.wrap .i64) (.bin .idx (.var 0) (.bin .add (.int 0) (.var 2)))) (.int 128))))) (.bin .cons (.bin .cons (.bin .cons (.int 0) (.bin .cons (.un (.wrap .i64) (.bin .sub (.un (.wrap .i64) (.bin .add (.un (.wrap .i64) (.bin .mul (.int 1000000) (.var 2))) (.int 0))) (.int 50))) .nil)) (.bin .cons (.bin .cons (.int 3) (.bin .cons (.un (.wrap .i64) (.bin .sub (.un (.wrap .i64) (.bin .add (.un (.wrap .i64) (.bin .mul (.int 1000000) (.var 2))) (.int 21))) (.int 50))) .nil)) (.bin .cons (.bin .cons (.int 4) (.bin .cons (.un (.wrap .i64) (.bin .sub (.un (.wrap .i64) (.bin .add (.un (.wrap .i64) (.bin .mul (.int 1000000) (.var 2))) (.int 28))) (.int 50))) .nil)) .nil))) .nil))), (.un (.wrap .i64) (.bin .add (.var 2) (.int 1)))]))
        (.asrt (.bin .le (.bin .add (.un .len (.var 1)) (.int 1)) (.int 4294967296))
         (.leaf [(.bin .snoc (.var 1) (.bin .cons (.un (.wrap .i64) (.bin .add (.un (.wrap .i64) (.bin .add (.un (.wrap .i64) (.bin .mul (.int 2) (.var 2))) (.int 1))) (.un (.wrap .i64) (.bin .tdiv (.un (.wrap .i64) (.bin .idx (.var 0) (.bin .add (.int 0) (.var 2)))) (.int 128))))) (.bin .cons (.bin .cons (.bin .cons (.int 0) (.bin .cons (.un (.wrap .i64) (.bin .sub (.un (.wrap .i64) (.bin .add (.un (.wrap .i64) (.bin .mul (.int 1000000) (.var 2))) (.int 0))) (.int 50))) .nil)) (.bin .cons (.bin .cons (.int 3) (.bin .cons (.un (.wrap .i64) (.bin .sub (.un (.wrap .i64) (.bin .add (.un (.wrap .i64) (.bin .mul (.int 1000000) (.var 2))) (.int 21))) (.int 50))) .nil)) .nil)) .nil))), (.un (.wrap .i64) (.bin .add (.var 2) (.int 1)))])))
       (.br (.bin .eq (.bin .tmod (.un (.wrap .u8) (.bin .tdiv (.bin .idx (.var 0) (.bin .add (.int 0) (.var 2))) (.int 16))) (.int 2)) (.int 1))
        (.asrt (.bin .le (.bin .add (.un .len (.var 1)) (.int 1)) (.int 4294967296))
         (.leaf [(.bin .snoc (.var 1) (.bin .cons (.un (.wrap .i64) (.bin .add (.un (.wrap .i64) (.bin .add (.un (.wrap .i64) (.bin .mul (.int 2) (.var 2))) (.int 1))) (.un (.wrap .i64) (.bin .tdiv (.un (.wrap .i64) (.bin .idx (.var 0) (.bin .add (.int 0) (.var 2)))) (.int 128))))) (.bin .cons (.bin .cons (.bin .cons (.int 0) (.bin .cons (.un (.wrap .i64) (.bin .sub (.un (.wrap .i64) (.bin .add (.un (.wrap .i64) (.bin .mul (.int 1000000) (.var 2))) (.int 0))) (.int 50))) .nil)) (.bin .cons (.bin .cons (.int 4) (.bin .cons (.un (.wrap .i64) (.bin .sub (.un (.wrap .i64) (.bin .add (.un (.wrap .i64) (.bin .mul (.int 1000000) (.var 2))) (.int 28))) (.int 50))) .nil)) .nil)) .nil))), (.un (.wrap .i64) (.bin .add (.var 2) (.int 1)))]))
        (.asrt (.bin .le (.bin .add (.un .len (.var 1)) (.int 1)) (.int 4294967296))
         (.leaf [(.bin .snoc (.var 1) (.bin .cons (.un (.wrap .i64) (.bin .add (.un (.wrap .i64) (.bin .add (.un (.wrap .i64) (.bin .mul (.int 2) (.var 2))) (.int 1))) (.un (.wrap .i64) (.bin .tdiv (.un (.wrap .i64) (.bin .idx (.var 0) (.bin .add (.int 0) (.var 2)))) (.int 128))))) (.bin .cons (.bin .cons (.bin .cons (.int 0) (.bin .cons (.un (.wrap .i64) (.bin .sub (.un (.wrap .i64) (.bin .add (.un (.wrap .i64) (.bin .mul (.int 1000000) (.var 2))) (.int 0))) (.int 50))) .nil)) .nil) .nil))), (.un (.wrap .i64) (.bin .add (.var 2) (.int 1)))]))))))
    (.br (.bin .eq (.bin .tmod (.un (.wrap .u8) (.bin .tdiv (.bin .idx (.var 0) (.bin .add (.int 0) (.var 2))) (.int 2))) (.int 2)) (.int 1))
     (.br (.bin .eq (.bin .tmod (.un (.wrap .u8) (.bin .tdiv (.bin .idx (.var 0) (.bin .add (.int 0) (.var 2))) (.int 4))) (.int 2)) (.int 1))
      (.br (.bin .eq (.bin .tmod (.un (.wrap .u8) (.bin .tdiv (.bin .idx (.var 0) (.bin .add (.int 0) (.var 2))) (.int 8))) (.int 2)) (.int 1))
       (.br (.bin .eq (.bin .tmod (.un (.wrap .u8) (.bin .tdiv (.bin .idx (.var 0) (.bin .add (.int 0) (.var 2))) (.int 16))) (.int 2)) (.int 1))
        (.asrt (.bin .le (.bin .add (.un .len (.var 1)) (.int 1)) (.int 4294967296))
         (.leaf [(.bin .snoc (.var 1) (.bin .cons (.un (.wrap .i64) (.bin .add (.un (.wrap .i64) (.bin .add (.un (.wrap .i64) (.bin .mul (.int 2) (.var 2))) (.int 1))) (.un (.wrap .i64) (.bin .tdiv (.un (.wrap .i64) (.bin .idx (.var 0) (.bin .add (.int 0) (.var 2)))) (.int 128))))) (.bin .cons (.bin .cons (.bin .cons (.int 1) (.bin .cons (.un (.wrap .i64) (.bin .sub (.un (.wrap .i64) (.bin .add (.un (.wrap .i64) (.bin .mul (.int 1000000) (.var 2))) (.int 7))) (.int 50))) .nil)) (.bin .cons (.bin .cons (.int 2) (.bin .cons (.un (.wrap .i64) (.bin .sub (.un (.wrap .i64) (.bin .add (.un (.wrap .i64) (.bin .mul (.int 1000000) (.var 2))) (.int 14))) (.int 50))) .nil)) (.bin .cons (.bin .cons (.int 3) (.bin .cons (.un (.wrap .i64) (.bin .sub (.un (.wrap .i64) (.bin .add (.un (.wrap .i64) (.bin .mul (.int 1000000) (.var 2))) (.int 21))) (.int 50))) .nil)) (.bin .cons (.bin .cons (.int 4) (.bin .cons (.un (.wrap .i64) (.bin .sub (.un (.wrap .i64) (.bin .add (.un (.wrap .i64) (.bin .mul (.int 1000000) (.var 2))) (.int 28))) (.int 50))) .nil)) .nil)))) .nil))), (.un (.wrap .i64) (.bin .add (.var 2) (.int 1)))]))
        (.asrt (.bin .le (.bin .add (.un .len (.var 1)) (.int 1)) (.int 4294967296))
         (.leaf [(.bin .snoc (.var 1) (.bin .cons (.un (.wrap .i64) (.bin .add (.un (.wrap .i64) (.bin .add (.un (.wrap .i64) (.bin .mul (.int 2) (.var 2))) (.int 1))) (.un (.wrap .i64) (.bin .tdiv (.un (.wrap .i64) (.bin .idx (.var 0) (.bin .add (.int 0) (.var 2)))) (.int 128))))) (.bin .cons (.bin .cons (.bin .cons (.int 1) (.bin .cons (.un (.wrap .i64) (.bin .sub (.un (.wrap .i64) (.bin .add (.un (.wrap .i64) (.bin .mul (.int 1000000) (.var 2))) (.int 7))) (.int 50))) .nil)) (.bin .cons (.bin .cons (.int 2) (.bin .cons (.un (.wrap .i64) (.bin .sub (.un (.wrap .i64) (.bin .add (.un (.wrap .i64) (.bin .mul (.int 1000000) (.var 2))) (.int 14))) (.int 50))) .nil)) (.bin .cons (.bin .cons (.int 3) (.bin .cons (.un (.wrap .i64) (.bin .sub (.un (.wrap .i64) (.bin .add (.un (.wrap .i64) (.bin .mul (.int 1000000) (.var 2))) (.int 21))) (.int 50))) .nil)) .nil))) .nil))), (.un (.wrap .i64) (.bin .add (.var 2) (.int 1)))])))
       (.br (.bin .eq (.bin .tmod (.un (.wrap .u8) (.bin .tdiv (.bin .idx (.var 0) (.bin .add (.int 0) (.var 2))) (.int 16))) (.int 2)) (.int 1))
        (.asrt (.bin .le (.bin .add (.un .len (.var 1)) (.int 1)) (.int 4294967296))
         (.leaf [(.bin .snoc (.var 1) (.bin .cons (.un (.wrap .i64) (.bin .add (.un (.wrap .i64) (.bin .add (.un (.wrap .i64) (.bin .mul (.int 2) (.var 2))) (.int 1))) (.un (.wrap .i64) (.bin .tdiv (.un (.wrap .i64) (.bin .idx (.var 0) (.bin .add (.int 0) (.var 2)))) (.int 128))))) (.bin .cons (.bin .cons (.bin .cons (.int 1) (.bin .cons (.un (.wrap .i64) (.bin .sub (.un (.wrap .i64) (.bin .add (.un (.wrap .i64) (.bin .mul (.int 1000000) (.var 2))) (.int 7))) (.int 50))) .nil)) (.bin .cons (.bin .cons (.int 2) (.bin .cons (.un (.wrap .i64) (.bin .sub (.un (.wrap .i64) (.bin .add (.un (.wrap .i64) (.bin .mul (.int 1000000) (.var 2))) (.int 14))) (.int 50))) .nil)) (.bin .cons (.bin .cons (.int 4) (.bin .cons (.un (.wrap .i64) (.bin .sub (.un (.wrap .i64) (.bin .add (.un (.wrap .i64) (.bin .mul (.int 1000000) (.var 2))) (.int 28))) (.int 50))) .nil)) .nil))) .nil))), (.un (.wrap .i64) (.bin .add (.var 2) (.int 1)))]))
        (.asrt (.bin .le (.bin .add (.un .len (.var 1)) (.int 1)) (.int 4294967296))
         (.leaf [(.bin .snoc (.var 1) (.bin .cons (.un (.wrap .i64) (.bin .add (.un (.wrap .i64) (.bin .add (.un (.wrap .i64) (.bin .mul (.int 2) (.var 2))) (.int 1))) (.un (.wrap .i64) (.bin .tdiv (.un (.wrap .i64) (.bin .idx (.var 0) (.bin .add (.int 0) (.var 2)))) (.int 128))))) (.bin .cons (.bin .cons (.bin .cons (.int 1) (.bin .cons (.un (.wrap .i64) (.bin .sub (.un (.wrap .i64) (.bin .add (.un (.wrap .i64) (.bin .mul (.int 1000000) (.var 2))) (.int 7))) (.int 50))) .nil)) (.bin .cons (.bin .cons (.int 2) (.bin .cons (.un (.wrap .i64) (.bin .sub (.un (.wrap .i64) (.bin .add (.un (.wrap .i64) (.bin .mul (.int 1000000) (.var 2))) (.int 14))) (.int 50))) .nil)) .nil)) .nil))), (.un (.wrap .i64) (.bin .add (.var 2) (.int 1)))]))))
      (.br (.bin .eq (.bin .tmod (.un (.wrap .u8) (.bin .tdiv (.bin .idx (.var 0) (.bin .add (.int 0) (.var 2))) (.int 8))) (.int 2)) (.int 1))
       (.br (.bin .eq (.bin .tmod (.un (.wrap .u8) (.bin .tdiv (.bin .idx (.var 0) (.bin .add (.int 0) (.var 2))) (.int 16))) (.int 2)) (.int 1))
        (.asrt (.bin .le (.bin .add (.un .len (.var 1)) (.int 1)) (.int 4294967296))
         (.leaf [(.bin .snoc (.var 1) (.bin .cons (.un (.wrap .i64) (.bin .add (.un (.wrap .i64) (.bin .add (.un (.wrap .i64) (.bin .mul (.int 2) (.var 2))) (.int 1))) (.un (.wrap .i64) (.bin .tdiv (.un (.wrap .i64) (.bin .idx (.var 0) (.bin .add (.int 0) (.var 2)))) (.int 128))))) (.bin .cons (.bin .cons (.bin .cons (.int 1) (.bin .cons (.un (.wrap .i64) (.bin .sub (.un (.wrap .i64) (.bin .add (.un (.wrap .i64) (.bin .mul (.int 1000000) (.var 2))) (.int 7))) (.int 50))) .nil)) (.bin .cons (.bin .cons (.int 3) (.bin .cons (.un (.wrap .i64) (.bin .sub (.un (.wrap .i64) (.bin .add (.un (.wrap .i64) (.bin .mul (.int 1000000) (.var 2))) (.int 21))) (.int 50))) .nil)) (.bin .cons (.bin .cons (.int 4) (.bin .cons (.un (.wrap .i64) (.bin .sub (.un (.wrap .i64) (.bin .add (.un (.wrap .i64) (.bin .mul (.int 1000000) (.var 2))) (.int 28))) (.int 50))) .nil)) .nil))) .nil))), (.un (.wrap .i64) (.bin .add (.var 2) (.int 1)))]))
        (.asrt (.bin .le (.bin .add (.un .len (.var 1)) (.int 1)) (.int 4294967296))
         (.leaf [(.bin .snoc (.var 1) (.bin .cons (.un (.wrap .i64) (.bin .add (.un (.wrap .i64) (.bin .add (.un (.wrap .i64) (.bin .mul (.int 2) (.var 2))) (.int 1))) (.un (.wrap .i64) (.bin .tdiv (.un (.wrap .i64) (.bin .idx (.var 0) (.bin .add (.int 0) (.var 2)))) (.int 128))))) (.bin .cons (.bin .cons (.bin .cons (.int 1) (.bin .cons (.un (.wrap .i64) (.bin .sub (.un (.wrap .i64) (.bin .add (.un (.wrap .i64) (.bin .mul (.int 1000000) (.var 2))) (.int 7))) (.int 50))) .nil)) (.bin .cons (.bin .cons (.int 3) (.bin .cons (.un (.wrap .i64) (.bin .sub (.un (.wrap .i64) (.bin .add (.un (.wrap .i64) (.bin .mul (.int 1000000) (.var 2))) (.int 21))) (.int 50))) .nil)) .nil)) .nil))), (.un (.wrap .i64) (.bin .add (.var 2) (.int 1)))])))
       (.br (.bin .eq (.bin .tmod (.un (.wrap .u8) (.bin .tdiv (.bin .idx (.var 0) (.bin .add (.int 0) (.var 2))) (.int 16))) (.int 2)) (.int 1))
        (.asrt (.bin .le (.bin .add (.un .len (.var 1)) (.int 1)) (.int 4294967296))
         (.leaf [(.bin .snoc (.var 1) (.bin .cons (.un (.wrap .i64) (.bin .add (.un (.wrap .i64) (.bin .add (.un (.wrap .i64) (.bin .mul (.int 2) (.var 2))) (.int 1))) (.un (.wrap .i64) (.bin .tdiv (.un (.wrap .i64) (.bin .idx (.var 0) (.bin .add (.int 0) (.var 2)))) (.int 128))))) (.bin .cons (.bin .cons (.bin .cons (.int 1) (.bin .cons (.un (.wrap .i64) (.bin .sub (.un (.wrap .i64) (.bin .add (.un (.wrap .i64) (.bin .mul (.int 1000000) (.var 2))) (.int 7))) (.int 50))) .nil)) (.bin .cons (.bin .cons (.int 4) (.bin .cons (.un (.wrap .i64) (.bin .sub (.un (.wrap .i64) (.bin .add (.un (.wrap .i64) (.bin .mul (.int 1000000) (.var 2))) (.int 28))) (.int 50))) .nil)) .nil)) .nil))), (.un (.wrap .i64) (.bin .add (.var 2) (.int 1)))]))
        (.asrt (.bin .le (.bin .add (.un .len (.var 1)) (.int 1)) (.int 4294967296))
         (.leaf [(.bin .snoc (.var 1) (.bin .cons (.un (.wrap .i64) (.bin .add (.un (.wrap .i64) (.bin .add (.un (.wrap .i64) (.bin .mul (.int 2) (.var 2))) (.int 1))) (.un (.wrap .i64) (.bin .tdiv (.un (.wrap .i64) (.bin .idx (.var 0) (.bin .add (.int 0) (.var 2)))) (.int 128))))) (.bin .cons (.bin .cons (.bin .cons (.int 1) (.bin .cons (.un (.wrap .i64) (.bin .sub (.un (.wrap .i64) (.bin .add (.un (.wrap .i64) (.bin .mul (.int 1000000) (.var 2))) (.int 7))) (.int 50))) .nil)) .nil) .nil))), (.un (.wrap .i64) (.bin .add (.var 2) (.int 1)))])))))
     (.br (.bin .eq (.bin .tmod (.un (.wrap .u8) (.bin .tdiv (.bin .idx (.var 0) (.bin .add (.int 0) (.var 2))) (.int 4))) (.int 2)) (.int 1))
      (.br (.bin .eq (.bin .tmod (.un (.wrap .u8) (.bin .tdiv (.bin .idx (.var 0) (.bin .add (.int 0) (.var 2))) (.int 8))) (.int 2)) (.int 1))
       (.br (.bin .eq (.bin .tmod (.un (.wrap .u8) (.bin .tdiv (.bin .idx (.var 0) (.bin .add (.int 0) (.var 2))) (.int 16))) (.int 2)) (.int 1))
        (.asrt (.bin .le (.bin .add (.un .len (.var 1)) (.int 1)) (.int 4294967296))
         (.leaf [(.bin .snoc (.var 1) (.bin .cons (.un (.wrap .i64) (.bin .add (.un (.wrap .i64) (.bin .add (.un (.wrap .i64) (.bin .mul (.int 2) (.var 2))) (.int 1))) (.un (.wrap .i64) (.bin .tdiv (.un (.wrap .i64) (.bin .idx (.var 0) (.bin .add (.int 0) (.var 2)))) (.int 128))))) (.bin .cons (.bin .cons (.bin .cons (.int 2) (.bin .cons (.un (.wrap .i64) (.bin .sub (.un (.wrap .i64) (.bin .add (.un (.wrap .i64) (.bin .mul (.int 1000000) (.var 2))) (.int 14))) (.int 50))) .nil)) (.bin .cons (.bin .cons (.int 3) (.bin .cons (.un (.wrap .i64) (.bin .sub (.un (.wrap .i64) (.bin .add (.un (.wrap .i64) (.bin .mul (.int 1000000) (.var 2))) (.int 21))) (.int 50))) .nil)) (.bin .cons (.bin .cons (.int 4) (.bin .cons (.un (.wrap .i64) (.bin .sub (.un (.wrap .i64) (.bin .add (.un (.wrap .i64) (.bin .mul (.int 1000000) (.var 2))) (.int 28))) (.int 50))) .nil)) .nil))) .nil))), (.un (.wrap .i64) (.bin .add (.var 2) (.int 1)))]))
        (.asrt (.bin .le (.bin .add (.un .len (.var 1)) (.int 1)) (.int 4294967296))
         (.leaf [(.bin .snoc (.var 1) (.bin .cons (.un (.wrap .i64) (.bin .add (.un (.wrap .i64) (.bin .add (.un (.wrap .i64) (.bin .mul (.int 2) (.var 2))) (.int 1))) (.un (.wrap .i64) (.bin .tdiv (.un (.wrap .i64) (.bin .idx (.var 0) (.bin .add (.int 0) (.var 2)))) (.int 128))))) (.bin .cons (.bin .cons (.bin .cons (.int 2) (.bin .cons (.un (.wrap .i64) (.bin .sub (.un (.wrap .i64) (.bin .add (.un (.wrap .i64) (.bin .mul (.int 1000000) (.var 2))) (.int 14))) (.int 50))) .nil)) (.bin .cons (.bin .cons (.int 3) (.bin .cons (.un (.wrap .i64) (.bin .sub (.un (.wrap .i64) (.bin .add (.un (.wrap .i64) (.bin .mul (.int 1000000) (.var 2))) (.int 21))) (.int 50))) .nil)) .nil)) .nil))), (.un (.wrap .i64) (.bin .add (.var 2) (.int 1)))])))
       (.br (.bin .eq (.bin .tmod (.un (.wrap .u8) (.bin .tdiv (.bin .idx (.var 0) (.bin .add (.int 0) (.var 2))) (.int 16))) (.int 2)) (.int 1))
        (.asrt (.bin .le (.bin .add (.un .len (.var 1)) (.int 1)) (.int 4294967296))
         (.leaf [(.bin .snoc (.var 1) (.bin .cons (.un (.wrap .i64) (.bin .add (.un (.wrap .i64) (.bin .add (.un (.wrap .i64) (.bin .mul (.int 2) (.var 2))) (.int 1))) (.un (.wrap .i64) (.bin .tdiv (.un (.wrap .i64) (.bin .idx (.var 0) (.bin .add (.int 0) (.var 2)))) (.int 128))))) (.bin .cons (.bin .cons (.bin .cons (.int 2) (.bin .cons (.un (.wrap .i64) (.bin .sub (.un (.wrap .i64) (.bin .add (.un (.wrap .i64) (.bin .mul (.int 1000000) (.var 2))) (.int 14))) (.int 50))) .nil)) (.bin .cons (.bin .cons (.int 4) (.bin .cons (.un (.wrap .i64) (.bin .sub (.un (.wrap .i64) (.bin .add (.un (.wrap .i64) (.bin .mul (.int 1000000) (.var 2))) (.int 28))) (.int 50))) .nil)) .nil)) .nil))), (.un (.wrap .i64) (.bin .add (.var 2) (.int 1)))]))
        (.asrt (.bin .le (.bin .add (.un .len (.var 1)) (.int 1)) (.int 4294967296))
         (.leaf [(.bin .snoc (.var 1) (.bin .cons (.un (.wrap .i64) (.bin .add (.un (.wrap .i64) (.bin .add (.un (.wrap .i64) (.bin .mul (.int 2) (.var 2))) (.int 1))) (.un (.wrap .i64) (.bin .tdiv (.un (.wrap .i64) (.bin .idx (.var 0) (.bin .add (.int 0) (.var 2)))) (.int 128))))) (.bin .cons (.bin .cons (.bin .cons (.int 2) (.bin .cons (.un (.wrap .i64) (.bin .sub (.un (.wrap .i64) (.bin .add (.un (.wrap .i64) (.bin .mul (.int 1000000) (.var 2))) (.int 14))) (.int 50))) .nil)) .nil) .nil))), (.un (.wrap .i64) (.bin .add (.var 2) (.int 1)))]))))
      (.br (.bin .eq (.bin .tmod (.un (.wrap .u8) (.bin .tdiv (.bin .idx (.var 0) (.bin .add (.int 0) (.var 2))) (.int 8))) (.int 2)) (.int 1))
       (.br (.bin .eq (.bin .tmod (.un (.wrap .u8) (.bin .tdiv (.bin .idx (.var 0) (.bin .add (.int 0) (.var 2))) (.int 16))) (.int 2)) (.int 1))
        (.asrt (.bin .le (.bin .add (.un .len (.var 1)) (.int 1)) (.int 4294967296))
         (.leaf [(.bin .snoc (.var 1) (.bin .cons (.un (.wrap .i64) (.bin .add (.un (.wrap .i64) (.bin .add (.un (.wrap .i64) (.bin .mul (.int 2) (.var 2))) (.int 1))) (.un (.wrap .i64) (.bin .tdiv (.un (.wrap .i64) (.bin .idx (.var 0) (.bin .add (.int 0) (.var 2)))) (.int 128))))) (.bin .cons (.bin .cons (.bin .cons (.int 3) (.bin .cons (.un (.wrap .i64) (.bin .sub (.un (.wrap .i64) (.bin .add (.un (.wrap .i64) (.bin .mul (.int 1000000) (.var 2))) (.int 21))) (.int 50))) .nil)) (.bin .cons (.bin .cons (.int 4) (.bin .cons (.un (.wrap .i64) (.bin .sub (.un (.wrap .i64) (.bin .add (.un (.wrap .i64) (.bin .mul (.int 1000000) (.var 2))) (.int 28))) (.int 50))) .nil)) .nil)) .nil))), (.un (.wrap .i64) (.bin .add (.var 2) (.int 1)))]))
        (.asrt (.bin .le (.bin .add (.un .len (.var 1)) (.int 1)) (.int 4294967296))
         (.leaf [(.bin .snoc (.var 1) (.bin .cons (.un (.wrap .i64) (.bin .add (.un (.wrap .i64) (.bin .add (.un (.wrap .i64) (.bin .mul (.int 2) (.var 2))) (.int 1))) (.un (.wrap .i64) (.bin .tdiv (.un (.wrap .i64) (.bin .idx (.var 0) (.bin .add (.int 0) (.var 2)))) (.int 128))))) (.bin .cons (.bin .cons (.bin .cons (.int 3) (.bin .cons (.un (.wrap .i64) (.bin .sub (.un (.wrap .i64) (.bin .add (.un (.wrap .i64) (.bin .mul (.int 1000000) (.var 2))) (.int 21))) (.int 50))) .nil)) .nil) .nil))), (.un (.wrap .i64) (.bin .add (.var 2) (.int 1)))])))
       (.br (.bin .eq (.bin .tmod (.un (.wrap .u8) (.bin .tdiv (.bin .idx (.var 0) (.bin .add (.int 0) (.var 2))) (.int 16))) (.int 2)) (.int 1))
        (.asrt (.bin .le (.bin .add (.un .len (.var 1)) (.int 1)) (.int 4294967296))
         (.leaf [(.bin .snoc (.var 1) (.bin .cons (.un (.wrap .i64) (.bin .add (.un (.wrap .i64) (.bin .add (.un (.wrap .i64) (.bin .mul (.int 2) (.var 2))) (.int 1))) (.un (.wrap .i64) (.bin .tdiv (.un (.wrap .i64) (.bin .idx (.var 0) (.bin .add (.int 0) (.var 2)))) (.int 128))))) (.bin .cons (.bin .cons (.bin .cons (.int 4) (.bin .cons (.un (.wrap .i64) (.bin .sub (.un (.wrap .i64) (.bin .add (.un (.wrap .i64) (.bin .mul (.int 1000000) (.var 2))) (.int 28))) (.int 50))) .nil)) .nil) .nil))), (.un (.wrap .i64) (.bin .add (.var 2) (.int 1)))]))
        (.asrt (.bin .le (.bin .add (.un .len (.var 1)) (.int 1)) (.int 4294967296))
         (.leaf [(.bin .snoc (.var 1) (.bin .cons (.un (.wrap .i64) (.bin .add (.un (.wrap .i64) (.bin .add (.un (.wrap .i64) (.bin .mul (.int 2) (.var 2))) (.int 1))) (.un (.wrap .i64) (.bin .tdiv (.un (.wrap .i64) (.bin .idx (.var 0) (.bin .add (.int 0) (.var 2)))) (.int 128))))) (.bin .cons .nil .nil))), (.un (.wrap .i64) (.bin .add (.var 2) (.int 1)))]))))))))
  .fail)
 (.br (.un .not (.bin .le (.un .len (.var 0)) (.var 2)))
  (.asrt (.bin .le (.int 0) (.var 2))
   (.asrt (.bin .le (.bin .add (.un .len (.var 1)) (.int 1)) (.int 4294967296))
    .fail))
  (.leaf [(.var 1)])))
def lEntSm : List (Nat × Smy) := []
def lEntLa : List (LK × LA) := [(⟨57, 3, 1, 1, 0⟩, ⟨[(3, (.sl 1 2 (.int 0) (.un .len (.var 1)) none)), (4, (.int .i64 (.var 2))), (5, .any), (6, .any), (7, .any), (8, .any), (9, .any), (10, .any), (11, .any), (12, .any), (13, .any), (14, .any), (15, .any), (16, .any), (17, .any), (18, .any), (19, .any), (20, .any), (21, .any), (22, .any), (23, .any), (24, .any), (25, .any), (26, .any), (27, .any), (28, .any), (29, .any), (30, .any), (31, .any), (32, .any), (33, .any), (34, .any), (35, .any), (36, .any), (37, .any), (38, .any), (39, .any), (40, .any), (41, .any), (42, .any), (43, .any), (44, .any), (45, .any), (46, .any), (47, .any), (48, .any), (49, .any), (50, .any), (51, .any), (52, .any), (53, .any), (54, .any), (55, .any)], [(1, (.nrows [.pl (.int .i64), .sub [.int .i64, .int .i64]] (.var 1)))], [], 2, 1⟩)]
def lEntPhi : Fs := ⟨fun n d => match n with
  | _ => d, 147⟩
theorem lEntS : SmyOk true Tryd.prog lEntPhi lEntSm := smy_nil
theorem lEntT : treeOk ⟨Tryd.prog, lEntSm, lEntLa, true⟩ 4000 29 [.one (.rows false [.int .u8])] [.one (.nst [.pl (.int .i64), .sub [.int .i64, .int .i64]])] ([]) lEntTree = true := by decide +kernel
set_option maxHeartbeats 1000000 in
theorem lEnt_pure : PureE true Tryd.prog 29 [.one (.rows false [.int .u8])] [.one (.nst [.pl (.int .i64), .sub [.int .i64, .int .i64]])] (lenP [(0, 1000)]) lEntF := by
  refine pure_tree (X := ⟨Tryd.prog, lEntSm, lEntLa, true⟩) (by decide +kernel) (Checked.mixed Tryd.checked) lEntS (by decide +kernel) (by decide +kernel) lEntT (by decide +kernel) ?_
  intro ds hl hp
  obtain ⟨d0, rfl⟩ := len1 hl
  have b0 : (d0.l.length : Int) ≤ 1000 := hp (0, 1000) (by simp)
  have hF : lEntF [d0] = lEntE (d0.l.map DV.i) := rfl
  rw [hF]
  clear hF hp hl
  have hN : nrmL (clsOf [.one (.rows false [.int .u8])]) [d0] = [.list ((d0.l.map DV.i).map DV.int)] := by
    simp only [clsOf, Sh.cls, List.append_nil, nrmL, Cl.nrm, map_Li]
  rw [hN]
  clear hN
  rw [← List.length_map (f := DV.i)] at b0
  generalize d0.l.map DV.i = x0 at b0 ⊢
  refine ⟨facts_nil _, ?_⟩
  unfold lEntTree lEntE
  simp only [Sat, clsOf, Sh.cls, List.append_nil, List.cons_append, List.nil_append, nrmL, Cl.nrm, List.map_cons, List.map_nil, List.length_cons, List.length_nil, List.cons.injEq, DV.list.injEq, and_true, true_and]
  try simp only [q_le, q_eq, q_not, iff_true, iff_false, Bool.not_true, Bool.not_false, Bool.false_eq_true, eq_self]
  simp only [SE.den, evU, ev_add, ev_sub, ev_mul, ev_tdiv, ev_tmod, ev_idx, ev_cons, ev_snoc, i_int, l_list, envL, List.getElem?_cons_succ, List.getElem?_cons_zero, Option.getD_some, List.length_map, get_Li, Int.zero_add, rows_En, rows_En, lEntPhi]
  refine rounds_at x0.length (fun i => [.list ((entsN x0 i).map encEn), .int i]) rfl (fun _ => rfl) (fun i hi => ?_) ?_
  · have hwi : IntKind.i64.wrap ((i : Int) + 1) = ((i + 1 : Nat) : Int) := by rw [w64 (by omega) (by omega)]; omega
    simp only [i_int, l_list, List.getElem?_cons_succ, List.getElem?_cons_zero, Option.getD_some, Int.toNat_natCast, List.length_map, and_true, eq_self, DV.list.injEq, List.cons.injEq, hwi, ents_len, ents_succ]
    refine ⟨fun _ => ⟨by omega, ?_⟩, fun h => absurd h (by omega)⟩
    repeat' (first | apply And.intro | intro)
    all_goals first
      | omega
      | (simp only [entW, entV, entX, bitU, *, decide_true, decide_false, Bool.false_eq_true, if_true, if_false, List.cons_append, List.nil_append, List.append_nil, List.map_append, List.map_cons, List.map_nil, encEn, encii]; done)
      | trace_state
  · simp only [i_int, l_list, List.getElem?_cons_succ, List.getElem?_cons_zero, Option.getD_some, List.length_map, rows_En, inj_LEn, rows_En, inj_LEn]
    exact ⟨fun h => absurd (Int.le_refl _) h, fun _ => rfl⟩
end Go.Proofs.YtkfjgggiopegbaaDoor
end
section
namespace Go.Proofs.YtkfjgggiopegbaaDoor
set_option linter.unusedVariables false
set_option linter.unusedSimpArgs false
set_option maxRecDepth 100000
theorem flatW_snoc (w : List Tii) (i : Nat) (h : i < w.length) : flatW (w.take (i + 1)) = flatW (w.take i) ++ [(w[i]?.getD dii).1, (w[i]?.getD dii).2] := by
  rw [List.take_add_one, List.getElem?_eq_getElem h]
  unfold flatW
  rw [List.flatMap_append]
  simp
end Go.Proofs.YtkfjgggiopegbaaDoor
end
section
namespace Go.Proofs.YtkfjgggiopegbaaDoor
set_option linter.unusedVariables false
set_option linter.unusedSimpArgs false
set_option maxRecDepth 100000
def record3 (v : Int) (w : List Tii) : List (List UInt8) := if validM v w = true then sectsM ((padM (strN (nums3 (v :: flatW w)))).length / 27) (padM (strN (nums3 (v :: flatW w)))) else []
def rRecordE (v : Int) (w : List Tii) : List DV := [.list ((record3 v w).map .str)]
theorem record3_eq {v : Int} {w : List Tii} (hw : rgeW w) : record3 v w = recordM v w := by
  unfold record3 recordM bodyM
  split
  · rename_i hv
    obtain ⟨_, v1, v2, v3⟩ := validM_iff.1 hv
    have hl : (v :: flatW w).length ≤ 65 := by rw [List.length_cons, flatW_len]; omega
    rw [nums3_eq (by omega) fun n hn => by
      rcases List.mem_cons.1 hn with e | e
      · omega
      · exact flatW_rge hw n e]
  · rfl
theorem sumM_rge (s : List UInt8) : 0 ≤ sumM s ∧ sumM s < 4294967296 := by
  obtain ⟨a, b, c, d⟩ := sumS_rge s
  unfold sumM
  omega
theorem le4_ops (n : Int) (h0 : 0 ≤ n) (h1 : n < 4294967296) : List.map (fun d : DV => UInt8.ofNat d.i.toNat) [.int (IntKind.u8.wrap (n.tmod 256)), .int (IntKind.u8.wrap ((IntKind.i64.wrap (n.tdiv 256)).tmod 256)), .int (IntKind.u8.wrap ((IntKind.i64.wrap (n.tdiv 65536)).tmod 256)), .int (IntKind.u8.wrap (IntKind.i64.wrap (n.tdiv 16777216)))] = le4 n := by
  unfold le4
  simp only [List.map_cons, List.map_nil, i_int]
  rw [Int.tmod_eq_emod_of_nonneg h0, Int.tdiv_eq_ediv_of_nonneg h0, Int.tdiv_eq_ediv_of_nonneg h0, Int.tdiv_eq_ediv_of_nonneg h0, w64 (n := n / 256) (by omega) (by omega), w64 (n := n / 65536) (by omega) (by omega), w64 (n := n / 16777216) (by omega) (by omega), Int.tmod_eq_emod_of_nonneg (by omega), Int.tmod_eq_emod_of_nonneg (by omega)]
  rw [u8_wrap (n % 256) (by omega) (by omega), u8_wrap (n / 256 % 256) (by omega) (by omega), u8_wrap (n / 65536 % 256) (by omega) (by omega), u8_wrap (n / 16777216) (by omega) (by omega)]
  have : n / 16777216 % 256 = n / 16777216 := by omega
  rw [this]
theorem head_ops (k : Int) (c : List UInt8) : List.map (fun d : DV => UInt8.ofNat d.i.toNat) [.int (IntKind.u8.wrap k)] ++ c = headS k c := by
  show UInt8.ofNat (IntKind.u8.wrap k).toNat :: c = _
  rw [wrap_u8n]
  rfl
def rRecordF (ds : List DV) : List DV := rRecordE (gi ds 0) (gLii ds 1)
def rRecordTree : PT :=
(.asrt (.bin .le (.un .len (.var 1)) (.int 9223372036854775807))
 (.br (.un .not (.bin .idx (.fn 114 (.bin .cons (.var 0) (.bin .cons (.var 1) .nil))) (.int 0)))
  (.leaf [.nil])
  (.loop 2 [(.bin .cons (.var 0) .nil), (.int 0)]
   (.br (.un .not (.bin .le (.un .len (.var 1)) (.var 3)))
    (.asrt (.bin .le (.int 0) (.var 3))
     (.asrt (.bin .le (.bin .add (.un .len (.var 2)) (.int 2)) (.int 4294967296))
      (.leaf [(.bin .app (.var 2) (.bin .cons (.bin .idx (.bin .idx (.var 1) (.bin .add (.int 0) (.var 3))) (.int 0)) (.bin .cons (.bin .idx (.bin .idx (.var 1) (.bin .add (.int 0) (.var 3))) (.int 1)) .nil))), (.un (.wrap .i64) (.bin .add (.var 3) (.int 1)))])))
    .fail)
   (.br (.un .not (.bin .le (.un .len (.var 1)) (.var 3)))
    (.asrt (.bin .le (.int 0) (.var 3))
     (.asrt (.bin .le (.bin .add (.un .len (.var 2)) (.int 2)) (.int 4294967296))
      .fail))
    (.asrt (.bin .le (.un .len (.var 2)) (.int 1000))
     (.loop 4 [(.un .str8 (.bin .idx (.fn 118 (.bin .cons (.var 2) .nil)) (.int 0)))]
      (.br (.un .not (.bin .eq (.bin .tmod (.un .slen (.var 4)) (.int 27)) (.int 0)))
       (.asrt (.bin .le (.bin .add (.un .slen (.var 4)) (.int 1)) (.int 9223372036854775807))
        (.leaf [(.bin .cat (.var 4) (.str [0]))]))
       .fail)
      (.br (.un .not (.bin .eq (.bin .tmod (.un .slen (.var 4)) (.int 27)) (.int 0)))
       (.asrt (.bin .le (.bin .add (.un .slen (.var 4)) (.int 1)) (.int 9223372036854775807))
        .fail)
       (.loop 5 [.nil, (.int 0)]
        (.br (.un .not (.bin .le (.un (.wrap .i64) (.bin .tdiv (.un .slen (.var 4)) (.int 27))) (.var 6)))
         (.asrt (.bin .le (.int 0) (.un (.wrap .i64) (.bin .add (.un (.wrap .i64) (.bin .mul (.int 27) (.var 6))) (.int 27))))
          (.asrt (.bin .le (.un (.wrap .i64) (.bin .add (.un (.wrap .i64) (.bin .mul (.int 27) (.var 6))) (.int 27))) (.un .slen (.var 4)))
           (.asrt (.bin .le (.int 0) (.un (.wrap .i64) (.bin .mul (.int 27) (.var 6))))
            (.asrt (.bin .le (.un (.wrap .i64) (.bin .mul (.int 27) (.var 6))) (.un (.wrap .i64) (.bin .add (.un (.wrap .i64) (.bin .mul (.int 27) (.var 6))) (.int 27))))
             (.asrt (.bin .le (.bin .add (.int 1) (.un .slen (.bin .sdrop (.bin .stake (.var 4) (.un (.wrap .i64) (.bin .add (.un (.wrap .i64) (.bin .mul (.int 27) (.var 6))) (.int 27)))) (.un (.wrap .i64) (.bin .mul (.int 27) (.var 6)))))) (.int 9223372036854775807))
              (.asrt (.bin .le (.un .slen (.bin .cat (.un .str8 (.bin .cons (.un (.wrap .u8) (.un (.wrap .i64) (.bin .sub (.un (.wrap .i64) (.bin .sub (.un (.wrap .i64) (.bin .tdiv (.un .slen (.var 4)) (.int 27))) (.int 1))) (.var 6)))) .nil)) (.bin .sdrop (.bin .stake (.var 4) (.un (.wrap .i64) (.bin .add (.un (.wrap .i64) (.bin .mul (.int 27) (.var 6))) (.int 27)))) (.un (.wrap .i64) (.bin .mul (.int 27) (.var 6)))))) (.int 1000000))
               (.asrt (.bin .le (.bin .add (.un .len (.var 5)) (.int 1)) (.int 4294967296))
                (.leaf [(.bin .snoc (.var 5) (.bin .cat (.bin .cat (.un .str8 (.bin .cons (.un (.wrap .u8) (.un (.wrap .i64) (.bin .sub (.un (.wrap .i64) (.bin .sub (.un (.wrap .i64) (.bin .tdiv (.un .slen (.var 4)) (.int 27))) (.int 1))) (.var 6)))) .nil)) (.bin .sdrop (.bin .stake (.var 4) (.un (.wrap .i64) (.bin .add (.un (.wrap .i64) (.bin .mul (.int 27) (.var 6))) (.int 27)))) (.un (.wrap .i64) (.bin .mul (.int 27) (.var 6))))) (.un .str8 (.bin .cons (.un (.wrap .u8) (.bin .tmod (.bin .idx (.fn 116 (.bin .cons (.bin .cat (.un .str8 (.bin .cons (.un (.wrap .u8) (.un (.wrap .i64) (.bin .sub (.un (.wrap .i64) (.bin .sub (.un (.wrap .i64) (.bin .tdiv (.un .slen (.var 4)) (.int 27))) (.int 1))) (.var 6)))) .nil)) (.bin .sdrop (.bin .stake (.var 4) (.un (.wrap .i64) (.bin .add (.un (.wrap .i64) (.bin .mul (.int 27) (.var 6))) (.int 27)))) (.un (.wrap .i64) (.bin .mul (.int 27) (.var 6))))) .nil)) (.int 0)) (.int 256))) (.bin .cons (.un (.wrap .u8) (.bin .tmod (.un (.wrap .i64) (.bin .tdiv (.bin .idx (.fn 116 (.bin .cons (.bin .cat (.un .str8 (.bin .cons (.un (.wrap .u8) (.un (.wrap .i64) (.bin .sub (.un (.wrap .i64) (.bin .sub (.un (.wrap .i64) (.bin .tdiv (.un .slen (.var 4)) (.int 27))) (.int 1))) (.var 6)))) .nil)) (.bin .sdrop (.bin .stake (.var 4) (.un (.wrap .i64) (.bin .add (.un (.wrap .i64) (.bin .mul (.int 27) (.var 6))) (.int 27)))) (.un (.wrap .i64) (.bin .mul (.int 27) (.var 6))))) .nil)) (.int 0)) (.int 256))) (.int 256))) (.bin .cons (.un (.wrap .u8) (.bin .tmod (.un (.wrap .i64) (.bin .tdiv (.bin .idx (.fn 116 (.bin .cons (.bin .cat (.un .str8 (.bin .cons (.un (.wrap .u8) (.un (.wrap .i64) (.bin .sub (.un (.wrap .i64) (.bin .sub (.un (.wrap .i64) (.bin .tdiv (.un .slen (.var 4)) (.int 27))) (.int 1))) (.var 6)))) .nil)) (.bin .sdrop (.bin .stake (.var 4) (.un (.wrap .i64) (.bin .add (.un (.wrap .i64) (.bin .mul (.int 27) (.var 6))) (.int 27)))) (.un (.wrap .i64) (.bin .mul (.int 27) (.var 6))))) .nil)) (.int 0)) (.int 65536))) (.int 256))) (.bin .cons (.un (.wrap .u8) (.un (.wrap .i64) (.bin .tdiv (.bin .idx (.fn 116 (.bin .cons (.bin .cat (.un .str8 (.bin .cons (.un (.wrap .u8) (.un (.wrap .i64) (.bin .sub (.un (.wrap .i64) (.bin .sub (.un (.wrap .i64) (.bin .tdiv (.un .slen (.var 4)) (.int 27))) (.int 1))) (.var 6)))) .nil)) (.bin .sdrop (.bin .stake (.var 4) (.un (.wrap .i64) (.bin .add (.un (.wrap .i64) (.bin .mul (.int 27) (.var 6))) (.int 27)))) (.un (.wrap .i64) (.bin .mul (.int 27) (.var 6))))) .nil)) (.int 0)) (.int 16777216)))) .nil))))))), (.un (.wrap .i64) (.bin .add (.var 6) (.int 1)))]))))))))
         .fail)
        (.br (.un .not (.bin .le (.un (.wrap .i64) (.bin .tdiv (.un .slen (.var 4)) (.int 27))) (.var 6)))
         (.asrt (.bin .le (.int 0) (.un (.wrap .i64) (.bin .add (.un (.wrap .i64) (.bin .mul (.int 27) (.var 6))) (.int 27))))
          (.asrt (.bin .le (.un (.wrap .i64) (.bin .add (.un (.wrap .i64) (.bin .mul (.int 27) (.var 6))) (.int 27))) (.un .slen (.var 4)))
           (.asrt (.bin .le (.int 0) (.un (.wrap .i64) (.bin .mul (.int 27) (.var 6))))
            (.asrt (.bin .le (.un (.wrap .i64) (.bin .mul (.int 27) (.var 6))) (.un (.wrap .i64) (.bin .add (.un (.wrap .i64) (.bin .mul (.int 27) (.var 6))) (.int 27))))
             (.asrt (.bin .le (.bin .add (.int 1) (.un .slen (.bin .sdrop (.bin .stake (.var 4) (.un (.wrap .i64) (.bin .add (.un (.wrap .i64) (.bin .mul (.int 27) (.var 6))) (.int 27)))) (.un (.wrap .i64) (.bin .mul (.int 27) (.var 6)))))) (.int 9223372036854775807))
              (.asrt (.bin .le (.un .slen (.bin .cat (.un .str8 (.bin .cons (.un (.wrap .u8) (.un (.wrap .i64) (.bin .sub (.un (.wrap .i64) (.bin .sub (.un (.wrap .i64) (.bin .tdiv (.un .slen (.var 4)) (.int 27))) (.int 1))) (.var 6)))) .nil)) (.bin .sdrop (.bin .stake (.var 4) (.un (.wrap .i64) (.bin .add (.un (.wrap .i64) (.bin .mul (.int 27) (.var 6))) (.int 27)))) (.un (.wrap .i64) (.bin .mul (.int 27) (.var 6)))))) (.int 1000000))
               (.asrt (.bin .le (.bin .add (.un .len (.var 5)) (.int 1)) (.int 4294967296))
                .fail)))))))
         (.leaf [(.var 5)]))))))))))
def rRecordSm : List (Nat × Smy) := [(72, ⟨114, [.agg [.pl (.int .i64), .rows false [.int .i64, .int .i64]]], [.one (.pl .bool)], lenC [(1, 9223372036854775807)], none⟩), (73, ⟨118, [.one (.rows false [.int .i64])], [.one (.rows true [.int .u8])], lenC [(0, 1000)], none⟩), (74, ⟨116, [.one (.pl .str)], [.one (.pl (.int .i64))], fun es => (fun _ => []) es ++ slenC [(0, 0, 1000000)] es, none⟩)]
def rRecordLa : List (LK × LA) := [(⟨99, 15, 6, 5, 5⟩, ⟨[(8, (.sl 6 1 (.int 0) (.un .len (.var 5)) none)), (9, (.int .i64 (.var 6))), (10, .any), (11, .any), (55, .any), (56, .any), (57, .any), (58, .any), (59, .any), (60, .any), (61, .any), (62, .any), (63, .any), (64, .any), (65, .any), (66, .any), (67, .any), (68, .any), (69, .any), (70, .any), (71, .any), (72, .any), (73, .any), (74, .any), (75, .any), (76, .any), (77, .any), (78, .any), (79, .any), (80, .any), (81, .any), (82, .any), (83, .any), (84, .any), (85, .any), (86, .any), (87, .any), (88, .any), (89, .any), (90, .any), (91, .any), (92, .any), (93, .any), (94, .any), (95, .any), (96, .any), (97, .any)], [(6, (.rows [.str] (.var 5)))], [], 2, 1⟩),
  (⟨99, 10, 6, 4, 4⟩, ⟨[(6, (.str (.var 4))), (44, .any), (45, .any), (46, .any), (47, .any), (48, .any), (49, .any), (50, .any), (51, .any)], [], [], 1, 0⟩),
  (⟨99, 6, 4, 2, 2⟩, ⟨[(4, (.sl 4 1 (.int 0) (.un .len (.var 2)) none)), (5, (.int .i64 (.var 3))), (19, .any), (20, .any), (21, .any), (22, .any), (23, .any), (24, .any), (25, .any), (26, .any), (27, .any), (28, .any), (29, .any), (30, .any), (31, .any), (32, .any), (33, .any), (34, .any), (35, .any), (36, .any), (37, .any), (38, .any), (39, .any), (40, .any)], [(4, (.rows [.int .i64] (.var 2)))], [3], 2, 1⟩)]
def rRecordPhi : Fs := ⟨fun n d => match n with
  | 114 => .list (rValidF d.l)
  | 118 => .list (r3NumsF d.l)
  | 116 => .list (rSum23F d.l)
  | _ => d, 147⟩
theorem rRecordS : SmyOk true Tryd.prog rRecordPhi rRecordSm := (smy_cons (lenP [(1, 9223372036854775807)]) rValidF rValid_pure (len_hp [(1, 9223372036854775807)]) (fun _ => rfl) (fun _ h => by cases h) (smy_cons (lenP [(0, 1000)]) r3NumsF r3Nums_pure (len_hp [(0, 1000)]) (fun _ => rfl) (fun _ h => by cases h) (smy_cons (fun ds => (fun _ => True) ds ∧ slenP [(0, 0, 1000000)] ds) rSum23F rSum23_pure (slen_hp (C := fun _ => []) (Q := fun _ => True) [(0, 0, 1000000)] (fun _ _ _ _ => trivial)) (fun _ => rfl) (fun _ h => by cases h) smy_nil)))
theorem rRecordT : treeOk ⟨Tryd.prog, rRecordSm, rRecordLa, true⟩ 4000 38 [.agg [.pl (.int .i64), .rows false [.int .i64, .int .i64]]] [.one (.rows true [.str])] ([]) rRecordTree = true := by decide +kernel
set_option maxHeartbeats 1000000 in
theorem rRecord_pure : PureE true Tryd.prog 38 [.agg [.pl (.int .i64), .rows false [.int .i64, .int .i64]]] [.one (.rows true [.str])] (lenP [(1, 1000000)]) rRecordF := by
  refine pure_tree (X := ⟨Tryd.prog, rRecordSm, rRecordLa, true⟩) (by decide +kernel) (Checked.mixed Tryd.checked) rRecordS (by decide +kernel) (by decide +kernel) rRecordT (by decide +kernel) ?_
  intro ds hl hp
  obtain ⟨d0, d1, rfl⟩ := len2 hl
  have b1 : (d1.l.length : Int) ≤ 1000000 := hp (1, 1000000) (by simp)
  have hF : rRecordF [d0, d1] = rRecordE d0.i (d1.l.map decii) := rfl
  rw [hF]
  clear hF hp hl
  have hN : nrmL (clsOf [.agg [.pl (.int .i64), .rows false [.int .i64, .int .i64]]]) [d0, d1] = [.int d0.i, .list ((d1.l.map decii).map encii)] := by
    simp only [clsOf, Sh.cls, List.append_nil, nrmL, Cl.nrm, CK.nrm, map_Lii]
  rw [hN]
  clear hN
  generalize d0.i = x0
  rw [← List.length_map (f := decii)] at b1
  generalize d1.l.map decii = x1 at b1 ⊢
  refine ⟨facts_nil _, ?_⟩
  unfold rRecordTree rRecordE
  simp only [Sat, clsOf, Sh.cls, List.append_nil, List.cons_append, List.nil_append, nrmL, Cl.nrm, List.map_cons, List.map_nil, List.length_cons, List.length_nil, List.cons.injEq, DV.list.injEq, and_true, true_and]
  simp only [q_le, q_eq, q_not, iff_true, iff_false, Bool.not_true, Bool.not_false, Bool.false_eq_true, eq_self]
  simp only [SE.den, evU, ev_add, ev_sub, ev_mul, ev_tdiv, ev_tmod, ev_cat, ev_idx, ev_cons, ev_snoc, ev_app, ev_stake, ev_sdrop, i_int, b_bool, s_str, l_list, envL, List.getElem?_cons_succ, List.getElem?_cons_zero, Option.getD_some, Int.toNat_zero, Int.reduceToNat, List.length_map, rows_s, Int.zero_add, rRecordPhi, rValidF, rValidE, r3NumsF, r3NumsE, rSum23F, rSum23E, gi, gs, gLi, gLii, deces_ii]
  refine ⟨by omega, fun h => ?_, fun hv => ?_⟩
  · unfold record3
    rw [if_neg (by simp [h])]
    rfl
  · obtain ⟨_, v1, v2, v3⟩ := validM_iff.1 hv
    refine rounds_at x1.length (fun i => [.list ((x0 :: flatW (x1.take i)).map .int), .int i]) rfl (fun _ => rfl) (fun i hi => ?_) ?_
    · have e1 : ¬ (x1.length : Int) ≤ i := by omega
      have hwi : IntKind.i64.wrap ((i : Int) + 1) = ((i + 1 : Nat) : Int) := by rw [w64 (by omega) (by omega)]; omega
      have hl : (flatW (x1.take i)).length = 2 * i := by rw [flatW_len, List.length_take]; omega
      rw [flatW_snoc _ _ hi]
      simp only [i_int, l_list, List.getElem?_cons_succ, List.getElem?_cons_zero, Option.getD_some, Int.toNat_natCast, List.length_map, and_true, eq_self, not_false_eq_true, DV.list.injEq, List.cons.injEq, e1, hwi, raw_ii_0, raw_ii_1, List.length_cons, hl]
      refine ⟨fun _ => ⟨by omega, by omega, ?_⟩, fun h => h.elim⟩
      simp
    · rw [List.take_length]
      generalize hL : x0 :: flatW x1 = L
      have hLl : L.length ≤ 65 := by rw [← hL, List.length_cons, flatW_len]; omega
      have hn := nums3_len L
      obtain ⟨B, hB⟩ : ∃ B, B = padM (strN (nums3 L)) := ⟨_, rfl⟩
      have hBl : B.length = ((nums3 L).length + 26) / 27 * 27 := by rw [hB, pad_len, strN_len]
      have hR : record3 x0 x1 = sectsM (B.length / 27) B := by
        unfold record3
        rw [if_pos hv, hL, ← hB]
      obtain ⟨M, hMe⟩ : ∃ M, M = ((nums3 L).length + 26) / 27 := ⟨_, rfl⟩
      have hBM : B.length / 27 = M := by omega
      rw [hBM] at hR
      obtain ⟨N, hN⟩ : ∃ N, N = strN (nums3 L) := ⟨_, rfl⟩
      have hNl : N.length = (nums3 L).length := by rw [hN, strN_len]
      simp only [i_int, l_list, List.getElem?_cons_succ, List.getElem?_cons_zero, Option.getD_some, List.length_map, dece_i, dece_i, str8_Li, hR]
      refine ⟨fun h => absurd (Int.le_refl _) h, fun _ => ⟨by omega, ?_⟩⟩
      rw [← hN]
      rw [← hN] at hB
      refine ⟨rfl, ?_⟩
      have hBe : B = N ++ List.replicate (27 * M - N.length) 0 := by rw [hB]; unfold padM; congr 2; omega
      refine rounds_inv (fun y => ∃ k : Nat, y = [.str (N ++ List.replicate k 0)] ∧ k ≤ 27 * M - N.length) (fun y => 27 * M - ((y[0]?).getD (DV.int 0)).s.length) ⟨0, by rw [List.replicate_zero, List.append_nil], Nat.zero_le _⟩ ?_
      rintro y ⟨k, rfl, hk⟩
      have hlen : ((N ++ List.replicate k 0).length : Int) = N.length + k := by simp
      simp only [s_str, List.getElem?_cons_succ, List.getElem?_cons_zero, Option.getD_some, List.cons_append, List.nil_append, hlen]
      have htm : ((N.length : Int) + k).tmod 27 = ((N.length + k) % 27 : Nat) := by rw [Int.tmod_eq_emod_of_nonneg (by omega)]; omega
      rw [htm]
      by_cases hk2 : (N.length + k) % 27 = 0
      · left
        have hkk : k = 27 * M - N.length := by omega
        rw [hkk, ← hBe] at hlen ⊢
        have h0 : (((N.length + (27 * M - N.length)) % 27 : Nat) : Int) = 0 := by omega
        refine ⟨fun h => absurd h0 h, fun _ => ⟨rfl, ?_⟩⟩
        have hdiv : IntKind.i64.wrap ((B.length : Int).tdiv 27) = M := by
          have : (B.length : Int).tdiv 27 = M := by rw [Int.tdiv_eq_ediv_of_nonneg (by omega)]; omega
          rw [this, w64 (by omega) (by omega)]
        have hdiv2 : IntKind.i64.wrap (((N.length : Int) + ((27 * M - N.length : Nat) : Int)).tdiv 27) = M := by
          rw [← hlen]; exact hdiv
        refine rounds_at M (fun i => [.list (((sectsM M B).take i).map .str), .int i]) rfl (fun _ => rfl) (fun i hi => ?_) ?_
        · have e1 : ¬ (M : Int) ≤ i := by omega
          have hwi : IntKind.i64.wrap ((i : Int) + 1) = ((i + 1 : Nat) : Int) := by rw [w64 (by omega) (by omega)]; omega
          have hw3 : IntKind.i64.wrap (27 * (i : Int)) = ((27 * i : Nat) : Int) := by rw [w64 (by omega) (by omega)]; omega
          have hw2 : IntKind.i64.wrap (((27 * i : Nat) : Int) + 27) = ((27 * (i + 1) : Nat) : Int) := by rw [w64 (by omega) (by omega)]; omega
          have hw4 : IntKind.i64.wrap (IntKind.i64.wrap ((M : Int) - 1) - i) = ((M - 1 - i : Nat) : Int) := by rw [w64 (n := (M : Int) - 1) (by omega) (by omega), w64 (by omega) (by omega)]; omega
          have hc : List.drop (27 * i) (List.take (27 * (i + 1)) B) = List.take 27 (List.drop (27 * i) B) := by rw [List.drop_take]; congr 1; omega
          have hcl : (List.take 27 (List.drop (27 * i) B)).length = 27 := by rw [List.length_take, List.length_drop]; omega
          have ht : (sectsM M B).take (i + 1) = (sectsM M B).take i ++ [sectorM ((M - 1 - i : Nat) : Int) (List.take 27 (List.drop (27 * i) B))] := by
            rw [List.take_add_one, ← sects_at M B i hi, List.getElem?_eq_getElem (by rw [sects_len]; exact hi)]; rfl
          have htl : ((sectsM M B).take i).length = i := by rw [List.length_take, sects_len]; omega
          rw [ht]
          simp only [i_int, l_list, List.getElem?_cons_succ, List.getElem?_cons_zero, Option.getD_some, Int.toNat_natCast, List.length_map, inj_Ls, and_true, eq_self, not_false_eq_true, DV.list.injEq, List.cons.injEq, e1, hwi, hw2, hw3, hw4, hdiv2, Int.toNat_natCast, hc, hcl, htl, snoc_Ls, head_ops]
          generalize hS : List.take 27 (List.drop (27 * i) B) = C at hcl
          obtain ⟨s0, s1⟩ := sumM_rge (headS ((M - 1 - i : Nat) : Int) C)
          rw [le4_ops _ s0 s1]
          have hhl : (headS ((M - 1 - i : Nat) : Int) C).length = 28 := by unfold headS; rw [List.length_cons, hcl]
          refine ⟨fun _ => ⟨by omega, by omega, by omega, by omega, by omega, by omega, by omega, ?_⟩, fun h => h⟩
          rfl
        · have : List.take M (sectsM M B) = sectsM M B := List.take_of_length_le (by rw [sects_len]; omega)
          rw [this]
          simp only [i_int, l_list, List.getElem?_cons_succ, List.getElem?_cons_zero, Option.getD_some, List.length_map, rows_s, eq_self, hdiv2]
          exact ⟨fun h => absurd (Int.le_refl _) h, fun _ => True.intro⟩
      · right
        have h0 : ¬ (((N.length + k) % 27 : Nat) : Int) = 0 := by omega
        refine ⟨[.str (N ++ List.replicate (k + 1) 0)], ⟨fun _ => ⟨by omega, ?_⟩, fun h => absurd h h0⟩, rfl, ⟨k + 1, rfl, by omega⟩, ?_⟩
        · rw [List.replicate_succ', ← List.append_assoc]
        · simp only [s_str, List.getElem?_cons_zero, Option.getD_some, List.length_replicate, List.length_append, List.length_replicate]; omega
end Go.Proofs.YtkfjgggiopegbaaDoor
end
section
namespace Go.Proofs.YtkfjgggiopegbaaDoor
set_option linter.unusedVariables false
set_option linter.unusedSimpArgs false
set_option maxRecDepth 100000
def recAM (at' : Int) (r : List (List UInt8)) (n : Nat) : List Tiiiis := (List.range n).map fun i : Nat => (5, IntKind.i64.wrap (at' + i), 0, 0, r[i]?.getD [])
theorem recA_len (at' : Int) (r : List (List UInt8)) (n : Nat) : (recAM at' r n).length = n := by simp [recAM]
theorem recA_succ (at' : Int) (r : List (List UInt8)) (n : Nat) : recAM at' r (n + 1) = recAM at' r n ++ [(5, IntKind.i64.wrap (at' + n), 0, 0, r[n]?.getD [])] := by
  unfold recAM
  rw [List.range_succ, List.map_append]
  rfl
theorem record3_le (v : Int) (w : List Tii) : (record3 v w).length ≤ 1000 := by
  unfold record3
  split
  · rename_i hv
    obtain ⟨_, v1, v2, v3⟩ := validM_iff.1 hv
    have hl : (v :: flatW w).length ≤ 65 := by rw [List.length_cons, flatW_len]; omega
    have hn := nums3_len (v :: flatW w)
    rw [sects_len, pad_len, strN_len]
    omega
  · simp
theorem raw_str {l : List (List UInt8)} {j : Nat} (h : j < l.length) : ((l.map DV.str)[j]?).getD (DV.int 0) = .str ((l[j]?).getD []) := by rw [List.getElem?_map, List.getElem?_eq_getElem h]; rfl
def accsM (v : Int) (w : List Tii) (at' : Int) : List Tiiiis := recAM at' (record3 v w) (record3 v w).length ++ [(6, 0, 0, 0, [])]
def lRecE (v : Int) (w : List Tii) (at' : Int) : List DV := [.list ((accsM v w at').map enciiiis)]
def lRecF (ds : List DV) : List DV := lRecE (gi ds 0) (gLii ds 1) (gi ds 2)
def lRecTree : PT :=
(.asrt (.bin .le (.un .len (.var 1)) (.int 1000000))
 (.loop 3 [.nil, (.int 0)]
  (.br (.un .not (.bin .le (.un .len (.bin .idx (.fn 119 (.bin .cons (.var 0) (.bin .cons (.var 1) .nil))) (.int 0))) (.var 4)))
   (.asrt (.bin .le (.int 0) (.var 4))
    (.asrt (.bin .le (.bin .add (.un .len (.var 3)) (.int 1)) (.int 4294967296))
     (.leaf [(.bin .snoc (.var 3) (.bin .cons (.int 5) (.bin .cons (.un (.wrap .i64) (.bin .add (.var 2) (.var 4))) (.bin .cons (.int 0) (.bin .cons (.int 0) (.bin .cons (.bin .idx (.bin .idx (.fn 119 (.bin .cons (.var 0) (.bin .cons (.var 1) .nil))) (.int 0)) (.bin .add (.int 0) (.var 4))) .nil)))))), (.un (.wrap .i64) (.bin .add (.var 4) (.int 1)))])))
   .fail)
  (.br (.un .not (.bin .le (.un .len (.bin .idx (.fn 119 (.bin .cons (.var 0) (.bin .cons (.var 1) .nil))) (.int 0))) (.var 4)))
   (.asrt (.bin .le (.int 0) (.var 4))
    (.asrt (.bin .le (.bin .add (.un .len (.var 3)) (.int 1)) (.int 4294967296))
     .fail))
   (.asrt (.bin .le (.bin .add (.un .len (.var 3)) (.int 1)) (.int 4294967296))
    (.leaf [(.bin .snoc (.var 3) (.bin .cons (.int 6) (.bin .cons (.int 0) (.bin .cons (.int 0) (.bin .cons (.int 0) (.bin .cons (.str []) .nil))))))])))))
def lRecSm : List (Nat × Smy) := [(38, ⟨119, [.agg [.pl (.int .i64), .rows false [.int .i64, .int .i64]]], [.one (.rows true [.str])], lenC [(1, 1000000)], none⟩)]
def lRecLa : List (LK × LA) := [(⟨31, 4, 5, 3, 1⟩, ⟨[(6, (.sl 5 5 (.int 0) (.un .len (.var 3)) none)), (7, (.int .i64 (.var 4))), (10, .any), (11, .any), (12, .any), (13, .any), (14, .any), (15, .any), (16, .any), (17, .any), (18, .any), (19, .any), (20, .any), (21, .any), (22, .any), (23, .any), (24, .any), (25, .any), (26, .any)], [(5, (.rows [.int .i64, .int .i64, .int .i64, .int .i64, .str] (.var 3)))], [], 2, 1⟩)]
def lRecPhi : Fs := ⟨fun n d => match n with
  | 119 => .list (rRecordF d.l)
  | _ => d, 147⟩
theorem lRecS : SmyOk true Tryd.prog lRecPhi lRecSm := (smy_cons (lenP [(1, 1000000)]) rRecordF rRecord_pure (len_hp [(1, 1000000)]) (fun _ => rfl) (fun _ h => by cases h) smy_nil)
theorem lRecT : treeOk ⟨Tryd.prog, lRecSm, lRecLa, true⟩ 4000 31 [.agg [.pl (.int .i64), .rows false [.int .i64, .int .i64]], .one (.pl (.int .i64))] [.one (.rows true [.int .i64, .int .i64, .int .i64, .int .i64, .str])] ([]) lRecTree = true := by decide +kernel
set_option maxHeartbeats 1000000 in
theorem lRec_pure : PureE true Tryd.prog 31 [.agg [.pl (.int .i64), .rows false [.int .i64, .int .i64]], .one (.pl (.int .i64))] [.one (.rows true [.int .i64, .int .i64, .int .i64, .int .i64, .str])] (lenP [(1, 1000000)]) lRecF := by
  refine pure_tree (X := ⟨Tryd.prog, lRecSm, lRecLa, true⟩) (by decide +kernel) (Checked.mixed Tryd.checked) lRecS (by decide +kernel) (by decide +kernel) lRecT (by decide +kernel) ?_
  intro ds hl hp
  obtain ⟨d0, d1, d2, rfl⟩ := len3 hl
  have b1 : (d1.l.length : Int) ≤ 1000000 := hp (1, 1000000) (by simp)
  have hF : lRecF [d0, d1, d2] = lRecE d0.i (d1.l.map decii) d2.i := rfl
  rw [hF]
  clear hF hp hl
  have hN : nrmL (clsOf [.agg [.pl (.int .i64), .rows false [.int .i64, .int .i64]], .one (.pl (.int .i64))]) [d0, d1, d2] = [.int d0.i, .list ((d1.l.map decii).map encii), .int d2.i] := by
    simp only [clsOf, Sh.cls, List.append_nil, List.cons_append, List.nil_append, nrmL, Cl.nrm, CK.nrm, map_Lii]
  rw [hN]
  clear hN
  generalize d0.i = x0
  rw [← List.length_map (f := decii)] at b1
  generalize d1.l.map decii = x1 at b1 ⊢
  generalize d2.i = x2
  refine ⟨facts_nil _, ?_⟩
  unfold lRecTree lRecE accsM
  simp only [Sat, clsOf, Sh.cls, List.append_nil, List.cons_append, List.nil_append, nrmL, Cl.nrm, List.map_cons, List.map_nil, List.length_cons, List.length_nil, List.cons.injEq, DV.list.injEq, and_true, true_and]
  try simp only [q_le, q_not, iff_true, iff_false, Bool.not_true, Bool.not_false, Bool.false_eq_true, eq_self]
  simp only [SE.den, evU, ev_add, ev_idx, ev_cons, ev_snoc, i_int, l_list, envL, List.getElem?_cons_succ, List.getElem?_cons_zero, Option.getD_some, Int.toNat_zero, List.length_map, Int.zero_add, rows_iiiis, rows_iiiis, rows_iiiis, rows_iiiis, rows_iiiis, lRecPhi, rRecordF, rRecordE, gi, gLii, deces_ii]
  have hr := record3_le x0 x1
  generalize record3 x0 x1 = r at *
  refine ⟨by omega, ?_⟩
  refine rounds_at r.length (fun i => [.list ((recAM x2 r i).map enciiiis), .int i]) rfl (fun _ => rfl) (fun i hi => ?_) ?_
  · have hwi : IntKind.i64.wrap ((i : Int) + 1) = ((i + 1 : Nat) : Int) := by rw [w64 (by omega) (by omega)]; omega
    simp only [i_int, l_list, List.getElem?_cons_succ, List.getElem?_cons_zero, Option.getD_some, Int.toNat_natCast, List.length_map, and_true, eq_self, DV.list.injEq, List.cons.injEq, hwi, recA_len, recA_succ]
    exact ⟨fun _ => ⟨by omega, by omega, by rw [raw_str hi, List.map_append]; rfl⟩, fun h => absurd h (by omega)⟩
  · simp only [i_int, l_list, List.getElem?_cons_succ, List.getElem?_cons_zero, Option.getD_some, List.length_map, recA_len]
    have e : List.map enciiiis (recAM x2 r r.length) ++ [DV.list [DV.int 6, DV.int 0, DV.int 0, DV.int 0, DV.str []]] = List.map enciiiis (recAM x2 r r.length ++ [(6, 0, 0, 0, [])]) := by rw [List.map_append]; rfl
    exact ⟨fun h => absurd (Int.le_refl _) h, fun _ => ⟨by omega, by rw [e, rows_iiiis]⟩⟩
end Go.Proofs.YtkfjgggiopegbaaDoor
end
section
namespace Go.Proofs.YtkfjgggiopegbaaDoor
set_option linter.unusedVariables false
set_option linter.unusedSimpArgs false
def recM (l : List (List UInt8)) : Nat → Int → Int → List TEn × Int
  | 0, a, _ => ([], a)
  | n + 1, a, last => match parseM l a with
    | none => ([], a)
    | some r => if r.1.1 ≤ last then ([], a) else (r.1 :: (recM l n (a + r.2) r.1.1).1, (recM l n (a + r.2) r.1.1).2)
def recoverM (l : List (List UInt8)) : List TEn × Int := recM l (l.length + 1) 0 0
theorem recM_none {l : List (List UInt8)} {n : Nat} {a last : Int} (h : parseM l a = none) : recM l (n + 1) a last = ([], a) := by unfold recM; rw [h]
theorem recM_old {l : List (List UInt8)} {n : Nat} {a last : Int} {r : TEn × Nat} (h : parseM l a = some r) (h1 : r.1.1 ≤ last) : recM l (n + 1) a last = ([], a) := by
  rw [recM, h]
  exact if_pos h1
theorem recM_some {l : List (List UInt8)} {n : Nat} {a last : Int} {r : TEn × Nat} (h : parseM l a = some r) (h1 : ¬ r.1.1 ≤ last) : recM l (n + 1) a last = (r.1 :: (recM l n (a + r.2) r.1.1).1, (recM l n (a + r.2) r.1.1).2) := by
  rw [recM, h]
  exact if_neg h1
theorem parse_w {l : List (List UInt8)} {a : Int} {r : TEn × Nat} (h : parseM l a = some r) : r.1.2.length ≤ 32 := by
  obtain ⟨c1, _⟩ := parse_canon (e := r.1) (n := r.2) h
  exact (validM_iff.1 c1).2.2.2
theorem recM_w : ∀ (n : Nat) (l : List (List UInt8)) (a last : Int), ∀ e ∈ (recM l n a last).1, e.2.length ≤ 32
  | 0, l, a, last, e, h => by simp [recM] at h
  | n + 1, l, a, last, e, h => by
    cases hp : parseM l a with
    | none => rw [recM_none hp] at h; simp at h
    | some r =>
      by_cases hr : r.1.1 ≤ last
      · rw [recM_old hp hr] at h; simp at h
      · rw [recM_some hp hr] at h
        rcases List.mem_cons.1 h with h | h
        · rw [h]; exact parse_w hp
        · exact recM_w n l _ _ e h
theorem recM_len : ∀ (n : Nat) (l : List (List UInt8)) (a last : Int), (recM l n a last).1.length ≤ n
  | 0, l, a, last => by simp [recM]
  | n + 1, l, a, last => by
    cases hp : parseM l a with
    | none => rw [recM_none hp]; simp
    | some r =>
      by_cases hr : r.1.1 ≤ last
      · rw [recM_old hp hr]; simp
      · rw [recM_some hp hr, List.length_cons]
        have := recM_len n l (a + r.2) r.1.1
        omega
theorem recover_w (l : List (List UInt8)) (i : Nat) : (((recoverM l).1[i]?).getD dEn).2.length ≤ 32 := by
  cases h : (recoverM l).1[i]? with
  | none => simp [dEn]
  | some e => exact recM_w _ _ _ _ e (List.mem_of_getElem? h)
theorem recover_len (l : List (List UInt8)) : (recoverM l).1.length ≤ l.length + 1 := recM_len _ _ _ _
end Go.Proofs.YtkfjgggiopegbaaDoor
end
section
namespace Go.Proofs.YtkfjgggiopegbaaDoor
set_option linter.unusedVariables false
set_option linter.unusedSimpArgs false
set_option maxRecDepth 100000
def wRecoverE (l : List (List UInt8)) : List DV := [.list ((recoverM l).1.map encEn), .int (recoverM l).2]
def wRecoverF (ds : List DV) : List DV := wRecoverE (gLs ds 0)
def wRecoverTree : PT :=
(.loop 1 [.nil, (.int 0), (.int 0)]
 (.asrt (.bin .le (.un .len (.var 0)) (.int 1000))
  (.br (.un .not (.bin .eq (.bin .idx (.fn 105 (.bin .cons (.var 0) (.bin .cons (.var 2) .nil))) (.int 3)) (.int 0)))
   .fail
   (.br (.bin .le (.bin .idx (.fn 105 (.bin .cons (.var 0) (.bin .cons (.var 2) .nil))) (.int 0)) (.var 3))
    .fail
    (.asrt (.bin .le (.bin .add (.un .len (.var 1)) (.int 1)) (.int 4294967296))
     (.leaf [(.bin .snoc (.var 1) (.bin .cons (.bin .idx (.fn 105 (.bin .cons (.var 0) (.bin .cons (.var 2) .nil))) (.int 0)) (.bin .cons (.bin .idx (.fn 105 (.bin .cons (.var 0) (.bin .cons (.var 2) .nil))) (.int 1)) .nil))), (.un (.wrap .i64) (.bin .add (.var 2) (.bin .idx (.fn 105 (.bin .cons (.var 0) (.bin .cons (.var 2) .nil))) (.int 2)))), (.bin .idx (.fn 105 (.bin .cons (.var 0) (.bin .cons (.var 2) .nil))) (.int 0))])))))
 (.asrt (.bin .le (.un .len (.var 0)) (.int 1000))
  (.br (.un .not (.bin .eq (.bin .idx (.fn 105 (.bin .cons (.var 0) (.bin .cons (.var 2) .nil))) (.int 3)) (.int 0)))
   (.leaf [(.var 1), (.var 2)])
   (.br (.bin .le (.bin .idx (.fn 105 (.bin .cons (.var 0) (.bin .cons (.var 2) .nil))) (.int 0)) (.var 3))
    (.leaf [(.var 1), (.var 2)])
    (.asrt (.bin .le (.bin .add (.un .len (.var 1)) (.int 1)) (.int 4294967296))
     .fail)))))
def wRecoverSm : List (Nat × Smy) := [(10, ⟨105, [.one (.rows false [.str]), .one (.pl (.int .i64))], [.agg [.pl (.int .i64), .rows true [.int .i64, .int .i64]], .one (.pl (.int .i64)), .one (.pl (.int .i64))], lenC [(0, 1000)], none⟩)]
def wRecoverLa : List (LK × LA) := [(⟨36, 3, 1, 1, 0⟩, ⟨[(4, (.sl 1 2 (.int 0) (.un .len (.var 1)) none)), (5, (.int .i64 (.var 2))), (6, (.int .i64 (.var 3))), (7, .any), (8, .any), (9, .any), (10, .any), (11, .any), (12, .any), (13, .any), (14, .any), (15, .any), (16, .any), (17, .any), (18, .any), (19, .any), (20, .any), (21, .any), (22, .any), (23, .any), (24, .any), (25, .any), (26, .any), (27, .any), (28, .any), (29, .any), (30, .any), (31, .any), (32, .any), (33, .any), (34, .any), (35, .any)], [(1, (.nrows [.pl (.int .i64), .sub [.int .i64, .int .i64]] (.var 1)))], [], 3, 1⟩)]
def wRecoverPhi : Fs := ⟨fun n d => match n with
  | 105 => .list (wParseF d.l)
  | _ => d, 147⟩
theorem wRecoverS : SmyOk true Tryd.prog wRecoverPhi wRecoverSm := (smy_cons (lenP [(0, 1000)]) wParseF wParse_pure (len_hp [(0, 1000)]) (fun _ => rfl) (fun _ h => by cases h) smy_nil)
theorem wRecoverT : treeOk ⟨Tryd.prog, wRecoverSm, wRecoverLa, true⟩ 4000 12 [.one (.rows false [.str])] [.one (.nst [.pl (.int .i64), .sub [.int .i64, .int .i64]]), .one (.pl (.int .i64))] ([]) wRecoverTree = true := by decide +kernel
set_option maxHeartbeats 1000000 in
theorem wRecover_pure : PureE true Tryd.prog 12 [.one (.rows false [.str])] [.one (.nst [.pl (.int .i64), .sub [.int .i64, .int .i64]]), .one (.pl (.int .i64))] (lenP [(0, 1000)]) wRecoverF := by
  refine pure_tree (X := ⟨Tryd.prog, wRecoverSm, wRecoverLa, true⟩) (by decide +kernel) (Checked.mixed Tryd.checked) wRecoverS (by decide +kernel) (by decide +kernel) wRecoverT (by decide +kernel) ?_
  intro ds hl hp
  obtain ⟨d0, rfl⟩ := len1 hl
  have b0 : (d0.l.length : Int) ≤ 1000 := hp (0, 1000) (by simp)
  have hF : wRecoverF [d0] = wRecoverE (d0.l.map DV.s) := rfl
  rw [hF]
  clear hF hp hl
  have hN : nrmL (clsOf [.one (.rows false [.str])]) [d0] = [.list ((d0.l.map DV.s).map DV.str)] := by
    simp only [clsOf, Sh.cls, List.append_nil, nrmL, Cl.nrm, map_Ls]
  rw [hN]
  clear hN
  rw [← List.length_map (f := DV.s)] at b0
  generalize d0.l.map DV.s = x0 at b0 ⊢
  refine ⟨facts_nil _, ?_⟩
  unfold wRecoverTree wRecoverE
  simp only [Sat, clsOf, Sh.cls, List.append_nil, List.cons_append, List.nil_append, nrmL, Cl.nrm, CK.nrm, List.map_cons, List.map_nil, List.length_cons, List.length_nil, List.cons.injEq, DV.int.injEq, DV.list.injEq, and_true, true_and]
  try simp only [q_le, q_eq, q_not, iff_true, iff_false, Bool.not_true, Bool.not_false, Bool.false_eq_true, eq_self]
  simp only [SE.den, evU, ev_add, ev_idx, ev_cons, ev_snoc, i_int, l_list, envL, List.getElem?_cons_succ, List.getElem?_cons_zero, Option.getD_some, Int.toNat_zero, Int.reduceToNat, List.length_map, rows_En, rows_En, wRecoverPhi, wParseF, wParseE, gi, gLs, dece_s]
  refine rounds_inv (fun y => ∃ (acc : List TEn) (a last : Int) (n : Nat), y = [DV.list (acc.map encEn), DV.int a, DV.int last] ∧ 0 ≤ a ∧ a ≤ x0.length ∧ (acc.length : Int) ≤ a ∧ (x0.length : Int) - a < n ∧ acc ++ (recM x0 n a last).1 = (recoverM x0).1 ∧ (recM x0 n a last).2 = (recoverM x0).2) (fun y => ((x0.length : Int) - (((y[1]?).getD (DV.int 0)).i)).toNat) ⟨[], 0, 0, x0.length + 1, rfl, by omega, by omega, by simp, by omega, rfl, rfl⟩ ?_
  rintro y ⟨acc, a, last, n, rfl, h0, h1, h2, h3, h4, h5⟩
  cases n with
  | zero => omega
  | succ n =>
  cases hp : parseM x0 a with
  | none =>
    rw [recM_none hp] at h4 h5
    left
    simp only [i_int, l_list, List.getElem?_cons_succ, List.getElem?_cons_zero, Option.getD_some, List.length_map, rows_En, inj_LEn, rows_En, inj_LEn, hp, parse4]
    exact ⟨b0, fun _ => ⟨by simpa using h4, h5⟩, fun h => absurd h (by omega)⟩
  | some r =>
    by_cases hr : r.1.1 ≤ last
    · rw [recM_old hp hr] at h4 h5
      left
      simp only [i_int, l_list, List.getElem?_cons_succ, List.getElem?_cons_zero, Option.getD_some, List.length_map, eq_self, not_true_eq_false, rows_En, inj_LEn, rows_En, inj_LEn, hp, parse4]
      exact ⟨b0, fun h => h.elim, fun _ => ⟨fun _ => ⟨by simpa using h4, h5⟩, fun h => absurd hr h⟩⟩
    · rw [recM_some hp hr] at h4 h5
      obtain ⟨_, _, _, c4, c5, _, _⟩ := parse_canon (e := r.1) (n := r.2) hp
      have hw : IntKind.i64.wrap (a + (r.2 : Int)) = a + r.2 := w64 (by omega) (by omega)
      right
      simp only [i_int, l_list, List.getElem?_cons_succ, List.getElem?_cons_zero, Option.getD_some, List.length_map, eq_self, not_true_eq_false, hp, parse4, hw]
      refine ⟨_, ⟨b0, fun h => h, fun _ => ⟨fun h => absurd h hr, fun _ => ⟨by omega, rfl⟩⟩⟩, rfl, ⟨acc ++ [r.1], a + r.2, r.1.1, n, ?_, by omega, by omega, by simp only [List.length_append, List.length_cons, List.length_nil]; omega, by omega, ?_, h5⟩, ?_⟩
      · rw [List.map_append]; rfl
      · rw [List.append_assoc]; exact h4
      · show ((x0.length : Int) - (a + r.2)).toNat < _
        omega
end Go.Proofs.YtkfjgggiopegbaaDoor
end
section
namespace Go.Proofs.YtkfjgggiopegbaaDoor
set_option linter.unusedVariables false
set_option linter.unusedSimpArgs false
def lastM : List TEn → Int → Option (Tii × Int)
  | [], _ => none
  | e :: r, k => match lastM r k with
    | some x => some x
    | none => (e.2.find? fun w => decide (w.1 = k)).map fun w => (w, e.1)
theorem last_app (b : List TEn) (k : Int) : ∀ a : List TEn, lastM (a ++ b) k = match lastM b k with | some x => some x | none => lastM a k
  | [] => by cases h : lastM b k <;> simp [h, lastM]
  | e :: a => by
    have ih := last_app b k a
    have e1 : ∀ r, lastM (e :: r) k = match lastM r k with | some x => some x | none => (e.2.find? fun w => decide (w.1 = k)).map fun w => (w, e.1) := fun _ => rfl
    show lastM (e :: (a ++ b)) k = _
    rw [e1, e1, ih]
    cases h : lastM b k <;> simp
theorem last_at {es : List TEn} {i : Nat} (hi : i < es.length) (k : Int) : lastM (es.drop i) k = match lastM (es.drop (i + 1)) k with | some x => some x | none => ((es[i]?.getD dEn).2.find? fun w => decide (w.1 = k)).map fun w => (w, (es[i]?.getD dEn).1) := by
  rw [List.drop_eq_getElem_cons hi, List.getElem?_eq_getElem hi]
  rfl
theorem last_app_some {es : List TEn} {k : Int} {n : Nat} {x : Tii × Int} (h : lastM (es.drop n) k = some x) : lastM es k = some x := by
  have := last_app (es.drop n) k (es.take n)
  rw [List.take_append_drop, h] at this
  exact this
theorem find_first {w : List Tii} {k : Int} {x : Tii} (h : w.find? (fun w => decide (w.1 = k)) = some x) : ∃ j, j < w.length ∧ w[j]?.getD dii = x ∧ x.1 = k ∧ ∀ t, t < j → (w[t]?.getD dii).1 ≠ k := by
  induction w with
  | nil => cases h
  | cons a w ih =>
    rw [List.find?_cons] at h
    by_cases ha : a.1 = k
    · simp only [ha, decide_true, Option.some.injEq] at h
      exact ⟨0, by simp, by simpa using h, by rw [← h]; exact ha, fun t ht => absurd ht (by omega)⟩
    · simp only [ha, decide_false] at h
      obtain ⟨j, h1, h2, h3, h4⟩ := ih h
      refine ⟨j + 1, by simpa using h1, by simpa using h2, h3, fun t ht => ?_⟩
      cases t with
      | zero => simpa using ha
      | succ t => simpa using h4 t (by omega)
theorem find_none {w : List Tii} {k : Int} (h : w.find? (fun w => decide (w.1 = k)) = none) : ∀ j, j < w.length → (w[j]?.getD dii).1 ≠ k := by
  intro j hj
  rw [List.getElem?_eq_getElem hj]
  have := List.find?_eq_none.1 h (w[j]) (List.getElem_mem hj)
  simpa using this
theorem raw_En_0 (l : List TEn) (j : Nat) : ((((l.map encEn)[j]?).getD (DV.int 0)).l[0]?).getD (DV.int 0) = .int ((l[j]?).getD dEn).1 := by rw [List.getElem?_map]; cases l[j]? <;> rfl
theorem scan_loop {B : List DV → List DV → Prop} {R : List DV → Prop} {w : List Tii} {k : Int} {j : Nat} (hj : j ≤ w.length) (hno : ∀ t, t < j → (w[t]?.getD dii).1 ≠ k)
    (hB : ∀ t : Nat, t < w.length → (w[t]?.getD dii).1 ≠ k → B [.int t] [.int ((t + 1 : Nat) : Int)]) (hR : R [.int (j : Nat)]) : Rounds B R [.int 0] :=
  rounds_at j (fun t => [.int t]) rfl (fun _ => rfl) (fun t ht => hB t (by omega) (hno t ht)) hR
theorem last_loop {B : List DV → List DV → Prop} {R : List DV → Prop} (es : List TEn) (k : Int)
    (hB : ∀ i, i < es.length → (∀ j, j < (es[i]?.getD dEn).2.length → ((es[i]?.getD dEn).2[j]?.getD dii).1 ≠ k) → B [.int (i : Nat)] [.int ((i : Int) - 1)])
    (hN : lastM es k = none → R [.int (-1)])
    (hS : ∀ i j, i < es.length → j < (es[i]?.getD dEn).2.length → (∀ t, t < j → ((es[i]?.getD dEn).2[t]?.getD dii).1 ≠ k) → ((es[i]?.getD dEn).2[j]?.getD dii).1 = k → lastM es k = some ((es[i]?.getD dEn).2[j]?.getD dii, (es[i]?.getD dEn).1) → R [.int (i : Nat)]) :
    Rounds B R [.int ((es.length : Int) - 1)] := by
  have : ∀ n, n ≤ es.length → lastM (es.drop n) k = none → Rounds B R [.int ((n : Int) - 1)] := by
    intro n
    induction n with
    | zero => intro _ h; exact .done (hN h)
    | succ n ih =>
      intro hn h
      have e : (((n + 1 : Nat) : Int) - 1) = (n : Int) := by omega
      rw [e]
      have ha := last_at (show n < es.length by omega) k
      rw [h] at ha
      cases hf : (es[n]?.getD dEn).2.find? (fun w => decide (w.1 = k)) with
      | none =>
        rw [hf] at ha
        exact .step _ (hB n (by omega) (find_none hf)) rfl (ih (by omega) ha)
      | some x =>
        rw [hf] at ha
        obtain ⟨j, h1, h2, h3, h4⟩ := find_first hf
        refine .done (hS n j (by omega) h1 h4 (by rw [h2]; exact h3) ?_)
        rw [h2]
        exact last_app_some ha
  exact this es.length (Nat.le_refl _) (by rw [List.drop_length]; rfl)
def cellG (base locs ck sp en : Int) (V W : Int → Int) (i : Int) : Int :=
  if i = 0 then ck else if i = 1 then sp else if i = 3 then en else if i < base ∨ base + 4 * locs ≤ i then 0
  else if (i - base) % 4 = 0 then W ((i - base) / 4) else if (i - base) % 4 = 1 then V ((i - base) / 4) else 0
def cellsG (n : Nat) (base locs ck sp en : Int) (V W : Int → Int) : List Int := (List.range n).map fun i : Nat => cellG base locs ck sp en V W i
theorem cells_len (n : Nat) (base locs ck sp en : Int) (V W : Int → Int) : (cellsG n base locs ck sp en V W).length = n := by simp [cellsG]
theorem cells_get {n : Nat} {base locs ck sp en : Int} {V W : Int → Int} {i : Nat} (h : i < n) : (cellsG n base locs ck sp en V W)[i]?.getD 0 = cellG base locs ck sp en V W i := by simp [cellsG, h]
theorem cells_ext {n : Nat} {f g : Nat → Int} (h : ∀ i : Nat, i < n → f i = g i) : (List.range n).map f = (List.range n).map g := by
  apply List.map_congr_left
  intro i hi
  exact h i (List.mem_range.1 hi)
theorem set_range {n : Nat} (f : Nat → Int) (j : Nat) (v : Int) : ((List.range n).map f).set j v = (List.range n).map fun i => if i = j then v else f i := by
  apply List.ext_getElem?
  intro i
  rw [List.getElem?_set]
  by_cases hi : i < n
  · by_cases hj : j = i
    · subst hj; simp [hi]
    · have : ¬ (i = j) := by omega
      simp [hi, hj, this]
  · simp [hi]
    intro h
    omega
theorem cells_zero (n : Nat) (base locs : Int) : List.replicate n (0 : Int) = cellsG n base locs 0 0 0 (fun _ => 0) (fun _ => 0) := by
  apply List.ext_getElem?
  intro i
  by_cases hi : i < n
  · simp [cellsG, hi, cellG]
  · simp [cellsG, hi]
def updF (V : Int → Int) (k v : Int) : Int → Int := fun x => if x = k then v else V x
section
variable {n : Nat} {base locs ck sp en : Int} {V W : Int → Int}
theorem set_ck (c : Int) : (cellsG n base locs ck sp en V W).set 0 c = cellsG n base locs c sp en V W := by
  unfold cellsG
  rw [set_range]
  refine cells_ext fun i hi => ?_
  unfold cellG
  by_cases h : i = 0
  · subst h
    rw [if_pos rfl]
    simp
  · have h2 : ¬ (i : Int) = 0 := by omega
    rw [if_neg h]
    simp only [h2, if_false]
theorem set_sp (c : Int) : (cellsG n base locs ck sp en V W).set 1 c = cellsG n base locs ck c en V W := by
  unfold cellsG
  rw [set_range]
  refine cells_ext fun i hi => ?_
  unfold cellG
  by_cases h : i = 1
  · subst h
    rw [if_pos rfl]
    simp
  · have h2 : ¬ (i : Int) = 1 := by omega
    rw [if_neg h]
    simp only [h2, if_false]
theorem set_en (c : Int) : (cellsG n base locs ck sp en V W).set 3 c = cellsG n base locs ck sp c V W := by
  unfold cellsG
  rw [set_range]
  refine cells_ext fun i hi => ?_
  unfold cellG
  by_cases h : i = 3
  · subst h
    rw [if_pos rfl]
    simp
  · have h2 : ¬ (i : Int) = 3 := by omega
    rw [if_neg h]
    simp only [h2, if_false]
theorem set_V {k : Int} (v : Int) (h0 : 0 ≤ k) (h1 : k < locs) (hb : 4 ≤ base) : (cellsG n base locs ck sp en V W).set (base + 4 * k + 1).toNat v = cellsG n base locs ck sp en (updF V k v) W := by
  unfold cellsG
  rw [set_range]
  refine cells_ext fun i hi => ?_
  unfold cellG updF
  by_cases hk : i = (base + 4 * k + 1).toNat
  · have h4 : ((i : Int) - base) % 4 = 1 := by omega
    have hd : ((i : Int) - base) / 4 = k := by omega
    rw [if_pos hk, if_neg (by omega), if_neg (by omega), if_neg (by omega), if_neg (by omega), if_neg (by omega), if_pos h4, if_pos hd]
  · rw [if_neg hk]
    by_cases h2 : (i : Int) = 0
    · rw [if_pos h2, if_pos h2]
    rw [if_neg h2, if_neg h2]
    by_cases h3 : (i : Int) = 1
    · rw [if_pos h3, if_pos h3]
    rw [if_neg h3, if_neg h3]
    by_cases h4 : (i : Int) = 3
    · rw [if_pos h4, if_pos h4]
    rw [if_neg h4, if_neg h4]
    by_cases h5 : (i : Int) < base ∨ base + 4 * locs ≤ i
    · rw [if_pos h5, if_pos h5]
    rw [if_neg h5, if_neg h5]
    by_cases h6 : ((i : Int) - base) % 4 = 0
    · rw [if_pos h6, if_pos h6]
    rw [if_neg h6, if_neg h6]
    by_cases h7 : ((i : Int) - base) % 4 = 1
    · rw [if_pos h7, if_pos h7, if_neg (by omega)]
    rw [if_neg h7, if_neg h7]
theorem set_W {k : Int} (v : Int) (h0 : 0 ≤ k) (h1 : k < locs) (hb : 4 ≤ base) : (cellsG n base locs ck sp en V W).set (base + 4 * k).toNat v = cellsG n base locs ck sp en V (updF W k v) := by
  unfold cellsG
  rw [set_range]
  refine cells_ext fun i hi => ?_
  unfold cellG updF
  by_cases hk : i = (base + 4 * k).toNat
  · have h4 : ((i : Int) - base) % 4 = 0 := by omega
    have hd : ((i : Int) - base) / 4 = k := by omega
    rw [if_pos hk, if_neg (by omega), if_neg (by omega), if_neg (by omega), if_neg (by omega), if_pos h4, if_pos hd]
  · rw [if_neg hk]
    by_cases h2 : (i : Int) = 0
    · rw [if_pos h2, if_pos h2]
    rw [if_neg h2, if_neg h2]
    by_cases h3 : (i : Int) = 1
    · rw [if_pos h3, if_pos h3]
    rw [if_neg h3, if_neg h3]
    by_cases h4 : (i : Int) = 3
    · rw [if_pos h4, if_pos h4]
    rw [if_neg h4, if_neg h4]
    by_cases h5 : (i : Int) < base ∨ base + 4 * locs ≤ i
    · rw [if_pos h5, if_pos h5]
    rw [if_neg h5, if_neg h5]
    by_cases h6 : ((i : Int) - base) % 4 = 0
    · rw [if_pos h6, if_pos h6, if_neg (by omega)]
    rw [if_neg h6, if_neg h6]
theorem cells_congr {V' W' : Int → Int} (hV : ∀ k, 0 ≤ k → k < locs → V k = V' k) (hW : ∀ k, 0 ≤ k → k < locs → W k = W' k) : cellsG n base locs ck sp en V W = cellsG n base locs ck sp en V' W' := by
  refine cells_ext fun i hi => ?_
  unfold cellG
  by_cases h5 : (i : Int) < base ∨ base + 4 * locs ≤ i
  · rw [if_pos h5, if_pos h5]
  · rw [if_neg h5, if_neg h5, hV _ (by omega) (by omega), hW _ (by omega) (by omega)]
end
def freeM (v : Int) : Int := IntKind.i64.wrap (2 * v)
def valM (es : List TEn) (first : List Int) (k : Int) : Int := match lastM es k with | some x => x.1.2 | none => first[k.toNat]?.getD 0
def wordM (es : List TEn) (k : Int) : Int := match lastM es k with | some x => freeM x.2 | none => 0
def clkM (es : List TEn) : Int := (es[es.length - 1]?.getD dEn).1
def bootM (n : Nat) (base locs : Int) (first : List Int) (es : List TEn) (en : Int) : List Int := cellsG n base locs (clkM es) 1 en (valM es first) (wordM es)
theorem boot_len (n : Nat) (base locs : Int) (first : List Int) (es : List TEn) (en : Int) : (bootM n base locs first es en).length = n := cells_len ..
theorem place_in {locs base : Int} {n : Nat} {a : Int} (h0 : 0 ≤ base) (h1 : base ≤ 1000) (h2 : (n : Int) < locs) (h3 : locs ≤ 100) (ha : 0 ≤ a) (ha2 : a ≤ 4) : placeM base locs n 4 a = base + 4 * n + a := by
  unfold placeM
  rw [if_neg (by omega)]
  simp only [w64_eq]
  omega
def stageC (n : Nat) (base locs : Int) (first : List Int) (es : List TEn) (en : Int) (j : Nat) : List Int := cellsG n base locs (clkM es) 1 en (fun k => if k < (j : Int) then valM es first k else first[k.toNat]?.getD 0) (fun k => if k < (j : Int) then wordM es k else 0)
theorem stageC_len (n : Nat) (base locs : Int) (first : List Int) (es : List TEn) (en : Int) (j : Nat) : (stageC n base locs first es en j).length = n := cells_len ..
section
variable {n : Nat} {base locs : Int} {first : List Int} {es : List TEn} {en : Int} {j : Nat}
theorem stageC_end : stageC n base locs first es en locs.toNat = bootM n base locs first es en := by
  refine cells_congr (fun k h0 h1 => ?_) (fun k h0 h1 => ?_) <;> exact if_pos (by omega)
theorem upd_step {V : Int → Int} {v : Int} {z : Int → Int} (hv : V j = v) (k : Int) : updF (fun k => if k < (j : Int) then V k else z k) j v k = if k < ((j + 1 : Nat) : Int) then V k else z k := by
  show (if k = (j : Int) then v else if k < (j : Int) then V k else z k) = _
  by_cases hk : k = (j : Int)
  · rw [if_pos hk, if_pos (by omega), hk, hv]
  · rw [if_neg hk]
    by_cases h : k < (j : Int)
    · rw [if_pos h, if_pos (by omega)]
    · rw [if_neg h, if_neg (by omega)]
theorem stay_step {V : Int → Int} {z : Int → Int} (hv : V j = z j) (k : Int) : (if k < (j : Int) then V k else z k) = if k < ((j + 1 : Nat) : Int) then V k else z k := by
  by_cases hk : k = (j : Int)
  · subst hk
    rw [if_neg (by omega), if_pos (by omega), hv]
  · by_cases h : k < (j : Int)
    · rw [if_pos h, if_pos (by omega)]
    · rw [if_neg h, if_neg (by omega)]
theorem stageC_none (h : lastM es j = none) : stageC n base locs first es en (j + 1) = stageC n base locs first es en j := by
  refine cells_congr (fun k h0 h1 => ?_) (fun k h0 h1 => ?_)
  · refine (stay_step (V := valM es first) (z := fun k => first[k.toNat]?.getD 0) ?_ k).symm
    simp [valM, h]
  · refine (stay_step (V := wordM es) (z := fun _ => 0) ?_ k).symm
    simp [wordM, h]
theorem stageC_some {x : Tii × Int} (h : lastM es j = some x) (hj : (j : Int) < locs) (hb : 4 ≤ base) : ((stageC n base locs first es en j).set (base + 4 * j + 1).toNat x.1.2).set (base + 4 * j).toNat (freeM x.2) = stageC n base locs first es en (j + 1) := by
  unfold stageC
  rw [set_V _ (by omega) hj hb, set_W _ (by omega) hj hb]
  refine cells_congr (fun k h0 h1 => ?_) (fun k h0 h1 => ?_)
  · exact upd_step (V := valM es first) (z := fun k => first[k.toNat]?.getD 0) (by simp [valM, h]) k
  · exact upd_step (V := wordM es) (z := fun _ => 0) (by simp [wordM, h]) k
end
def initV (first : List Int) (n : Nat) : Int → Int := fun k => if k < (n : Int) then first[k.toNat]?.getD 0 else 0
theorem do_store {m : List Int} {c : Int} (h0 : 0 ≤ c) (h1 : c < m.length) (n : Int) : doM m 2 c 0 n [] = (m.set c.toNat n, (m[c.toNat]?.getD 0, true), 0) := by
  have hr : rightM 2 c 0 n [] = true := by simp [rightM, h0]
  unfold doM
  rw [if_pos hr, if_pos h1]
  simp [nextM]
theorem allM_snoc (m0 : List Int) (a : Tiiiis) : ∀ (l : List Tiiiis) (m : List Int) (told : List Tib) (m1 : List Int) (t1 : List Tib), allM m0 l m told = (m1, t1, 0) → (doM m1 a.1 a.2.1 a.2.2.1 a.2.2.2.1 a.2.2.2.2).2.2 = 0 →
    allM m0 (l ++ [a]) m told = ((doM m1 a.1 a.2.1 a.2.2.1 a.2.2.2.1 a.2.2.2.2).1, t1 ++ [(doM m1 a.1 a.2.1 a.2.2.1 a.2.2.2.1 a.2.2.2.2).2.1], 0)
  | [], m, told, m1, t1, h, h0 => by
    have h : (m, told, (0 : Int)) = (m1, t1, 0) := h
    simp only [Prod.mk.injEq] at h
    obtain ⟨rfl, rfl, _⟩ := h
    show allM m0 [a] m told = _
    unfold allM
    rw [if_pos h0]
    rfl
  | x :: l, m, told, m1, t1, h, h0 => by
    show allM m0 (x :: (l ++ [a])) m told = _
    unfold allM at h ⊢
    by_cases hx : (doM m x.1 x.2.1 x.2.2.1 x.2.2.2.1 x.2.2.2.2).2.2 = 0
    · rw [if_pos hx] at h ⊢
      exact allM_snoc m0 a l _ _ m1 t1 h h0
    · rw [if_neg hx] at h
      simp only [Prod.mk.injEq] at h
      exact absurd h.2.2 hx
theorem inits_all {sz : Nat} {locs base : Int} (first : List Int) (h0 : 4 ≤ base) (h1 : base ≤ 1000) (h3 : locs ≤ 100) (h4 : base + 4 * locs ≤ sz) (h5 : 4 ≤ sz) : ∀ n : Nat, (n : Int) ≤ locs →
    ∃ t, allM (List.replicate sz 0) ((2, 1, 0, 1, []) :: initsM locs base first n) (List.replicate sz 0) [] = (cellsG sz base locs 0 1 0 (initV first n) (fun _ => 0), t, 0)
  | 0, _ => by
    have e := do_store (m := List.replicate sz (0 : Int)) (c := 1) (by omega) (by simp; omega) 1
    refine ⟨[((List.replicate sz (0 : Int))[(1 : Int).toNat]?.getD 0, true)], ?_⟩
    have h : allM (List.replicate sz 0) [(2, 1, 0, 1, [])] (List.replicate sz 0) [] = ((List.replicate sz 0).set 1 1, [((List.replicate sz (0 : Int))[(1 : Int).toNat]?.getD 0, true)], 0) := by
      unfold allM
      rw [e]
      rfl
    refine h.trans ?_
    rw [cells_zero sz base locs, set_sp]
    congr 1
    refine cells_congr (fun k a b => ?_) fun _ _ _ => rfl
    unfold initV
    rw [if_neg (by omega)]
  | n + 1, hn => by
    obtain ⟨t, ht⟩ := inits_all first h0 h1 h3 h4 h5 n (by omega)
    have hp := place_in (n := n) (a := 1) (show 0 ≤ base by omega) h1 (show (n : Int) < locs by omega) h3 (by omega) (by omega)
    have e := do_store (m := cellsG sz base locs 0 1 0 (initV first n) (fun _ => 0)) (c := placeM base locs n 4 1) (by omega) (by rw [cells_len]; omega) (first[n]?.getD 0)
    have := allM_snoc _ (2, placeM base locs n 4 1, 0, first[n]?.getD 0, []) _ _ _ _ _ ht (by simp only [e])
    simp only [e] at this
    refine ⟨t ++ [((cellsG sz base locs 0 1 0 (initV first n) (fun _ => 0))[(placeM base locs n 4 1).toNat]?.getD 0, true)], this.trans ?_⟩
    rw [hp, set_V _ (by omega) (by omega) h0]
    congr 1
    refine cells_congr (fun k a b => ?_) fun _ _ _ => rfl
    exact upd_step (V := fun k => first[k.toNat]?.getD 0) (z := fun _ => 0) (by simp) k
theorem stage_zero {sz : Nat} {base locs en : Int} {first : List Int} {es : List TEn} {n : Nat} (hn : (n : Int) = first.length ∨ (n : Int) = locs) : cellsG sz base locs (clkM es) 1 en (initV first n) (fun _ => 0) = stageC sz base locs first es en 0 := by
  refine cells_congr (fun k h0 h1 => ?_) (fun k h0 h1 => ?_)
  · unfold initV
    rw [if_neg (show ¬ k < ((0 : Nat) : Int) by omega)]
    by_cases hk : k < (n : Int)
    · rw [if_pos hk]
    · rw [if_neg hk, List.getElem?_eq_none (by omega)]
      rfl
  · rw [if_neg (by omega)]
theorem stage_nil {sz : Nat} {base locs en : Int} {first : List Int} {V : Int → Int} (h : cellsG sz base locs (clkM []) 1 en V (fun _ => 0) = stageC sz base locs first [] en 0) : cellsG sz base locs 0 1 en V (fun _ => 0) = bootM sz base locs first [] en := by
  refine (show cellsG sz base locs 0 1 en V (fun _ => 0) = cellsG sz base locs (clkM []) 1 en V (fun _ => 0) from rfl).trans (h.trans ?_)
  refine cells_congr (fun k h0 h1 => ?_) (fun k h0 h1 => ?_)
  · rw [if_neg (by omega)]; rfl
  · rw [if_neg (by omega)]; rfl
end Go.Proofs.YtkfjgggiopegbaaDoor
end
section
namespace Go.Proofs.YtkfjgggiopegbaaDoor
set_option linter.unusedVariables false
set_option linter.unusedSimpArgs false
set_option maxRecDepth 100000
def dBootE (t l k s m a0 a1 a2 a3 a4 a5 a6 a7 : Int) (first : List Int) (sec : List (List UInt8)) (was : List Tis) : List DV := [.list ((bootM a7.toNat a6 l first (recoverM sec).1 (recoverM sec).2).map DV.int), .list ((recoverM sec).1.map encEn)]
def dBootF (ds : List DV) : List DV := dBootE (gi ds 0) (gi ds 1) (gi ds 2) (gi ds 3) (gi ds 4) (gi ds 5) (gi ds 6) (gi ds 7) (gi ds 8) (gi ds 9) (gi ds 10) (gi ds 11) (gi ds 12) (gLi ds 13) (gLs ds 14) (gLis ds 15)
def dBootTree : PT :=
(.asrt (.bin .le (.un .len (.var 14)) (.int 1000))
 (.asrt (.bin .le (.int 0) (.var 12))
  (.asrt (.bin .le (.var 12) (.int 1000000))
   (.asrt (.bin .le (.un .len (.var 13)) (.int 1000000))
    (.asrt (.bin .le (.int 0) (.var 1))
     (.asrt (.bin .le (.var 1) (.int 1000))
      (.asrt (.bin .le (.bin .add (.int 0) (.var 12)) (.un .len (.bin .rep (.var 12) (.int 0))))
       (.asrt (.bin .le (.un .len (.bin .take (.bin .drop (.bin .rep (.var 12) (.int 0)) (.int 0)) (.var 12))) (.int 1000000))
        (.asrt (.bin .le (.un .len (.bin .idx (.fn 27 (.bin .cons (.var 0) (.bin .cons (.var 1) (.bin .cons (.var 2) (.bin .cons (.var 3) (.bin .cons (.var 4) (.bin .cons (.var 5) (.bin .cons (.var 6) (.bin .cons (.var 7) (.bin .cons (.var 8) (.bin .cons (.var 9) (.bin .cons (.var 10) (.bin .cons (.var 11) (.bin .cons (.var 12) (.bin .cons (.var 13) .nil))))))))))))))) (.int 0))) (.int 1000000))
         (.br (.bin .le (.un .len (.bin .idx (.fn 8 (.bin .cons (.bin .take (.bin .drop (.bin .rep (.var 12) (.int 0)) (.int 0)) (.var 12)) (.bin .cons (.bin .idx (.fn 27 (.bin .cons (.var 0) (.bin .cons (.var 1) (.bin .cons (.var 2) (.bin .cons (.var 3) (.bin .cons (.var 4) (.bin .cons (.var 5) (.bin .cons (.var 6) (.bin .cons (.var 7) (.bin .cons (.var 8) (.bin .cons (.var 9) (.bin .cons (.var 10) (.bin .cons (.var 11) (.bin .cons (.var 12) (.bin .cons (.var 13) .nil))))))))))))))) (.int 0)) .nil))) (.int 0))) (.int 0))
          (.both
           .fail
           (.asrt (.bin .le (.int 0) (.var 8))
            .fail))
          (.asrt (.bin .le (.un .len (.bin .idx (.fn 8 (.bin .cons (.bin .take (.bin .drop (.bin .rep (.var 12) (.int 0)) (.int 0)) (.var 12)) (.bin .cons (.bin .idx (.fn 27 (.bin .cons (.var 0) (.bin .cons (.var 1) (.bin .cons (.var 2) (.bin .cons (.var 3) (.bin .cons (.var 4) (.bin .cons (.var 5) (.bin .cons (.var 6) (.bin .cons (.var 7) (.bin .cons (.var 8) (.bin .cons (.var 9) (.bin .cons (.var 10) (.bin .cons (.var 11) (.bin .cons (.var 12) (.bin .cons (.var 13) .nil))))))))))))))) (.int 0)) .nil))) (.int 0))) (.int 4294967296))
           (.asrt (.bin .le (.int 0) (.var 8))
            (.asrt (.un .not (.bin .le (.un .len (.bin .idx (.fn 8 (.bin .cons (.bin .take (.bin .drop (.bin .rep (.var 12) (.int 0)) (.int 0)) (.var 12)) (.bin .cons (.bin .idx (.fn 27 (.bin .cons (.var 0) (.bin .cons (.var 1) (.bin .cons (.var 2) (.bin .cons (.var 3) (.bin .cons (.var 4) (.bin .cons (.var 5) (.bin .cons (.var 6) (.bin .cons (.var 7) (.bin .cons (.var 8) (.bin .cons (.var 9) (.bin .cons (.var 10) (.bin .cons (.var 11) (.bin .cons (.var 12) (.bin .cons (.var 13) .nil))))))))))))))) (.int 0)) .nil))) (.int 0))) (.var 8)))
             (.br (.un .not (.bin .le (.un .len (.bin .idx (.fn 153 (.bin .cons (.var 14) .nil)) (.int 0))) (.int 0)))
              (.asrt (.bin .le (.int 0) (.un (.wrap .i64) (.bin .sub (.un .len (.bin .idx (.fn 153 (.bin .cons (.var 14) .nil)) (.int 0))) (.int 1))))
               (.asrt (.un .not (.bin .le (.un .len (.bin .idx (.fn 153 (.bin .cons (.var 14) .nil)) (.int 0))) (.un (.wrap .i64) (.bin .sub (.un .len (.bin .idx (.fn 153 (.bin .cons (.var 14) .nil)) (.int 0))) (.int 1)))))
                (.asrt (.bin .le (.int 0) (.var 5))
                 (.asrt (.un .not (.bin .le (.un .len (.bin .idx (.fn 8 (.bin .cons (.bin .take (.bin .drop (.bin .rep (.var 12) (.int 0)) (.int 0)) (.var 12)) (.bin .cons (.bin .idx (.fn 27 (.bin .cons (.var 0) (.bin .cons (.var 1) (.bin .cons (.var 2) (.bin .cons (.var 3) (.bin .cons (.var 4) (.bin .cons (.var 5) (.bin .cons (.var 6) (.bin .cons (.var 7) (.bin .cons (.var 8) (.bin .cons (.var 9) (.bin .cons (.var 10) (.bin .cons (.var 11) (.bin .cons (.var 12) (.bin .cons (.var 13) .nil))))))))))))))) (.int 0)) .nil))) (.int 0))) (.var 5)))
                  (.asrt (.un .not (.bin .le (.un .len (.tri .set (.bin .idx (.fn 8 (.bin .cons (.bin .take (.bin .drop (.bin .rep (.var 12) (.int 0)) (.int 0)) (.var 12)) (.bin .cons (.bin .idx (.fn 27 (.bin .cons (.var 0) (.bin .cons (.var 1) (.bin .cons (.var 2) (.bin .cons (.var 3) (.bin .cons (.var 4) (.bin .cons (.var 5) (.bin .cons (.var 6) (.bin .cons (.var 7) (.bin .cons (.var 8) (.bin .cons (.var 9) (.bin .cons (.var 10) (.bin .cons (.var 11) (.bin .cons (.var 12) (.bin .cons (.var 13) .nil))))))))))))))) (.int 0)) .nil))) (.int 0)) (.bin .add (.int 0) (.var 8)) (.bin .idx (.fn 153 (.bin .cons (.var 14) .nil)) (.int 1)))) (.bin .add (.int 0) (.var 5))))
                   (.loop 16 [(.int 0), (.tri .set (.tri .set (.bin .idx (.fn 8 (.bin .cons (.bin .take (.bin .drop (.bin .rep (.var 12) (.int 0)) (.int 0)) (.var 12)) (.bin .cons (.bin .idx (.fn 27 (.bin .cons (.var 0) (.bin .cons (.var 1) (.bin .cons (.var 2) (.bin .cons (.var 3) (.bin .cons (.var 4) (.bin .cons (.var 5) (.bin .cons (.var 6) (.bin .cons (.var 7) (.bin .cons (.var 8) (.bin .cons (.var 9) (.bin .cons (.var 10) (.bin .cons (.var 11) (.bin .cons (.var 12) (.bin .cons (.var 13) .nil))))))))))))))) (.int 0)) .nil))) (.int 0)) (.bin .add (.int 0) (.var 8)) (.bin .idx (.fn 153 (.bin .cons (.var 14) .nil)) (.int 1))) (.bin .add (.int 0) (.var 5)) (.bin .idx (.bin .idx (.bin .idx (.fn 153 (.bin .cons (.var 14) .nil)) (.int 0)) (.bin .add (.int 0) (.un (.wrap .i64) (.bin .sub (.un .len (.bin .idx (.fn 153 (.bin .cons (.var 14) .nil)) (.int 0))) (.int 1))))) (.int 0)))]
                    (.br (.un .not (.bin .le (.var 1) (.var 16)))
                     (.loop 18 [(.un (.wrap .i64) (.bin .sub (.un .len (.bin .idx (.fn 153 (.bin .cons (.var 14) .nil)) (.int 0))) (.int 1)))]
                      (.br (.bin .le (.int 0) (.var 18))
                       (.asrt (.un .not (.bin .le (.un .len (.bin .idx (.fn 153 (.bin .cons (.var 14) .nil)) (.int 0))) (.var 18)))
                        (.loop 19 [(.int 0)]
                         (.br (.un .not (.bin .le (.un .len (.bin .idx (.bin .idx (.bin .idx (.fn 153 (.bin .cons (.var 14) .nil)) (.int 0)) (.bin .add (.int 0) (.var 18))) (.int 1))) (.var 19)))
                          (.asrt (.bin .le (.int 0) (.var 19))
                           (.br (.bin .eq (.bin .idx (.bin .idx (.bin .idx (.bin .idx (.bin .idx (.fn 153 (.bin .cons (.var 14) .nil)) (.int 0)) (.bin .add (.int 0) (.var 18))) (.int 1)) (.var 19)) (.int 0)) (.var 16))
                            .fail
                            (.leaf [(.un (.wrap .i64) (.bin .add (.var 19) (.int 1)))])))
                          .fail)
                         (.br (.un .not (.bin .le (.un .len (.bin .idx (.bin .idx (.bin .idx (.fn 153 (.bin .cons (.var 14) .nil)) (.int 0)) (.bin .add (.int 0) (.var 18))) (.int 1))) (.var 19)))
                          (.asrt (.bin .le (.int 0) (.var 19))
                           .fail)
                          (.leaf [(.un (.wrap .i64) (.bin .sub (.var 18) (.int 1)))]))))
                       .fail)
                      (.br (.bin .le (.int 0) (.var 18))
                       (.asrt (.un .not (.bin .le (.un .len (.bin .idx (.fn 153 (.bin .cons (.var 14) .nil)) (.int 0))) (.var 18)))
                        (.loop 19 [(.int 0)]
                         (.br (.un .not (.bin .le (.un .len (.bin .idx (.bin .idx (.bin .idx (.fn 153 (.bin .cons (.var 14) .nil)) (.int 0)) (.bin .add (.int 0) (.var 18))) (.int 1))) (.var 19)))
                          (.asrt (.bin .le (.int 0) (.var 19))
                           (.br (.bin .eq (.bin .idx (.bin .idx (.bin .idx (.bin .idx (.bin .idx (.fn 153 (.bin .cons (.var 14) .nil)) (.int 0)) (.bin .add (.int 0) (.var 18))) (.int 1)) (.var 19)) (.int 0)) (.var 16))
                            .fail
                            (.leaf [(.un (.wrap .i64) (.bin .add (.var 19) (.int 1)))])))
                          .fail)
                         (.br (.un .not (.bin .le (.un .len (.bin .idx (.bin .idx (.bin .idx (.fn 153 (.bin .cons (.var 14) .nil)) (.int 0)) (.bin .add (.int 0) (.var 18))) (.int 1))) (.var 19)))
                          (.asrt (.bin .le (.int 0) (.var 19))
                           (.br (.bin .eq (.bin .idx (.bin .idx (.bin .idx (.bin .idx (.bin .idx (.fn 153 (.bin .cons (.var 14) .nil)) (.int 0)) (.bin .add (.int 0) (.var 18))) (.int 1)) (.var 19)) (.int 0)) (.var 16))
                            (.br (.un .not (.bin .le (.int 0) (.var 16)))
                             .fail
                             (.asrt (.bin .le (.int 0) (.un (.wrap .i64) (.bin .add (.un (.wrap .i64) (.bin .add (.var 11) (.un (.wrap .i64) (.bin .mul (.int 4) (.var 16))))) (.int 1))))
                              (.asrt (.un .not (.bin .le (.un .len (.bin .idx (.fn 8 (.bin .cons (.bin .take (.bin .drop (.bin .rep (.var 12) (.int 0)) (.int 0)) (.var 12)) (.bin .cons (.bin .idx (.fn 27 (.bin .cons (.var 0) (.bin .cons (.var 1) (.bin .cons (.var 2) (.bin .cons (.var 3) (.bin .cons (.var 4) (.bin .cons (.var 5) (.bin .cons (.var 6) (.bin .cons (.var 7) (.bin .cons (.var 8) (.bin .cons (.var 9) (.bin .cons (.var 10) (.bin .cons (.var 11) (.bin .cons (.var 12) (.bin .cons (.var 13) .nil))))))))))))))) (.int 0)) .nil))) (.int 0))) (.un (.wrap .i64) (.bin .add (.un (.wrap .i64) (.bin .add (.var 11) (.un (.wrap .i64) (.bin .mul (.int 4) (.var 16))))) (.int 1)))))
                               (.asrt (.un .not (.bin .le (.un .len (.var 17)) (.bin .add (.int 0) (.un (.wrap .i64) (.bin .add (.un (.wrap .i64) (.bin .add (.var 11) (.un (.wrap .i64) (.bin .mul (.int 4) (.var 16))))) (.int 1))))))
                                (.asrt (.bin .le (.int 0) (.un (.wrap .i64) (.bin .add (.un (.wrap .i64) (.bin .add (.var 11) (.un (.wrap .i64) (.bin .mul (.int 4) (.var 16))))) (.int 0))))
                                 (.asrt (.un .not (.bin .le (.un .len (.bin .idx (.fn 8 (.bin .cons (.bin .take (.bin .drop (.bin .rep (.var 12) (.int 0)) (.int 0)) (.var 12)) (.bin .cons (.bin .idx (.fn 27 (.bin .cons (.var 0) (.bin .cons (.var 1) (.bin .cons (.var 2) (.bin .cons (.var 3) (.bin .cons (.var 4) (.bin .cons (.var 5) (.bin .cons (.var 6) (.bin .cons (.var 7) (.bin .cons (.var 8) (.bin .cons (.var 9) (.bin .cons (.var 10) (.bin .cons (.var 11) (.bin .cons (.var 12) (.bin .cons (.var 13) .nil))))))))))))))) (.int 0)) .nil))) (.int 0))) (.un (.wrap .i64) (.bin .add (.un (.wrap .i64) (.bin .add (.var 11) (.un (.wrap .i64) (.bin .mul (.int 4) (.var 16))))) (.int 0)))))
                                  (.asrt (.un .not (.bin .le (.un .len (.tri .set (.var 17) (.bin .add (.int 0) (.un (.wrap .i64) (.bin .add (.un (.wrap .i64) (.bin .add (.var 11) (.un (.wrap .i64) (.bin .mul (.int 4) (.var 16))))) (.int 1)))) (.bin .idx (.bin .idx (.bin .idx (.bin .idx (.bin .idx (.fn 153 (.bin .cons (.var 14) .nil)) (.int 0)) (.bin .add (.int 0) (.var 18))) (.int 1)) (.var 19)) (.int 1)))) (.bin .add (.int 0) (.un (.wrap .i64) (.bin .add (.un (.wrap .i64) (.bin .add (.var 11) (.un (.wrap .i64) (.bin .mul (.int 4) (.var 16))))) (.int 0))))))
                                   (.leaf [(.un (.wrap .i64) (.bin .add (.var 16) (.int 1))), (.tri .set (.tri .set (.var 17) (.bin .add (.int 0) (.un (.wrap .i64) (.bin .add (.un (.wrap .i64) (.bin .add (.var 11) (.un (.wrap .i64) (.bin .mul (.int 4) (.var 16))))) (.int 1)))) (.bin .idx (.bin .idx (.bin .idx (.bin .idx (.bin .idx (.fn 153 (.bin .cons (.var 14) .nil)) (.int 0)) (.bin .add (.int 0) (.var 18))) (.int 1)) (.var 19)) (.int 1))) (.bin .add (.int 0) (.un (.wrap .i64) (.bin .add (.un (.wrap .i64) (.bin .add (.var 11) (.un (.wrap .i64) (.bin .mul (.int 4) (.var 16))))) (.int 0)))) (.bin (.shl .i64) (.bin .idx (.bin .idx (.bin .idx (.fn 153 (.bin .cons (.var 14) .nil)) (.int 0)) (.bin .add (.int 0) (.var 18))) (.int 0)) (.int 1)))]))))))))
                            .fail))
                          .fail)))
                       (.leaf [(.un (.wrap .i64) (.bin .add (.var 16) (.int 1))), (.var 17)])))
                     .fail)
                    (.br (.un .not (.bin .le (.var 1) (.var 16)))
                     (.loop 18 [(.un (.wrap .i64) (.bin .sub (.un .len (.bin .idx (.fn 153 (.bin .cons (.var 14) .nil)) (.int 0))) (.int 1)))]
                      (.br (.bin .le (.int 0) (.var 18))
                       (.asrt (.un .not (.bin .le (.un .len (.bin .idx (.fn 153 (.bin .cons (.var 14) .nil)) (.int 0))) (.var 18)))
                        (.loop 19 [(.int 0)]
                         (.br (.un .not (.bin .le (.un .len (.bin .idx (.bin .idx (.bin .idx (.fn 153 (.bin .cons (.var 14) .nil)) (.int 0)) (.bin .add (.int 0) (.var 18))) (.int 1))) (.var 19)))
                          (.asrt (.bin .le (.int 0) (.var 19))
                           (.br (.bin .eq (.bin .idx (.bin .idx (.bin .idx (.bin .idx (.bin .idx (.fn 153 (.bin .cons (.var 14) .nil)) (.int 0)) (.bin .add (.int 0) (.var 18))) (.int 1)) (.var 19)) (.int 0)) (.var 16))
                            .fail
                            (.leaf [(.un (.wrap .i64) (.bin .add (.var 19) (.int 1)))])))
                          .fail)
                         (.br (.un .not (.bin .le (.un .len (.bin .idx (.bin .idx (.bin .idx (.fn 153 (.bin .cons (.var 14) .nil)) (.int 0)) (.bin .add (.int 0) (.var 18))) (.int 1))) (.var 19)))
                          (.asrt (.bin .le (.int 0) (.var 19))
                           .fail)
                          (.leaf [(.un (.wrap .i64) (.bin .sub (.var 18) (.int 1)))]))))
                       .fail)
                      (.br (.bin .le (.int 0) (.var 18))
                       (.asrt (.un .not (.bin .le (.un .len (.bin .idx (.fn 153 (.bin .cons (.var 14) .nil)) (.int 0))) (.var 18)))
                        (.loop 19 [(.int 0)]
                         (.br (.un .not (.bin .le (.un .len (.bin .idx (.bin .idx (.bin .idx (.fn 153 (.bin .cons (.var 14) .nil)) (.int 0)) (.bin .add (.int 0) (.var 18))) (.int 1))) (.var 19)))
                          (.asrt (.bin .le (.int 0) (.var 19))
                           (.br (.bin .eq (.bin .idx (.bin .idx (.bin .idx (.bin .idx (.bin .idx (.fn 153 (.bin .cons (.var 14) .nil)) (.int 0)) (.bin .add (.int 0) (.var 18))) (.int 1)) (.var 19)) (.int 0)) (.var 16))
                            .fail
                            (.leaf [(.un (.wrap .i64) (.bin .add (.var 19) (.int 1)))])))
                          .fail)
                         (.br (.un .not (.bin .le (.un .len (.bin .idx (.bin .idx (.bin .idx (.fn 153 (.bin .cons (.var 14) .nil)) (.int 0)) (.bin .add (.int 0) (.var 18))) (.int 1))) (.var 19)))
                          (.asrt (.bin .le (.int 0) (.var 19))
                           (.br (.bin .eq (.bin .idx (.bin .idx (.bin .idx (.bin .idx (.bin .idx (.fn 153 (.bin .cons (.var 14) .nil)) (.int 0)) (.bin .add (.int 0) (.var 18))) (.int 1)) (.var 19)) (.int 0)) (.var 16))
                            (.br (.un .not (.bin .le (.int 0) (.var 16)))
                             .fail
                             (.asrt (.bin .le (.int 0) (.un (.wrap .i64) (.bin .add (.un (.wrap .i64) (.bin .add (.var 11) (.un (.wrap .i64) (.bin .mul (.int 4) (.var 16))))) (.int 1))))
                              (.asrt (.un .not (.bin .le (.un .len (.bin .idx (.fn 8 (.bin .cons (.bin .take (.bin .drop (.bin .rep (.var 12) (.int 0)) (.int 0)) (.var 12)) (.bin .cons (.bin .idx (.fn 27 (.bin .cons (.var 0) (.bin .cons (.var 1) (.bin .cons (.var 2) (.bin .cons (.var 3) (.bin .cons (.var 4) (.bin .cons (.var 5) (.bin .cons (.var 6) (.bin .cons (.var 7) (.bin .cons (.var 8) (.bin .cons (.var 9) (.bin .cons (.var 10) (.bin .cons (.var 11) (.bin .cons (.var 12) (.bin .cons (.var 13) .nil))))))))))))))) (.int 0)) .nil))) (.int 0))) (.un (.wrap .i64) (.bin .add (.un (.wrap .i64) (.bin .add (.var 11) (.un (.wrap .i64) (.bin .mul (.int 4) (.var 16))))) (.int 1)))))
                               (.asrt (.un .not (.bin .le (.un .len (.var 17)) (.bin .add (.int 0) (.un (.wrap .i64) (.bin .add (.un (.wrap .i64) (.bin .add (.var 11) (.un (.wrap .i64) (.bin .mul (.int 4) (.var 16))))) (.int 1))))))
                                (.asrt (.bin .le (.int 0) (.un (.wrap .i64) (.bin .add (.un (.wrap .i64) (.bin .add (.var 11) (.un (.wrap .i64) (.bin .mul (.int 4) (.var 16))))) (.int 0))))
                                 (.asrt (.un .not (.bin .le (.un .len (.bin .idx (.fn 8 (.bin .cons (.bin .take (.bin .drop (.bin .rep (.var 12) (.int 0)) (.int 0)) (.var 12)) (.bin .cons (.bin .idx (.fn 27 (.bin .cons (.var 0) (.bin .cons (.var 1) (.bin .cons (.var 2) (.bin .cons (.var 3) (.bin .cons (.var 4) (.bin .cons (.var 5) (.bin .cons (.var 6) (.bin .cons (.var 7) (.bin .cons (.var 8) (.bin .cons (.var 9) (.bin .cons (.var 10) (.bin .cons (.var 11) (.bin .cons (.var 12) (.bin .cons (.var 13) .nil))))))))))))))) (.int 0)) .nil))) (.int 0))) (.un (.wrap .i64) (.bin .add (.un (.wrap .i64) (.bin .add (.var 11) (.un (.wrap .i64) (.bin .mul (.int 4) (.var 16))))) (.int 0)))))
                                  (.asrt (.un .not (.bin .le (.un .len (.tri .set (.var 17) (.bin .add (.int 0) (.un (.wrap .i64) (.bin .add (.un (.wrap .i64) (.bin .add (.var 11) (.un (.wrap .i64) (.bin .mul (.int 4) (.var 16))))) (.int 1)))) (.bin .idx (.bin .idx (.bin .idx (.bin .idx (.bin .idx (.fn 153 (.bin .cons (.var 14) .nil)) (.int 0)) (.bin .add (.int 0) (.var 18))) (.int 1)) (.var 19)) (.int 1)))) (.bin .add (.int 0) (.un (.wrap .i64) (.bin .add (.un (.wrap .i64) (.bin .add (.var 11) (.un (.wrap .i64) (.bin .mul (.int 4) (.var 16))))) (.int 0))))))
                                   .fail)))))))
                            .fail))
                          .fail)))
                       .fail))
                     (.asrt (.bin .le (.bin .add (.int 0) (.un .len (.bin .idx (.fn 8 (.bin .cons (.bin .take (.bin .drop (.bin .rep (.var 12) (.int 0)) (.int 0)) (.var 12)) (.bin .cons (.bin .idx (.fn 27 (.bin .cons (.var 0) (.bin .cons (.var 1) (.bin .cons (.var 2) (.bin .cons (.var 3) (.bin .cons (.var 4) (.bin .cons (.var 5) (.bin .cons (.var 6) (.bin .cons (.var 7) (.bin .cons (.var 8) (.bin .cons (.var 9) (.bin .cons (.var 10) (.bin .cons (.var 11) (.bin .cons (.var 12) (.bin .cons (.var 13) .nil))))))))))))))) (.int 0)) .nil))) (.int 0)))) (.un .len (.var 17)))
                      (.leaf [(.bin .take (.bin .drop (.var 17) (.int 0)) (.un .len (.bin .idx (.fn 8 (.bin .cons (.bin .take (.bin .drop (.bin .rep (.var 12) (.int 0)) (.int 0)) (.var 12)) (.bin .cons (.bin .idx (.fn 27 (.bin .cons (.var 0) (.bin .cons (.var 1) (.bin .cons (.var 2) (.bin .cons (.var 3) (.bin .cons (.var 4) (.bin .cons (.var 5) (.bin .cons (.var 6) (.bin .cons (.var 7) (.bin .cons (.var 8) (.bin .cons (.var 9) (.bin .cons (.var 10) (.bin .cons (.var 11) (.bin .cons (.var 12) (.bin .cons (.var 13) .nil))))))))))))))) (.int 0)) .nil))) (.int 0)))), (.bin .idx (.fn 153 (.bin .cons (.var 14) .nil)) (.int 0))])))))))))
              (.loop 16 [(.int 0)]
               (.br (.un .not (.bin .le (.var 1) (.var 16)))
                (.loop 17 []
                 .fail
                 (.leaf [(.un (.wrap .i64) (.bin .add (.var 16) (.int 1)))]))
                .fail)
               (.br (.un .not (.bin .le (.var 1) (.var 16)))
                (.loop 17 []
                 .fail
                 .fail)
                (.leaf [(.tri .set (.bin .idx (.fn 8 (.bin .cons (.bin .take (.bin .drop (.bin .rep (.var 12) (.int 0)) (.int 0)) (.var 12)) (.bin .cons (.bin .idx (.fn 27 (.bin .cons (.var 0) (.bin .cons (.var 1) (.bin .cons (.var 2) (.bin .cons (.var 3) (.bin .cons (.var 4) (.bin .cons (.var 5) (.bin .cons (.var 6) (.bin .cons (.var 7) (.bin .cons (.var 8) (.bin .cons (.var 9) (.bin .cons (.var 10) (.bin .cons (.var 11) (.bin .cons (.var 12) (.bin .cons (.var 13) .nil))))))))))))))) (.int 0)) .nil))) (.int 0)) (.bin .add (.int 0) (.var 8)) (.bin .idx (.fn 153 (.bin .cons (.var 14) .nil)) (.int 1))), (.bin .idx (.fn 153 (.bin .cons (.var 14) .nil)) (.int 0))])))))))))))))))))
def dBootSm : List (Nat × Smy) := [(12, ⟨153, [.one (.rows false [.str])], [.one (.nst [.pl (.int .i64), .sub [.int .i64, .int .i64]]), .one (.pl (.int .i64))], lenC [(0, 1000)], none⟩), (52, ⟨8, [.agg [.rows false [.int .i64]], .one (.rows false [.int .i64, .int .i64, .int .i64, .int .i64, .str])], [.agg [.rows false [.int .i64]], .one (.rows true [.int .i64, .bool]), .one (.pl (.int .i64))], lenC [(0, 1000000), (1, 1000000)], none⟩), (53, ⟨27, [.agg [.pl (.int .i64), .pl (.int .i64), .pl (.int .i64), .pl (.int .i64), .pl (.int .i64), .pl (.int .i64), .pl (.int .i64), .pl (.int .i64), .pl (.int .i64), .pl (.int .i64), .pl (.int .i64), .pl (.int .i64), .pl (.int .i64)], .one (.rows false [.int .i64])], [.one (.rows true [.int .i64, .int .i64, .int .i64, .int .i64, .str])], fun es => lenC [(13, 1000000)] es ++ rgeC [(1, 0, 1000)] es, none⟩)]
def dBootLa : List (LK × LA) := [(⟨91, 9, 41, 16, 14⟩, ⟨[(15, .any), (16, .any), (17, .any), (18, .any), (62, (.int .i64 (.var 16))), (63, .any), (64, .any), (65, .any), (66, .any), (67, .any), (68, .any), (69, .any), (70, .any), (71, .any), (72, .any), (73, .any), (74, .any), (75, .any), (76, .any), (77, .any), (78, .any), (79, .any), (80, .any), (81, .any), (82, .any), (83, .any), (84, .any), (85, .any), (86, .any), (87, .any)], [], [], 1, 0⟩),
  (⟨19, 1, 48, 17, 15⟩, ⟨[(7, .any), (8, .any), (11, .any), (12, .any), (13, .any), (14, .any), (15, .any), (16, .any), (17, .any), (18, .any), (9, .any), (10, .any)], [], [], 0, 0⟩),
  (⟨91, 9, 52, 16, 19⟩, ⟨[(15, .any), (16, .any), (17, .any), (18, .any), (62, (.int .i64 (.var 16))), (63, .any), (64, .any), (65, .any), (66, .any), (67, .any), (68, .any), (69, .any), (70, .any), (71, .any), (72, .any), (73, .any), (74, .any), (75, .any), (76, .any), (77, .any), (78, .any), (79, .any), (80, .any), (81, .any), (82, .any), (83, .any), (84, .any), (85, .any), (86, .any), (87, .any)], [(40, (.rows [.int .i64] (.var 17)))], [], 2, 0⟩),
  (⟨19, 1, 59, 18, 20⟩, ⟨[(3, (.int .i64 (.var 18))), (7, .any), (8, .any), (9, .any), (10, .any), (11, .any), (12, .any), (13, .any), (14, .any), (15, .any), (16, .any), (17, .any), (18, .any)], [], [], 1, 0⟩),
  (⟨19, 2, 60, 19, 22⟩, ⟨[(5, .any), (8, (.int .i64 (.var 19))), (9, .any), (10, .any), (11, .any), (12, .any), (13, .any), (14, .any), (15, .any), (16, .any), (17, .any), (18, .any)], [], [], 1, 0⟩)]
def dBootPhi : Fs := ⟨fun n d => match n with
  | 153 => .list (wRecoverF d.l)
  | 8 => .list (memAllF d.l)
  | 27 => .list (layInitF d.l)
  | _ => d, 147⟩
theorem dBootS : SmyOk true Tryd.prog dBootPhi dBootSm := (smy_cons (lenP [(0, 1000)]) wRecoverF wRecover_pure (len_hp [(0, 1000)]) (fun _ => rfl) (fun _ h => by cases h) (smy_cons (lenP [(0, 1000000), (1, 1000000)]) memAllF memAll_pure (len_hp [(0, 1000000), (1, 1000000)]) (fun _ => rfl) (fun _ h => by cases h) (smy_cons (fun ds => lenP [(13, 1000000)] ds ∧ rgeP [(1, 0, 1000)] ds) layInitF layInit_pure (both_hp [(13, 1000000)] [(1, 0, 1000)]) (fun _ => rfl) (fun _ h => by cases h) smy_nil)))
theorem dBootT : treeOk ⟨Tryd.prog, dBootSm, dBootLa, true⟩ 4000 23 [.agg [.pl (.int .i64), .pl (.int .i64), .pl (.int .i64), .pl (.int .i64), .pl (.int .i64), .pl (.int .i64), .pl (.int .i64), .pl (.int .i64), .pl (.int .i64), .pl (.int .i64), .pl (.int .i64), .pl (.int .i64), .pl (.int .i64)], .one (.rows false [.int .i64]), .agg [.rows false [.str], .rows false [.int .i64, .str]]] [.agg [.rows false [.int .i64]], .one (.nst [.pl (.int .i64), .sub [.int .i64, .int .i64]])] ([]) dBootTree = true := by decide +kernel
set_option maxHeartbeats 1000000 in
theorem dBoot_pure : PureE true Tryd.prog 23 [.agg [.pl (.int .i64), .pl (.int .i64), .pl (.int .i64), .pl (.int .i64), .pl (.int .i64), .pl (.int .i64), .pl (.int .i64), .pl (.int .i64), .pl (.int .i64), .pl (.int .i64), .pl (.int .i64), .pl (.int .i64), .pl (.int .i64)], .one (.rows false [.int .i64]), .agg [.rows false [.str], .rows false [.int .i64, .str]]] [.agg [.rows false [.int .i64]], .one (.nst [.pl (.int .i64), .sub [.int .i64, .int .i64]])] (fun ds => (fun ds => lenP [(13, 1000000), (14, 1000), (15, 1000000)] ds ∧ rgeP [(1, 0, 32), (5, 0, 0), (6, 1, 1), (8, 3, 3), (11, 4, 60), (12, 4, 300)] ds) ds ∧ lyP ds) dBootF := by
  refine pure_tree (X := ⟨Tryd.prog, dBootSm, dBootLa, true⟩) (by decide +kernel) (Checked.mixed Tryd.checked) dBootS (by decide +kernel) (by decide +kernel) dBootT (by decide +kernel) ?_
  intro ds hl hp
  obtain ⟨d0, d1, d2, d3, d4, d5, d6, d7, d8, d9, d10, d11, d12, d13, d14, d15, rfl⟩ := len16 hl
  have hy : d11.i + 4 * d1.i ≤ d12.i := hp.2
  have b13 : (d13.l.length : Int) ≤ 1000000 := hp.1.1 (13, 1000000) (by simp)
  have b14 : (d14.l.length : Int) ≤ 1000 := hp.1.1 (14, 1000) (by simp)
  have b15 : (d15.l.length : Int) ≤ 1000000 := hp.1.1 (15, 1000000) (by simp)
  have r1 : 0 ≤ d1.i ∧ d1.i ≤ 32 := hp.1.2 (1, 0, 32) (by simp)
  have r5 : 0 ≤ d5.i ∧ d5.i ≤ 0 := hp.1.2 (5, 0, 0) (by simp)
  have r6 : 1 ≤ d6.i ∧ d6.i ≤ 1 := hp.1.2 (6, 1, 1) (by simp)
  have r8 : 3 ≤ d8.i ∧ d8.i ≤ 3 := hp.1.2 (8, 3, 3) (by simp)
  have r11 : 4 ≤ d11.i ∧ d11.i ≤ 60 := hp.1.2 (11, 4, 60) (by simp)
  have r12 : 4 ≤ d12.i ∧ d12.i ≤ 300 := hp.1.2 (12, 4, 300) (by simp)
  have hF : dBootF [d0, d1, d2, d3, d4, d5, d6, d7, d8, d9, d10, d11, d12, d13, d14, d15] = dBootE d0.i d1.i d2.i d3.i d4.i d5.i d6.i d7.i d8.i d9.i d10.i d11.i d12.i (d13.l.map DV.i) (d14.l.map DV.s) (d15.l.map decis) := rfl
  rw [hF]
  clear hF hp hl
  have hN : nrmL (clsOf [.agg [.pl (.int .i64), .pl (.int .i64), .pl (.int .i64), .pl (.int .i64), .pl (.int .i64), .pl (.int .i64), .pl (.int .i64), .pl (.int .i64), .pl (.int .i64), .pl (.int .i64), .pl (.int .i64), .pl (.int .i64), .pl (.int .i64)], .one (.rows false [.int .i64]), .agg [.rows false [.str], .rows false [.int .i64, .str]]]) [d0, d1, d2, d3, d4, d5, d6, d7, d8, d9, d10, d11, d12, d13, d14, d15] = [.int d0.i, .int d1.i, .int d2.i, .int d3.i, .int d4.i, .int d5.i, .int d6.i, .int d7.i, .int d8.i, .int d9.i, .int d10.i, .int d11.i, .int d12.i, .list ((d13.l.map DV.i).map DV.int), .list ((d14.l.map DV.s).map DV.str), .list ((d15.l.map decis).map encis)] := by
    simp only [clsOf, Sh.cls, List.append_nil, List.cons_append, List.nil_append, nrmL, Cl.nrm, CK.nrm, map_Li, map_Lis, map_Ls]
  rw [hN]
  clear hN
  generalize d0.i = x0
  generalize d1.i = x1 at r1 hy ⊢
  generalize d2.i = x2
  generalize d3.i = x3
  generalize d4.i = x4
  generalize d5.i = x5 at r5 ⊢
  generalize d6.i = x6 at r6 ⊢
  generalize d7.i = x7
  generalize d8.i = x8 at r8 ⊢
  generalize d9.i = x9
  generalize d10.i = x10
  generalize d11.i = x11 at r11 hy ⊢
  generalize d12.i = x12 at r12 hy ⊢
  rw [← List.length_map (f := DV.i)] at b13
  generalize d13.l.map DV.i = x13 at b13 ⊢
  rw [← List.length_map (f := DV.s)] at b14
  generalize d14.l.map DV.s = x14 at b14 ⊢
  rw [← List.length_map (f := decis)] at b15
  generalize d15.l.map decis = x15 at b15 ⊢
  refine ⟨facts_nil _, ?_⟩
  unfold dBootTree dBootE
  obtain rfl : x5 = 0 := by omega
  obtain rfl : x6 = 1 := by omega
  obtain rfl : x8 = 3 := by omega
  obtain ⟨N, rfl⟩ : ∃ N : Nat, x12 = N := ⟨x12.toNat, by omega⟩
  obtain ⟨L, rfl⟩ : ∃ L : Nat, x1 = L := ⟨x1.toNat, by omega⟩
  obtain ⟨m1, m2, m3⟩ := manyI_le (L : Int) x13 r1.1
  obtain ⟨t, ht⟩ := inits_all (sz := N) x13 r11.1 (by omega) (by omega) hy (by omega) (manyI L x13) m2
  have hz : List.map DV.i (List.take N (List.drop 0 (List.replicate N (DV.int 0)))) = List.replicate N 0 := by
    rw [List.drop_zero, List.take_of_length_le (by simp), List.map_replicate]; rfl
  have hrl := recover_len x14
  have hrw := recover_w x14
  simp only [Sat, clsOf, Sh.cls, List.append_nil, List.cons_append, List.nil_append, nrmL, Cl.nrm, List.map_cons, List.map_nil, List.length_cons, List.length_nil, List.cons.injEq, DV.list.injEq, and_true, true_and]
  try simp only [q_le, q_eq, q_not, iff_true, iff_false, Bool.not_true, Bool.not_false, Bool.false_eq_true, eq_self]
  simp only [SE.den, evU, evT, ev_add, ev_sub, ev_mul, ev_shl, ev_idx, ev_cons, ev_take, ev_drop, ev_rep, i_int, l_list, envL, List.getElem?_cons_succ, List.getElem?_cons_zero, Option.getD_some, Int.toNat_natCast, Int.toNat_zero, Int.reduceToNat, List.length_map, set_Li, inj_Li, rows_i, Int.zero_add, and_true, eq_self, List.length_replicate, f_En_0, rows_En, f_En_1, rows_En, dBootPhi, wRecoverF, wRecoverE, memAllF, memAllE, layInitF, layInitE, gi, gLi, gLs, dece_i, dece_s, gLiiiis, deces_iiiis, hz, ht, cells_len]
  generalize recoverM x14 = rc at *
  obtain ⟨es, en⟩ := rc
  dsimp only at hrl hrw ⊢
  have hz2 := stage_zero (sz := N) (base := x11) (locs := L) (en := en) (first := x13) (es := es) (n := manyI L x13) m3
  have hsh : ∀ v : Int, IntKind.i64.wrap (v * 2 ^ min 1 IntKind.i64.bits) = freeM v := fun v => by
    unfold freeM
    rw [show v * 2 ^ min 1 IntKind.i64.bits = 2 * v by rw [Int.mul_comm]; rfl]
  have hV : ∀ j : Nat, j < L → IntKind.i64.wrap (IntKind.i64.wrap (x11 + IntKind.i64.wrap (4 * (j : Int))) + 1) = x11 + 4 * j + 1 := fun j hj => by simp only [w64_eq]; omega
  have hW : ∀ j : Nat, j < L → IntKind.i64.wrap (IntKind.i64.wrap (x11 + IntKind.i64.wrap (4 * (j : Int))) + 0) = x11 + 4 * j := fun j hj => by simp only [w64_eq]; omega
  refine ⟨b14, by omega, by omega, b13, r1.1, by omega, Int.le_refl _, by simp; omega, by rw [List.length_cons, initsM_len]; omega, fun h => absurd h (by omega), fun _ => ⟨by omega, by omega, by omega, fun hne => ?_, fun he => ?_⟩⟩
  · have hwl : IntKind.i64.wrap ((es.length : Int) - 1) = es.length - 1 := w64 (by omega) (by omega)
    have hck : (es[es.length - 1]?.getD dEn).1 = clkM es := rfl
    have htn : ((es.length : Int) - 1).toNat = es.length - 1 := by omega
    simp only [hwl, htn, set_en, List.length_set, cells_len]
    refine ⟨by omega, by omega, by omega, by omega, by omega, ?_⟩
    refine rounds_at L (fun j => [.int j, .list ((stageC N x11 L x13 es en j).map DV.int)]) ?_ (fun _ => rfl) (fun j hj => ?_) ?_
    · rw [raw_En_0, hck, set_Li, set_ck, hz2]
      rfl
    · have hwj : IntKind.i64.wrap ((j : Int) + 1) = ((j + 1 : Nat) : Int) := by rw [w64 (by omega) (by omega)]; omega
      simp only [i_int, l_list, List.getElem?_cons_succ, List.getElem?_cons_zero, Option.getD_some, List.length_map, inj_Li, and_true, eq_self, DV.int.injEq, DV.list.injEq, List.cons.injEq, List.cons_append, List.nil_append]
      refine ⟨fun _ => ⟨rfl, ?_⟩, fun h => absurd h (by omega)⟩
      refine last_loop es j (fun i hi hno => ?_) (fun hn => ?_) (fun i q hi hq hno hk hlast => ?_)
      · have hwi : IntKind.i64.wrap ((i : Int) - 1) = i - 1 := w64 (by omega) (by omega)
        simp only [i_int, List.getElem?_cons_succ, List.getElem?_cons_zero, Option.getD_some, Int.toNat_natCast, eq_self, List.cons_append, List.nil_append, f_ii_0, hwi]
        refine ⟨fun _ => ⟨by omega, rfl, ?_⟩, fun h => absurd (by omega) h⟩
        have := hrw i
        refine scan_loop (Nat.le_refl _) hno (fun t ht hne => ?_) ?_
        · simp only [i_int, List.getElem?_cons_zero, Option.getD_some, Int.toNat_natCast, and_true, eq_self, DV.int.injEq, List.cons.injEq, w64 (n := (t : Int) + 1) (by omega) (by omega)]
          exact ⟨fun _ => ⟨by omega, hne, fun _ => by omega⟩, fun h => absurd h (by omega)⟩
        · simp only [i_int, List.getElem?_cons_zero, Option.getD_some]
          exact ⟨fun h => absurd (Int.le_refl _) h, fun _ => trivial⟩
      · simp only [i_int, List.getElem?_cons_succ, List.getElem?_cons_zero, Option.getD_some, Int.reduceToNat, true_and, eq_self, List.cons_append, List.nil_append, hwj]
        exact ⟨fun h => absurd h (by omega), fun _ => (stageC_none hn).symm⟩
      · have hwi : IntKind.i64.wrap ((i : Int) - 1) = i - 1 := w64 (by omega) (by omega)
        simp only [i_int, List.getElem?_cons_succ, List.getElem?_cons_zero, Option.getD_some, Int.toNat_natCast, set_Li, inj_Li, true_and, eq_self, List.cons_append, List.nil_append, f_ii_0, raw_ii_1, hV j hj, hW j hj, hsh, hwj]
        refine ⟨fun _ => ⟨by omega, rfl, ?_⟩, fun h => absurd (by omega) h⟩
        have := hrw i
        refine scan_loop (j := q) (by omega) hno (fun t ht hne => ?_) ?_
        · simp only [i_int, List.getElem?_cons_zero, Option.getD_some, Int.toNat_natCast, and_true, eq_self, DV.int.injEq, List.cons.injEq, w64 (n := (t : Int) + 1) (by omega) (by omega)]
          exact ⟨fun _ => ⟨by omega, hne, fun _ => by omega⟩, fun h => absurd h (by omega)⟩
        · simp only [i_int, List.getElem?_cons_zero, Option.getD_some, Int.toNat_natCast, stageC_len]
          exact ⟨fun _ => ⟨by omega, fun _ => ⟨fun h => absurd (by omega) h, fun _ => ⟨by omega, by omega, by omega, by omega, by omega, by omega, stageC_some hlast (by omega) (by omega)⟩⟩, fun h => h hk⟩, fun h => absurd h (by omega)⟩
    · simp only [i_int, l_list, List.getElem?_cons_succ, List.getElem?_cons_zero, Option.getD_some, List.length_map, List.cons_append, List.nil_append, stageC_len]
      refine ⟨fun h => absurd (Int.le_refl _) h, fun _ => ⟨Int.le_refl _, ?_⟩⟩
      rw [List.drop_zero, List.take_of_length_le (by rw [List.length_map, stageC_len]; exact Nat.le_refl _), rows_i, ← stageC_end]
      rfl
  · have h0 : es = [] := List.eq_nil_of_length_eq_zero (by omega)
    subst h0
    refine rounds_at L (fun j => [.int j]) rfl (fun _ => rfl) (fun j hj => ?_) ?_
    · have hwj : IntKind.i64.wrap ((j : Int) + 1) = ((j + 1 : Nat) : Int) := by rw [w64 (by omega) (by omega)]; omega
      simp only [i_int, List.getElem?_cons_zero, Option.getD_some, eq_self, List.cons_append, List.nil_append, hwj]
      exact ⟨fun _ => ⟨rfl, .done trivial⟩, fun h => absurd h (by omega)⟩
    · simp only [i_int, List.getElem?_cons_zero, Option.getD_some]
      refine ⟨fun h => absurd (Int.le_refl _) h, fun _ => ?_⟩
      rw [set_en]
      exact stage_nil hz2
end Go.Proofs.YtkfjgggiopegbaaDoor
end
section
namespace Go.Proofs.YtkfjgggiopegbaaDoor
set_option linter.unusedVariables false
set_option linter.unusedSimpArgs false
def recsM (l : List TEn) : List (List UInt8) := l.flatMap fun e => recordM e.1 e.2
def RiseM : Int → List TEn → Prop
  | _, [] => True
  | last, e :: l => validM e.1 e.2 = true ∧ rgeW e.2 ∧ last < e.1 ∧ RiseM e.1 l
def z32 : List UInt8 := List.replicate 32 0
theorem rec_all : ∀ (l : List TEn) (last : Int) (pre post : List (List UInt8)) (n : Nat), RiseM last l → l.length < n → parseM (pre ++ recsM l ++ post) ((pre.length + (recsM l).length : Nat) : Int) = none →
    recM (pre ++ recsM l ++ post) n pre.length last = (l, ((pre.length + (recsM l).length : Nat) : Int))
  | [], last, pre, post, n, hr, hn, hp => by
    obtain ⟨m, rfl⟩ : ∃ m, n = m + 1 := ⟨n - 1, by simp at hn; omega⟩
    have e : pre.length + (recsM []).length = pre.length := rfl
    rw [e] at hp ⊢
    exact recM_none hp
  | x :: l, last, pre, post, n, hr, hn, hp => by
    obtain ⟨hv, hw, hl, hr⟩ := hr
    obtain ⟨m, rfl⟩ : ∃ m, n = m + 1 := ⟨n - 1, by simp at hn; omega⟩
    have e1 : recsM (x :: l) = recordM x.1 x.2 ++ recsM l := by unfold recsM; rw [List.flatMap_cons]
    have e2 : pre ++ recsM (x :: l) ++ post = pre ++ recordM x.1 x.2 ++ (recsM l ++ post) := by rw [e1]; simp only [List.append_assoc]
    have e3 : pre ++ recsM (x :: l) ++ post = (pre ++ recordM x.1 x.2) ++ recsM l ++ post := by rw [e1]; simp only [List.append_assoc]
    have hq := parse_record hv hw pre (recsM l ++ post)
    rw [← e2] at hq
    rw [recM_some hq (by simp only; omega)]
    have hlen : pre.length + (recsM (x :: l)).length = (pre ++ recordM x.1 x.2).length + (recsM l).length := by rw [e1]; simp only [List.length_append]; omega
    rw [hlen] at hp ⊢
    rw [e3] at hp
    have ih := rec_all l x.1 (pre ++ recordM x.1 x.2) post m hr (by simp at hn; omega) hp
    have e4 : (pre.length : Int) + (recordM x.1 x.2).length = ((pre ++ recordM x.1 x.2).length : Nat) := by rw [List.length_append]; omega
    simp only
    rw [e4, e3, ih]
theorem rise_len : ∀ (l : List TEn) (last : Int), RiseM last l → l.length ≤ (recsM l).length
  | [], _, _ => Nat.zero_le _
  | x :: l, last, hr => by
    obtain ⟨hv, hw, hl, hr⟩ := hr
    have ih := rise_len l x.1 hr
    have e1 : recsM (x :: l) = recordM x.1 x.2 ++ recsM l := by unfold recsM; rw [List.flatMap_cons]
    have := (body_len hv hw).2.1
    rw [e1, List.length_append, List.length_cons, record_len hv]
    omega
theorem recover_all {l : List TEn} {post : List (List UInt8)} (hr : RiseM 0 l) (hp : parseM (recsM l ++ post) ((recsM l).length : Nat) = none) : recoverM (recsM l ++ post) = (l, ((recsM l).length : Int)) := by
  have h := rec_all l 0 [] post ((recsM l ++ post).length + 1) hr (by have := rise_len l 0 hr; rw [List.length_append]; omega) (by simpa using hp)
  simp only [List.nil_append, List.length_nil, Nat.zero_add] at h
  exact h
theorem parse_out {l : List (List UInt8)} {a : Nat} (h : l.length ≤ a) : parseM l a = none := by
  unfold parseM
  rw [if_neg (by omega)]
theorem parse_zero {l : List (List UInt8)} {a : Nat} (h : l[a]?.getD [] = z32) : parseM l a = none := by
  unfold parseM
  split
  · rename_i hc
    have hm : manyM l (a : Int).toNat = 1 := by
      unfold manyM
      rw [Int.toNat_natCast, h]
      rfl
    have hd : l.drop (a : Int).toNat = z32 :: l.drop (a + 1) := by
      rw [Int.toNat_natCast, List.drop_eq_getElem_cons (by omega)]
      rw [List.getElem?_eq_getElem (by omega)] at h
      rw [show l[a] = z32 from h]
    have : loadM (manyM l (a : Int).toNat) (l.drop (a : Int).toNat) = none := by
      rw [hm, hd]
      have ho : okS 0 z32 = false := by decide +kernel
      show (if okS 0 z32 = true then _ else none) = none
      rw [if_neg (by rw [ho]; simp)]
    rw [this]
  · rfl
theorem parse_tail {l pre : List (List UInt8)} {z : Nat} (h : l = pre ++ List.replicate z z32) : parseM l pre.length = none := by
  subst h
  cases z with
  | zero => exact parse_out (by simp)
  | succ z =>
    refine parse_zero ?_
    rw [List.getElem?_append_right (Nat.le_refl _), Nat.sub_self]
    rfl
theorem rise_take : ∀ (l : List TEn) (p : Int) (n : Nat), RiseM p l → RiseM p (l.take n)
  | [], p, n, h => by rw [List.take_nil]; trivial
  | x :: l, p, 0, h => trivial
  | x :: l, p, n + 1, h => ⟨h.1, h.2.1, h.2.2.1, rise_take l x.1 n h.2.2.2⟩
end Go.Proofs.YtkfjgggiopegbaaDoor
end
section
namespace Go.Proofs.YtkfjgggiopegbaaDoor
set_option linter.unusedVariables false
set_option linter.unusedSimpArgs false
theorem recsT_succ (l : List TEn) (i : Nat) (h : i < l.length) : recsM (l.take (i + 1)) = recsM (l.take i) ++ recordM (l[i]?.getD dEn).1 (l[i]?.getD dEn).2 := by
  unfold recsM
  rw [List.take_add_one, List.getElem?_eq_getElem h, List.flatMap_append]
  simp
theorem riseT_of : ∀ (l : List TEn) (p : Int), (∀ x ∈ l, rgeW x.2) → (∀ j, j < l.length → validM (l[j]?.getD dEn).1 (l[j]?.getD dEn).2 = true) → (∀ j, j < l.length → 0 < j → (l[j - 1]?.getD dEn).1 < (l[j]?.getD dEn).1) → (0 < l.length → p < (l[0]?.getD dEn).1) → RiseM p l
  | [], _, _, _, _, _ => trivial
  | x :: l, p, hw, hv, ha, hp => by
    refine ⟨hv 0 (by simp), hw x (List.mem_cons_self ..), hp (by simp), riseT_of l x.1 (fun y hy => hw y (List.mem_cons_of_mem _ hy)) (fun j hj => hv (j + 1) (by simpa using hj)) (fun j hj h0 => ?_) (fun h => ha 1 (by simpa using h) (by omega))⟩
    have := ha (j + 1) (by simpa using hj) (by omega)
    obtain ⟨k, rfl⟩ : ∃ k, j = k + 1 := ⟨j - 1, by omega⟩
    exact this
theorem entV_eq {i : Nat} {b : Int} (hi : i ≤ 100) (h0 : 0 ≤ b) (h1 : b ≤ 255) : entV i b = 2 * i + 1 + b / 128 := by
  unfold entV
  rw [w64 (n := b) (by omega) (by omega), Int.tdiv_eq_ediv_of_nonneg h0]
  simp only [w64_eq]
  omega
theorem entX_rge (i c : Int) : -9223372036854775808 ≤ entX i c ∧ entX i c ≤ 9223372036854775807 := by
  unfold entX
  generalize IntKind.i64.wrap (IntKind.i64.wrap (1000000 * i) + c) - 50 = n
  rw [w64_eq n]
  omega
theorem entW_mem {i b : Int} {x : Tii} (h : x ∈ entW i b) : (0 ≤ x.1 ∧ x.1 < 5) ∧ (-9223372036854775808 ≤ x.2 ∧ x.2 ≤ 9223372036854775807) := by
  unfold entW at h
  simp only [List.mem_append] at h
  rcases h with h | h | h | h | h
  all_goals
    split at h
    · obtain rfl := List.mem_singleton.1 h
      refine ⟨?_, entX_rge _ _⟩
      simp only
      omega
    · cases h
theorem entW_rge (i b : Int) : rgeW (entW i b) := fun x hx => by
  have := entW_mem hx
  exact ⟨by omega, this.2⟩
theorem entW_asc (i b : Int) : ascM (-1) (entW i b) = true := by
  unfold entW
  cases bitU b 1 <;> cases bitU b 2 <;> cases bitU b 4 <;> cases bitU b 8 <;> cases bitU b 16 <;> rfl
theorem entW_len (i b : Int) : (entW i b).length ≤ 5 := by
  unfold entW
  cases bitU b 1 <;> cases bitU b 2 <;> cases bitU b 4 <;> cases bitU b 8 <;> cases bitU b 16 <;> exact Nat.le_of_ble_eq_true rfl
theorem asc_pair : ∀ (w : List Tii) (p : Int), ascM p w = true → (∀ x ∈ w, p < x.1) ∧ w.Pairwise (fun x y => x.1 ≠ y.1)
  | [], _, _ => ⟨fun _ h => by simp at h, .nil⟩
  | x :: w, p, h => by
    unfold ascM at h
    rw [Bool.and_eq_true] at h
    have h1 : p < x.1 := of_decide_eq_true h.1
    obtain ⟨h2, h3⟩ := asc_pair w x.1 h.2
    refine ⟨fun y hy => ?_, List.pairwise_cons.2 ⟨fun y hy => ?_, h3⟩⟩
    · rcases List.mem_cons.1 hy with rfl | hy
      · exact h1
      · have := h2 y hy; omega
    · have := h2 y hy; omega
theorem ents_get {l : List Int} {n i : Nat} (h : i < n) : (entsN l n)[i]?.getD dEn = (entV i (l[i]?.getD 0), entW i (l[i]?.getD 0)) := by
  simp [entsN, h]
theorem ent_valid {i : Nat} {b : Int} (hi : i ≤ 100) (h0 : 0 ≤ b) (h1 : b ≤ 255) : validM (entV i b) (entW i b) = true := by
  have := entV_eq hi h0 h1
  have := entW_len i b
  exact validM_iff.2 ⟨entW_asc _ _, by omega, by omega, by omega⟩
theorem record_le5 {v : Int} {w : List Tii} (hv : validM v w = true) (hw : rgeW w) (h5 : w.length ≤ 5) : 1 ≤ (recordM v w).length ∧ (recordM v w).length ≤ 5 := by
  rw [record_len hv]
  obtain ⟨_, b1, _⟩ := body_len hv hw
  refine ⟨b1, ?_⟩
  obtain ⟨e, _⟩ := nums_entry hv hw
  have hn := nums_len (v :: flatW w)
  have hl : (v :: flatW w).length ≤ 11 := by rw [List.length_cons, flatW_len]; omega
  have : (bodyM v w).length = ((numsM (v :: flatW w)).length + 26) / 27 * 27 := by unfold bodyM; rw [pad_len, strN_len, e]
  omega
structure Ents (es : List TEn) : Prop where
  rise : RiseM 0 es
  val : ∀ i, i < es.length → validM (es[i]?.getD dEn).1 (es[i]?.getD dEn).2 = true
  rge : ∀ i : Nat, rgeW (es[i]?.getD dEn).2
  len : ∀ i : Nat, (es[i]?.getD dEn).2.length ≤ 5
  loc : ∀ i : Nat, ∀ x ∈ (es[i]?.getD dEn).2, 0 ≤ x.1 ∧ x.1 < 5
  ver : ∀ i : Nat, 0 ≤ (es[i]?.getD dEn).1 ∧ (es[i]?.getD dEn).1 ≤ 1000
theorem ents_ok {l : List Int} (hl : l.length ≤ 8) (h : ∀ v ∈ l, 0 ≤ v ∧ v ≤ 255) : Ents (entsM l) := by
  have hb : ∀ i : Nat, 0 ≤ l[i]?.getD 0 ∧ l[i]?.getD 0 ≤ 255 := fun i => by
    cases hi : l[i]? with
    | none => simp
    | some v => exact h v (List.mem_of_getElem? hi)
  have hn : ∀ i : Nat, l.length ≤ i → (entsM l)[i]?.getD dEn = dEn := fun i hi => by
    rw [List.getElem?_eq_none (by unfold entsM; rw [ents_len]; exact hi)]; rfl
  have hv : ∀ i, i < l.length → validM ((entsM l)[i]?.getD dEn).1 ((entsM l)[i]?.getD dEn).2 = true := fun i hi => by
    unfold entsM
    rw [ents_get hi]
    exact ent_valid (by omega) (hb i).1 (hb i).2
  have hlen : (entsM l).length = l.length := ents_len _ _
  have hr : ∀ i : Nat, rgeW ((entsM l)[i]?.getD dEn).2 := fun i => by
    by_cases hi : i < l.length
    · unfold entsM; rw [ents_get hi]; exact entW_rge _ _
    · rw [hn i (by omega)]; exact fun x hx => by simp [dEn] at hx
  refine ⟨riseT_of _ 0 (fun x hx => ?_) (fun j hj => hv j (by omega)) (fun j hj h0 => ?_) (fun h0 => ?_), fun i hi => hv i (by omega), hr, fun i => ?_, fun i => ?_, fun i => ?_⟩
  · obtain ⟨i, hi, rfl⟩ := List.getElem_of_mem hx
    have := hr i
    rwa [List.getElem?_eq_getElem hi] at this
  · unfold entsM
    rw [ents_get (by omega), ents_get (by omega)]
    have e1 := entV_eq (i := j - 1) (by omega) (hb (j - 1)).1 (hb (j - 1)).2
    have e2 := entV_eq (i := j) (by omega) (hb j).1 (hb j).2
    have := hb j
    have := hb (j - 1)
    show entV ((j - 1 : Nat) : Int) _ < entV (j : Int) _
    omega
  · unfold entsM
    rw [ents_get (by omega)]
    have e2 := entV_eq (i := 0) (by omega) (hb 0).1 (hb 0).2
    have := hb 0
    show 0 < entV ((0 : Nat) : Int) _
    omega
  · by_cases hi : i < l.length
    · unfold entsM; rw [ents_get hi]; exact entW_len _ _
    · rw [hn i (by omega)]; simp [dEn]
  · by_cases hi : i < l.length
    · unfold entsM; rw [ents_get hi]; exact fun x hx => (entW_mem hx).1
    · rw [hn i (by omega)]; exact fun x hx => by simp [dEn] at hx
  · by_cases hi : i < l.length
    · unfold entsM; rw [ents_get hi]
      have e2 := entV_eq (i := i) (by omega) (hb i).1 (hb i).2
      have := hb i
      show 0 ≤ entV (i : Int) _ ∧ entV (i : Int) _ ≤ 1000
      omega
    · rw [hn i (by omega)]; simp [dEn]
section
variable {es : List TEn} (he : Ents es)
include he
theorem ents_rec {i : Nat} (hi : i < es.length) : record3 (es[i]?.getD dEn).1 (es[i]?.getD dEn).2 = recordM (es[i]?.getD dEn).1 (es[i]?.getD dEn).2 := record3_eq (he.rge i)
theorem ents_rlen {i : Nat} (hi : i < es.length) : 1 ≤ (recordM (es[i]?.getD dEn).1 (es[i]?.getD dEn).2).length ∧ (recordM (es[i]?.getD dEn).1 (es[i]?.getD dEn).2).length ≤ 5 := record_le5 (he.val i hi) (he.rge i) (he.len i)
theorem ents_32 {i : Nat} (hi : i < es.length) (j : Nat) (hj : j < (recordM (es[i]?.getD dEn).1 (es[i]?.getD dEn).2).length) : ((recordM (es[i]?.getD dEn).1 (es[i]?.getD dEn).2)[j]?.getD []).length = 32 := by
  rw [List.getElem?_eq_getElem hj]
  exact record_secs (he.val i hi) (he.rge i) _ (List.getElem_mem hj)
theorem ents_all : ∀ i, i ≤ es.length → (recsM (es.take i)).length ≤ 5 * i
  | 0, _ => by simp [recsM]
  | i + 1, h => by
    have := ents_all i (by omega)
    have := (ents_rlen he (i := i) (by omega)).2
    rw [recsT_succ es i (by omega), List.length_append]
    omega
theorem ents_pair (i : Nat) : (es[i]?.getD dEn).2.Pairwise (fun x y => x.1 ≠ y.1) := by
  by_cases hi : i < es.length
  · exact (asc_pair _ _ (validM_iff.1 (he.val i hi)).1).2
  · rw [List.getElem?_eq_none (by omega)]; exact .nil
end
def secsM (P : List (List UInt8)) : List (List UInt8) := P ++ List.replicate (40 - P.length) z32
def wasM (A k : Nat) : List Tis := (List.range k).map fun j : Nat => (((A + j : Nat) : Int), z32)
theorem secs_len {P : List (List UInt8)} (h : P.length ≤ 40) : (secsM P).length = 40 := by unfold secsM; rw [List.length_append, List.length_replicate]; omega
theorem secs_get {P : List (List UInt8)} (h : P.length < 40) : (secsM P)[P.length]?.getD [] = z32 := by
  unfold secsM
  rw [List.getElem?_append_right (Nat.le_refl _), Nat.sub_self]
  obtain ⟨m, hm⟩ : ∃ m, 40 - P.length = m + 1 := ⟨39 - P.length, by omega⟩
  rw [hm]
  rfl
theorem secs_set {P : List (List UInt8)} (h : P.length < 40) (r : List UInt8) : (secsM P).set P.length r = secsM (P ++ [r]) := by
  unfold secsM
  obtain ⟨m, hm⟩ : ∃ m, 40 - P.length = m + 1 := ⟨39 - P.length, by omega⟩
  have hm2 : 40 - (P ++ [r]).length = m := by rw [List.length_append, List.length_singleton]; omega
  rw [hm, hm2, List.set_append_right _ _ (Nat.le_refl _), Nat.sub_self, List.replicate_succ, List.set_cons_zero, List.append_assoc]
  rfl
theorem was_succ (A k : Nat) : wasM A (k + 1) = wasM A k ++ [(((A + k : Nat) : Int), z32)] := by
  unfold wasM
  rw [List.range_succ, List.map_append]
  rfl
theorem was_len (A k : Nat) : (wasM A k).length = k := by simp [wasM]
theorem du_w {l : List Int} {Q : List (List UInt8)} {A k : Nat} (hQ : Q.length = A + k) (h40 : Q.length < 40) {r : List UInt8} (hr : r.length = 32) :
    duM l (secsM Q) (wasM A k) 5 ((A + k : Nat) : Int) 0 0 r = (l, secsM (Q ++ [r]), wasM A (k + 1), (0, true), 0) := by
  have hw : writeM (secsM Q) (wasM A k) ((A + k : Nat) : Int) r = (secsM (Q ++ [r]), wasM A (k + 1), 0) := by
    unfold writeM
    have e : (((A + k : Nat) : Int)).toNat = Q.length := by omega
    rw [if_pos (by rw [secs_len (by omega)]; omega), if_pos (by omega), e, secs_set h40, secs_get h40, was_succ]
  unfold duM
  rw [if_pos rfl, if_pos ⟨rfl, rfl⟩, hw]
  rfl
theorem du_s (l : List Int) (s : List (List UInt8)) (w : List Tis) : duM l s w 6 0 0 0 [] = (l, s, [], (0, true), 0) := by
  unfold duM
  rw [if_neg (by decide), if_pos rfl, if_pos ⟨rfl, rfl, rfl, rfl⟩]
theorem accs_len (v : Int) (w : List Tii) (a : Int) : (accsM v w a).length = (record3 v w).length + 1 := by unfold accsM; rw [List.length_append, recA_len]; rfl
theorem accs_w {v : Int} {w : List Tii} {A k : Nat} (hk : k < (record3 v w).length) (hA : A ≤ 1000) : (accsM v w A)[k]?.getD diiiis = (5, ((A + k : Nat) : Int), 0, 0, (record3 v w)[k]?.getD []) := by
  have hl := record3_le v w
  unfold accsM
  rw [List.getElem?_append_left (by rw [recA_len]; exact hk)]
  simp only [recAM, List.getElem?_map, List.getElem?_range hk, Option.map_some, Option.getD_some]
  rw [w64 (by omega) (by omega)]
  congr 1
theorem accs_s {v : Int} {w : List Tii} {a : Int} : (accsM v w a)[(record3 v w).length]?.getD diiiis = (6, 0, 0, 0, []) := by
  unfold accsM
  rw [List.getElem?_append_right (by rw [recA_len]; exact Nat.le_refl _), recA_len, Nat.sub_self]
  rfl
theorem take_snoc {R : List (List UInt8)} {k : Nat} (h : k < R.length) : R.take (k + 1) = R.take k ++ [R[k]?.getD []] := by
  rw [List.take_add_one, List.getElem?_eq_getElem h]; rfl
theorem write_loop {B : List DV → List DV → Prop} {R : List DV → Prop} {P C : List (List UInt8)}
    (hB1 : ∀ k, k < C.length → B [.int k, .list ((secsM (P ++ C.take k)).map .str), .list ((wasM P.length k).map encis)] [.int ((k + 1 : Nat) : Int), .list ((secsM (P ++ C.take (k + 1))).map .str), .list ((wasM P.length (k + 1)).map encis)])
    (hB2 : B [.int C.length, .list ((secsM (P ++ C)).map .str), .list ((wasM P.length C.length).map encis)] [.int ((C.length + 1 : Nat) : Int), .list ((secsM (P ++ C)).map .str), .list []])
    (hR : R [.int ((C.length + 1 : Nat) : Int), .list ((secsM (P ++ C)).map .str), .list []]) : Rounds B R [.int 0, .list ((secsM P).map .str), .list []] := by
  refine rounds_at (C.length + 1) (fun t => if t ≤ C.length then [.int (t : Nat), .list ((secsM (P ++ C.take t)).map .str), .list ((wasM P.length t).map encis)] else [.int (t : Nat), .list ((secsM (P ++ C)).map .str), .list []]) ?_ (fun t => ?_) (fun t ht => ?_) ?_
  · simp [wasM]
  · split <;> rfl
  · by_cases h : t < C.length
    · simp only [show t ≤ C.length by omega, show t + 1 ≤ C.length by omega, if_true]
      exact hB1 t h
    · obtain rfl : t = C.length := by omega
      simp only [Nat.le_refl, if_true, show ¬ C.length + 1 ≤ C.length by omega, if_false, List.take_length]
      exact hB2
  · simp only [show ¬ C.length + 1 ≤ C.length by omega, if_false]
    exact hR
theorem recover_secs {es : List TEn} (he : Ents es) {i : Nat} (hi : i ≤ es.length) : recoverM (secsM (recsM (es.take i))) = (es.take i, ((recsM (es.take i)).length : Int)) :=
  recover_all (rise_take es 0 i he.rise) (parse_tail rfl)
theorem cell_boot {first : List Int} {es : List TEn} {en : Int} {i : Nat} (hi : i < 28) : cellM (bootM 28 8 5 first es en) i = cellG 8 5 (clkM es) 1 en (valM es first) (wordM es) i := by
  unfold cellM
  rw [boot_len, if_neg (by omega), Int.toNat_natCast]
  exact cells_get hi
theorem last_snoc (es : List TEn) (v : Int) (w : List Tii) (k : Int) : lastM (es ++ [(v, w)]) k = match w.find? (fun x => decide (x.1 = k)) with | some x => some (x, v) | none => lastM es k := by
  rw [last_app]
  show (match (match (none : Option (Tii × Int)) with | some x => some x | none => (w.find? fun x => decide (x.1 = k)).map fun x => (x, v)) with | some x => some x | none => lastM es k) = _
  cases w.find? (fun x => decide (x.1 = k)) <;> rfl
theorem clk_snoc (es : List TEn) (v : Int) (w : List Tii) : clkM (es ++ [(v, w)]) = v := by
  unfold clkM
  rw [List.length_append, List.length_singleton, Nat.add_sub_cancel, List.getElem?_append_right (Nat.le_refl _), Nat.sub_self]
  rfl
def stepF (ver i a : Int) (x : Tii) : Int := if i = 8 + 4 * x.1 then freeM ver else if i = 8 + 4 * x.1 + 1 then x.2 else a
theorem fold_find (ver i : Int) : ∀ (w : List Tii) (a : Int), w.Pairwise (fun x y => x.1 ≠ y.1) → w.foldl (stepF ver i) a = if (i - 8) % 4 = 0 then (match w.find? (fun x => decide (x.1 = (i - 8) / 4)) with | some _ => freeM ver | none => a) else if (i - 8) % 4 = 1 then (match w.find? (fun x => decide (x.1 = (i - 8) / 4)) with | some x => x.2 | none => a) else a
  | [], a, _ => by simp
  | x :: w, a, h => by
    obtain ⟨h1, h2⟩ := List.pairwise_cons.1 h
    have ih := fold_find ver i w (stepF ver i a x) h2
    rw [List.foldl_cons, ih, List.find?_cons]
    by_cases hx : x.1 = (i - 8) / 4
    · have hn : w.find? (fun x => decide (x.1 = (i - 8) / 4)) = none := List.find?_eq_none.2 fun y hy => by
        have := h1 y hy
        simp only [decide_eq_true_eq]
        omega
      simp only [hx, decide_true, hn]
      unfold stepF
      by_cases h4 : (i - 8) % 4 = 0
      · rw [if_pos h4, if_pos (by omega), if_pos h4]
      · rw [if_neg h4, if_neg h4]
        by_cases h5 : (i - 8) % 4 = 1
        · rw [if_pos h5, if_pos h5, if_neg (by omega), if_pos (by omega)]
        · rw [if_neg h5, if_neg h5, if_neg (by omega), if_neg (by omega)]
    · have hs : stepF ver i a x = a := by
        unfold stepF
        rw [if_neg (by omega), if_neg (by omega)]
      simp only [hx, decide_false, hs]
theorem want_end {first : List Int} {es : List TEn} {en en' v i : Int} {w : List Tii} (h0 : 0 ≤ i) (h28 : i < 28) (hw : ∀ x ∈ w, 0 ≤ x.1 ∧ x.1 < 5) (hp : w.Pairwise (fun x y => x.1 ≠ y.1)) :
    w.foldl (stepF v i) (if i = 0 then v else if i = 3 then en' else cellG 8 5 (clkM es) 1 en (valM es first) (wordM es) i) = cellG 8 5 (clkM (es ++ [(v, w)])) 1 en' (valM (es ++ [(v, w)]) first) (wordM (es ++ [(v, w)])) i := by
  rw [fold_find v i w _ hp]
  by_cases h8 : i < 8
  · have hn : w.find? (fun x => decide (x.1 = (i - 8) / 4)) = none := List.find?_eq_none.2 fun y hy => by
      have := hw y hy
      simp only [decide_eq_true_eq]
      omega
    rw [hn, clk_snoc]
    have e : ∀ a : Int, (if (i - 8) % 4 = 0 then (match (none : Option Tii) with | some _ => freeM v | none => a) else if (i - 8) % 4 = 1 then (match (none : Option Tii) with | some x => x.2 | none => a) else a) = a := fun a => by split <;> first | rfl | (split <;> rfl)
    rw [e]
    unfold cellG
    by_cases h1 : i = 0
    · rw [if_pos h1, if_pos h1]
    rw [if_neg h1, if_neg h1]
    by_cases h2 : i = 3
    · rw [if_pos h2, if_neg (by omega), if_neg (by omega), if_pos h2]
    rw [if_neg h2, if_neg h1]
    by_cases h3 : i = 1
    · rw [if_pos h3, if_pos h3]
    rw [if_neg h3, if_neg h3, if_neg h2, if_neg h2, if_pos (by omega), if_pos (by omega)]
  · rw [if_neg (show ¬ i = 0 by omega), if_neg (show ¬ i = 3 by omega)]
    unfold cellG
    rw [if_neg (show ¬ i = 0 by omega), if_neg (show ¬ i = 1 by omega), if_neg (show ¬ i = 3 by omega), if_neg (show ¬ (i < 8 ∨ 8 + 4 * 5 ≤ i) by omega), if_neg (show ¬ i = 0 by omega), if_neg (show ¬ i = 1 by omega), if_neg (show ¬ i = 3 by omega), if_neg (show ¬ (i < 8 ∨ 8 + 4 * 5 ≤ i) by omega)]
    unfold valM wordM
    rw [last_snoc]
    by_cases h4 : (i - 8) % 4 = 0
    · rw [if_pos h4, if_pos h4, if_pos h4]
      cases w.find? (fun x => decide (x.1 = (i - 8) / 4)) <;> rfl
    · rw [if_neg h4, if_neg h4, if_neg h4]
      by_cases h5 : (i - 8) % 4 = 1
      · rw [if_pos h5, if_pos h5, if_pos h5]
        cases w.find? (fun x => decide (x.1 = (i - 8) / 4)) <;> rfl
      · rw [if_neg h5, if_neg h5, if_neg h5]
theorem want_loop {B : List DV → List DV → Prop} {R : List DV → Prop} (ver i a : Int) (w : List Tii) (hB : ∀ (j : Nat) (b : Int), j < w.length → B [.int b, .int (j : Nat)] [.int (stepF ver i b (w[j]?.getD dii)), .int ((j + 1 : Nat) : Int)])
    (hR : R [.int (w.foldl (stepF ver i) a), .int (w.length : Nat)]) : Rounds B R [.int a, .int 0] := by
  refine rounds_at w.length (fun j => [.int ((w.take j).foldl (stepF ver i) a), .int (j : Nat)]) rfl (fun _ => rfl) (fun j hj => ?_) (by rw [List.take_length]; exact hR)
  rw [List.take_add_one, List.getElem?_eq_getElem hj, List.foldl_append]
  have := hB j ((w.take j).foldl (stepF ver i) a) hj
  rwa [List.getElem?_eq_getElem hj] at this
theorem place5 {k : Int} (h0 : 0 ≤ k) (h1 : k < 5) : placeM 8 5 k 4 1 = 8 + 4 * k + 1 ∧ placeM 8 5 k 4 0 = 8 + 4 * k := by
  unfold placeM
  rw [if_neg (by omega), if_neg (by omega)]
  simp only [w64_eq]
  omega
theorem step_word {ver i a : Int} {x : Tii} (h : i = 8 + 4 * x.1) : IntKind.i64.wrap (2 * ver) = stepF ver i a x := by unfold stepF; rw [if_pos h]; rfl
theorem step_val {ver i a : Int} {x : Tii} (h : ¬ i = 8 + 4 * x.1) (h1 : i = 8 + 4 * x.1 + 1) : x.2 = stepF ver i a x := by unfold stepF; rw [if_neg h, if_pos h1]
theorem step_none {ver i a : Int} {x : Tii} (h : ¬ i = 8 + 4 * x.1) (h1 : ¬ i = 8 + 4 * x.1 + 1) : a = stepF ver i a x := by unfold stepF; rw [if_neg h, if_neg h1]
end Go.Proofs.YtkfjgggiopegbaaDoor
end
section
namespace Go.Proofs.YtkfjgggiopegbaaDoor
set_option linter.unusedVariables false
set_option linter.unusedSimpArgs false
set_option maxRecDepth 100000
def durableAppF (ds : List DV) : List DV := [.bool true]
def durableAppN0 : SE := (.bin .cons (.str [0, 0, 0, 0, 0, 0, 0, 0, 0, 0, 0, 0, 0, 0, 0, 0, 0, 0, 0, 0, 0, 0, 0, 0, 0, 0, 0, 0, 0, 0, 0, 0]) (.bin .cons (.str [0, 0, 0, 0, 0, 0, 0, 0, 0, 0, 0, 0, 0, 0, 0, 0, 0, 0, 0, 0, 0, 0, 0, 0, 0, 0, 0, 0, 0, 0, 0, 0]) (.bin .cons (.str [0, 0, 0, 0, 0, 0, 0, 0, 0, 0, 0, 0, 0, 0, 0, 0, 0, 0, 0, 0, 0, 0, 0, 0, 0, 0, 0, 0, 0, 0, 0, 0]) (.bin .cons (.str [0, 0, 0, 0, 0, 0, 0, 0, 0, 0, 0, 0, 0, 0, 0, 0, 0, 0, 0, 0, 0, 0, 0, 0, 0, 0, 0, 0, 0, 0, 0, 0]) (.bin .cons (.str [0, 0, 0, 0, 0, 0, 0, 0, 0, 0, 0, 0, 0, 0, 0, 0, 0, 0, 0, 0, 0, 0, 0, 0, 0, 0, 0, 0, 0, 0, 0, 0]) (.bin .cons (.str [0, 0, 0, 0, 0, 0, 0, 0, 0, 0, 0, 0, 0, 0, 0, 0, 0, 0, 0, 0, 0, 0, 0, 0, 0, 0, 0, 0, 0, 0, 0, 0]) (.bin .cons (.str [0, 0, 0, 0, 0, 0, 0, 0, 0, 0, 0, 0, 0, 0, 0, 0, 0, 0, 0, 0, 0, 0, 0, 0, 0, 0, 0, 0, 0, 0, 0, 0]) (.bin .cons (.str [0, 0, 0, 0, 0, 0, 0, 0, 0, 0, 0, 0, 0, 0, 0, 0, 0, 0, 0, 0, 0, 0, 0, 0, 0, 0, 0, 0, 0, 0, 0, 0]) (.bin .cons (.str [0, 0, 0, 0, 0, 0, 0, 0, 0, 0, 0, 0, 0, 0, 0, 0, 0, 0, 0, 0, 0, 0, 0, 0, 0, 0, 0, 0, 0, 0, 0, 0]) (.bin .cons (.str [0, 0, 0, 0, 0, 0, 0, 0, 0, 0, 0, 0, 0, 0, 0, 0, 0, 0, 0, 0, 0, 0, 0, 0, 0, 0, 0, 0, 0, 0, 0, 0]) (.bin .cons (.str [0, 0, 0, 0, 0, 0, 0, 0, 0, 0, 0, 0, 0, 0, 0, 0, 0, 0, 0, 0, 0, 0, 0, 0, 0, 0, 0, 0, 0, 0, 0, 0]) (.bin .cons (.str [0, 0, 0, 0, 0, 0, 0, 0, 0, 0, 0, 0, 0, 0, 0, 0, 0, 0, 0, 0, 0, 0, 0, 0, 0, 0, 0, 0, 0, 0, 0, 0]) (.bin .cons (.str [0, 0, 0, 0, 0, 0, 0, 0, 0, 0, 0, 0, 0, 0, 0, 0, 0, 0, 0, 0, 0, 0, 0, 0, 0, 0, 0, 0, 0, 0, 0, 0]) (.bin .cons (.str [0, 0, 0, 0, 0, 0, 0, 0, 0, 0, 0, 0, 0, 0, 0, 0, 0, 0, 0, 0, 0, 0, 0, 0, 0, 0, 0, 0, 0, 0, 0, 0]) (.bin .cons (.str [0, 0, 0, 0, 0, 0, 0, 0, 0, 0, 0, 0, 0, 0, 0, 0, 0, 0, 0, 0, 0, 0, 0, 0, 0, 0, 0, 0, 0, 0, 0, 0]) (.bin .cons (.str [0, 0, 0, 0, 0, 0, 0, 0, 0, 0, 0, 0, 0, 0, 0, 0, 0, 0, 0, 0, 0, 0, 0, 0, 0, 0, 0, 0, 0, 0, 0, 0]) (.bin .cons (.str [0, 0, 0, 0, 0, 0, 0, 0, 0, 0, 0, 0, 0, 0, 0, 0, 0, 0, 0, 0, 0, 0, 0, 0, 0, 0, 0, 0, 0, 0, 0, 0]) (.bin .cons (.str [0, 0, 0, 0, 0, 0, 0, 0, 0, 0, 0, 0, 0, 0, 0, 0, 0, 0, 0, 0, 0, 0, 0, 0, 0, 0, 0, 0, 0, 0, 0, 0]) (.bin .cons (.str [0, 0, 0, 0, 0, 0, 0, 0, 0, 0, 0, 0, 0, 0, 0, 0, 0, 0, 0, 0, 0, 0, 0, 0, 0, 0, 0, 0, 0, 0, 0, 0]) (.bin .cons (.str [0, 0, 0, 0, 0, 0, 0, 0, 0, 0, 0, 0, 0, 0, 0, 0, 0, 0, 0, 0, 0, 0, 0, 0, 0, 0, 0, 0, 0, 0, 0, 0]) (.bin .cons (.str [0, 0, 0, 0, 0, 0, 0, 0, 0, 0, 0, 0, 0, 0, 0, 0, 0, 0, 0, 0, 0, 0, 0, 0, 0, 0, 0, 0, 0, 0, 0, 0]) (.bin .cons (.str [0, 0, 0, 0, 0, 0, 0, 0, 0, 0, 0, 0, 0, 0, 0, 0, 0, 0, 0, 0, 0, 0, 0, 0, 0, 0, 0, 0, 0, 0, 0, 0]) (.bin .cons (.str [0, 0, 0, 0, 0, 0, 0, 0, 0, 0, 0, 0, 0, 0, 0, 0, 0, 0, 0, 0, 0, 0, 0, 0, 0, 0, 0, 0, 0, 0, 0, 0]) (.bin .cons (.str [0, 0, 0, 0, 0, 0, 0, 0, 0, 0, 0, 0, 0, 0, 0, 0, 0, 0, 0, 0, 0, 0, 0, 0, 0, 0, 0, 0, 0, 0, 0, 0]) (.bin .cons (.str [0, 0, 0, 0, 0, 0, 0, 0, 0, 0, 0, 0, 0, 0, 0, 0, 0, 0, 0, 0, 0, 0, 0, 0, 0, 0, 0, 0, 0, 0, 0, 0]) (.bin .cons (.str [0, 0, 0, 0, 0, 0, 0, 0, 0, 0, 0, 0, 0, 0, 0, 0, 0, 0, 0, 0, 0, 0, 0, 0, 0, 0, 0, 0, 0, 0, 0, 0]) (.bin .cons (.str [0, 0, 0, 0, 0, 0, 0, 0, 0, 0, 0, 0, 0, 0, 0, 0, 0, 0, 0, 0, 0, 0, 0, 0, 0, 0, 0, 0, 0, 0, 0, 0]) (.bin .cons (.str [0, 0, 0, 0, 0, 0, 0, 0, 0, 0, 0, 0, 0, 0, 0, 0, 0, 0, 0, 0, 0, 0, 0, 0, 0, 0, 0, 0, 0, 0, 0, 0]) (.bin .cons (.str [0, 0, 0, 0, 0, 0, 0, 0, 0, 0, 0, 0, 0, 0, 0, 0, 0, 0, 0, 0, 0, 0, 0, 0, 0, 0, 0, 0, 0, 0, 0, 0]) (.bin .cons (.str [0, 0, 0, 0, 0, 0, 0, 0, 0, 0, 0, 0, 0, 0, 0, 0, 0, 0, 0, 0, 0, 0, 0, 0, 0, 0, 0, 0, 0, 0, 0, 0]) (.bin .cons (.str [0, 0, 0, 0, 0, 0, 0, 0, 0, 0, 0, 0, 0, 0, 0, 0, 0, 0, 0, 0, 0, 0, 0, 0, 0, 0, 0, 0, 0, 0, 0, 0]) (.bin .cons (.str [0, 0, 0, 0, 0, 0, 0, 0, 0, 0, 0, 0, 0, 0, 0, 0, 0, 0, 0, 0, 0, 0, 0, 0, 0, 0, 0, 0, 0, 0, 0, 0]) (.bin .cons (.str [0, 0, 0, 0, 0, 0, 0, 0, 0, 0, 0, 0, 0, 0, 0, 0, 0, 0, 0, 0, 0, 0, 0, 0, 0, 0, 0, 0, 0, 0, 0, 0]) (.bin .cons (.str [0, 0, 0, 0, 0, 0, 0, 0, 0, 0, 0, 0, 0, 0, 0, 0, 0, 0, 0, 0, 0, 0, 0, 0, 0, 0, 0, 0, 0, 0, 0, 0]) (.bin .cons (.str [0, 0, 0, 0, 0, 0, 0, 0, 0, 0, 0, 0, 0, 0, 0, 0, 0, 0, 0, 0, 0, 0, 0, 0, 0, 0, 0, 0, 0, 0, 0, 0]) (.bin .cons (.str [0, 0, 0, 0, 0, 0, 0, 0, 0, 0, 0, 0, 0, 0, 0, 0, 0, 0, 0, 0, 0, 0, 0, 0, 0, 0, 0, 0, 0, 0, 0, 0]) (.bin .cons (.str [0, 0, 0, 0, 0, 0, 0, 0, 0, 0, 0, 0, 0, 0, 0, 0, 0, 0, 0, 0, 0, 0, 0, 0, 0, 0, 0, 0, 0, 0, 0, 0]) (.bin .cons (.str [0, 0, 0, 0, 0, 0, 0, 0, 0, 0, 0, 0, 0, 0, 0, 0, 0, 0, 0, 0, 0, 0, 0, 0, 0, 0, 0, 0, 0, 0, 0, 0]) (.bin .cons (.str [0, 0, 0, 0, 0, 0, 0, 0, 0, 0, 0, 0, 0, 0, 0, 0, 0, 0, 0, 0, 0, 0, 0, 0, 0, 0, 0, 0, 0, 0, 0, 0]) (.bin .cons (.str [0, 0, 0, 0, 0, 0, 0, 0, 0, 0, 0, 0, 0, 0, 0, 0, 0, 0, 0, 0, 0, 0, 0, 0, 0, 0, 0, 0, 0, 0, 0, 0]) .nil))))))))))))))))))))))))))))))))))))))))
def durableAppN1 : SE := (.bin .le (.un .len (.bin .idx (.bin .idx (.bin .idx (.fn 168 (.bin .cons (.bin .snoc (.var 0) (.var 1)) .nil)) (.int 0)) (.bin .add (.int 0) (.var 3))) (.int 1))) (.int 1000000))
def durableAppN2 : SE := (.bin .idx (.fn 169 (.bin .cons (.bin .idx (.bin .idx (.bin .idx (.fn 168 (.bin .cons (.bin .snoc (.var 0) (.var 1)) .nil)) (.int 0)) (.bin .add (.int 0) (.var 3))) (.int 0)) (.bin .cons (.bin .idx (.bin .idx (.bin .idx (.fn 168 (.bin .cons (.bin .snoc (.var 0) (.var 1)) .nil)) (.int 0)) (.bin .add (.int 0) (.var 3))) (.int 1)) (.bin .cons (.var 2) .nil)))) (.int 0))
def durableAppN3 : SE := (.un .len durableAppN2)
def durableAppN4 : SE := (.un .not (.bin .le durableAppN3 (.var 8)))
def durableAppN5 : SE := (.bin .idx durableAppN2 (.bin .add (.int 0) (.var 8)))
def durableAppN6 : SE := (.fn 131 (.bin .cons .nil (.bin .cons (.var 9) (.bin .cons (.var 10) (.bin .cons (.bin .idx durableAppN5 (.int 0)) (.bin .cons (.bin .idx durableAppN5 (.int 1)) (.bin .cons (.bin .idx durableAppN5 (.int 2)) (.bin .cons (.bin .idx durableAppN5 (.int 3)) (.bin .cons (.bin .idx durableAppN5 (.int 4)) .nil)))))))))
def durableAppN7 : SE := (.un .not (.bin .eq (.bin .idx durableAppN6 (.int 5)) (.int 0)))
def durableAppN8 : PT := (.br durableAppN4 (.asrt (.bin .le (.int 0) (.var 8)) (.asrt (.bin .le (.un .len (.var 9)) (.int 1000000)) (.asrt (.bin .le (.un .len (.var 10)) (.int 1000000)) (.br durableAppN7 .fail (.leaf [(.un (.wrap .i64) (.bin .add (.var 8) (.int 1))), (.bin .idx durableAppN6 (.int 1)), (.bin .idx durableAppN6 (.int 2))]))))) .fail)
def durableAppN9 : SE := (.fn 165 (.bin .cons (.int 1) (.bin .cons (.int 5) (.bin .cons (.int 0) (.bin .cons (.int 40) (.bin .cons (.int 0) (.bin .cons (.int 0) (.bin .cons (.int 1) (.bin .cons (.int 2) (.bin .cons (.int 3) (.bin .cons (.int 4) (.bin .cons (.int 8) (.bin .cons (.int 8) (.bin .cons (.int 28) (.bin .cons (.bin .cons (.int 9) (.bin .cons (.int 8) (.bin .cons (.int 7) (.bin .cons (.int 6) (.bin .cons (.int 5) .nil))))) (.bin .cons (.var 4) (.bin .cons (.var 5) .nil)))))))))))))))))
def durableAppN10 : SE := (.fn 165 (.bin .cons (.int 1) (.bin .cons (.int 5) (.bin .cons (.int 0) (.bin .cons (.int 40) (.bin .cons (.int 0) (.bin .cons (.int 0) (.bin .cons (.int 1) (.bin .cons (.int 2) (.bin .cons (.int 3) (.bin .cons (.int 4) (.bin .cons (.int 8) (.bin .cons (.int 8) (.bin .cons (.int 28) (.bin .cons (.bin .cons (.int 9) (.bin .cons (.int 8) (.bin .cons (.int 7) (.bin .cons (.int 6) (.bin .cons (.int 5) .nil))))) (.bin .cons (.var 6) (.bin .cons (.var 7) .nil)))))))))))))))))
def durableAppN11 : SE := (.un .not (.bin .le (.un .len (.bin .idx (.bin .idx (.bin .idx (.fn 168 (.bin .cons (.bin .snoc (.var 0) (.var 1)) .nil)) (.int 0)) (.bin .add (.int 0) (.un .len (.var 0)))) (.int 1))) (.var 10)))
def durableAppN12 : SE := (.bin .idx (.bin .idx (.bin .idx (.bin .idx (.fn 168 (.bin .cons (.bin .snoc (.var 0) (.var 1)) .nil)) (.int 0)) (.bin .add (.int 0) (.un .len (.var 0)))) (.int 1)) (.var 10))
def durableAppN13 : SE := (.bin .cons (.int 1) (.bin .cons (.int 5) (.bin .cons (.int 0) (.bin .cons (.int 40) (.bin .cons (.int 0) (.bin .cons (.int 0) (.bin .cons (.int 1) (.bin .cons (.int 2) (.bin .cons (.int 3) (.bin .cons (.int 4) (.bin .cons (.int 8) (.bin .cons (.int 8) (.bin .cons (.int 28) (.bin .cons (.bin .idx durableAppN12 (.int 0)) .nil))))))))))))))
def durableAppN14 : SE := (.bin .eq (.var 8) (.bin .idx (.fn 31 durableAppN13) (.int 0)))
def durableAppN15 : SE := (.un (.wrap .i64) (.bin .mul (.int 2) (.bin .idx (.bin .idx (.bin .idx (.fn 168 (.bin .cons (.bin .snoc (.var 0) (.var 1)) .nil)) (.int 0)) (.bin .add (.int 0) (.un .len (.var 0)))) (.int 0))))
def durableAppN16 : PT := (.br durableAppN11 (.asrt (.bin .le (.int 0) (.var 10)) (.br (.bin .eq (.var 8) (.bin .idx (.fn 32 durableAppN13) (.int 0))) (.br durableAppN14 (.leaf [durableAppN15, (.un (.wrap .i64) (.bin .add (.var 10) (.int 1)))]) (.leaf [(.bin .idx durableAppN12 (.int 1)), (.un (.wrap .i64) (.bin .add (.var 10) (.int 1)))])) (.br durableAppN14 (.leaf [durableAppN15, (.un (.wrap .i64) (.bin .add (.var 10) (.int 1)))]) (.leaf [(.var 9), (.un (.wrap .i64) (.bin .add (.var 10) (.int 1)))])))) .fail)
def durableAppN17 : SE := (.un .not (.bin .eq (.bin .idx (.fn 24 (.bin .cons (.bin .idx durableAppN10 (.int 0)) (.bin .cons (.var 8) .nil))) (.int 0)) (.var 9)))
def durableAppN18 : PT := (.br durableAppN11 (.asrt (.bin .le (.int 0) (.var 10)) .fail) (.br durableAppN17 .fail (.leaf [(.un (.wrap .i64) (.bin .add (.var 8) (.int 1)))])))
def durableAppN19 : SE := (.bin .idx (.fn 24 (.bin .cons (.bin .idx durableAppN9 (.int 0)) (.bin .cons (.var 8) .nil))) (.int 0))
def durableAppN20 : PT := (.br durableAppN11 (.asrt (.bin .le (.int 0) (.var 10)) .fail) (.br durableAppN17 (.leaf [(.bool false)]) .fail))
def durableAppTree : PT :=
(.br (.un .not (.bin .le (.un .len (.var 0)) (.int 7))) (.leaf [(.bin .idx (.fn 133 .nil) (.int 0))]) (.loop 2 [(.int 0), (.int 0), durableAppN0, .nil, durableAppN0, .nil] (.br (.un .not (.bin .le (.un .len (.bin .idx (.fn 168 (.bin .cons (.bin .snoc (.var 0) (.var 1)) .nil)) (.int 0))) (.var 3))) (.asrt (.bin .le (.int 0) (.var 3)) (.asrt durableAppN1 (.loop 8 [(.int 0), (.var 6), (.var 7)] durableAppN8 (.br durableAppN4 (.asrt (.bin .le (.int 0) (.var 8)) (.asrt (.bin .le (.un .len (.var 9)) (.int 1000000)) (.asrt (.bin .le (.un .len (.var 10)) (.int 1000000)) .fail))) (.leaf [(.un (.wrap .i64) (.bin .sub (.un (.wrap .i64) (.bin .add (.var 2) durableAppN3)) (.int 1))), (.un (.wrap .i64) (.bin .add (.var 3) (.int 1))), (.var 6), (.var 7), (.var 9), (.var 10)]))))) .fail) (.br (.un .not (.bin .le (.un .len (.bin .idx (.fn 168 (.bin .cons (.bin .snoc (.var 0) (.var 1)) .nil)) (.int 0))) (.var 3))) (.asrt (.bin .le (.int 0) (.var 3)) (.asrt durableAppN1 (.loop 8 [(.int 0), (.var 6), (.var 7)] durableAppN8 (.br durableAppN4 (.asrt (.bin .le (.int 0) (.var 8)) (.asrt (.bin .le (.un .len (.var 9)) (.int 1000000)) (.asrt (.bin .le (.un .len (.var 10)) (.int 1000000)) (.br durableAppN7 (.leaf [(.bool false)]) .fail)))) .fail)))) (.asrt (.bin .le (.un .len (.var 4)) (.int 1000)) (.asrt (.bin .le (.un .len (.var 5)) (.int 1000000)) (.asrt (.bin .le (.un .len (.var 6)) (.int 1000)) (.asrt (.bin .le (.un .len (.var 7)) (.int 1000000)) (.asrt (.un .not (.bin .le (.un .len (.bin .idx (.fn 168 (.bin .cons (.bin .snoc (.var 0) (.var 1)) .nil)) (.int 0))) (.un .len (.var 0)))) (.br (.un .not (.bin .eq (.un .len (.bin .idx durableAppN9 (.int 1))) (.un .len (.var 0)))) (.leaf [(.bool false)]) (.br (.un .not (.bin .eq (.un .len (.bin .idx durableAppN10 (.int 1))) (.un (.wrap .i64) (.bin .add (.un .len (.var 0)) (.int 1))))) (.leaf [(.bool false)]) (.loop 8 [(.int 0)] (.br (.un .not (.bin .le (.int 28) (.var 8))) (.br (.bin .eq (.var 8) (.int 0)) (.loop 9 [(.bin .idx (.bin .idx (.bin .idx (.fn 168 (.bin .cons (.bin .snoc (.var 0) (.var 1)) .nil)) (.int 0)) (.bin .add (.int 0) (.un .len (.var 0)))) (.int 0)), (.int 0)] durableAppN16 durableAppN18) (.br (.bin .eq (.var 8) (.int 3)) (.loop 9 [(.var 2), (.int 0)] durableAppN16 durableAppN18) (.loop 9 [durableAppN19, (.int 0)] durableAppN16 durableAppN18))) .fail) (.br (.un .not (.bin .le (.int 28) (.var 8))) (.br (.bin .eq (.var 8) (.int 0)) (.loop 9 [(.bin .idx (.bin .idx (.bin .idx (.fn 168 (.bin .cons (.bin .snoc (.var 0) (.var 1)) .nil)) (.int 0)) (.bin .add (.int 0) (.un .len (.var 0)))) (.int 0)), (.int 0)] durableAppN16 durableAppN20) (.br (.bin .eq (.var 8) (.int 3)) (.loop 9 [(.var 2), (.int 0)] durableAppN16 durableAppN20) (.loop 9 [durableAppN19, (.int 0)] durableAppN16 durableAppN20))) (.leaf [(.bin .idx (.fn 133 .nil) (.int 0))])))))))))))))
def durableAppSm : List (Nat × Smy) := [(19, ⟨133, [], [.one (.pl .bool)], fun _ => [], none⟩), (28, ⟨128, [.agg [.pl (.int .i64), .pl (.int .i64), .pl (.int .i64), .pl (.int .i64), .pl (.int .i64)]], [.agg [.pl (.int .i64), .pl (.int .i64), .pl (.int .i64), .pl (.int .i64), .pl (.int .i64), .pl (.int .i64), .pl (.int .i64), .pl (.int .i64), .pl (.int .i64), .pl (.int .i64), .pl (.int .i64), .pl (.int .i64), .pl (.int .i64)], .one (.pl (.int .i64))], fun _ => [], some rOfMF⟩), (29, ⟨168, [.one (.rows false [.int .u8])], [.one (.nst [.pl (.int .i64), .sub [.int .i64, .int .i64]])], lenC [(0, 1000)], none⟩), (30, ⟨74, [.one (.pl (.int .i64))], [.agg [.rows false [.str], .rows false [.int .i64, .str]], .one (.pl (.int .i64))], fun _ => [], some rDNewF⟩), (31, ⟨169, [.agg [.pl (.int .i64), .rows false [.int .i64, .int .i64]], .one (.pl (.int .i64))], [.one (.rows true [.int .i64, .int .i64, .int .i64, .int .i64, .str])], lenC [(1, 1000000)], none⟩), (32, ⟨131, [.agg [.rows false [.int .i64]], .agg [.rows false [.str], .rows false [.int .i64, .str]], .agg [.pl (.int .i64), .pl (.int .i64), .pl (.int .i64), .pl (.int .i64), .pl .str]], [.agg [.rows false [.int .i64]], .agg [.rows false [.str], .rows false [.int .i64, .str]], .agg [.pl (.int .i64), .pl .bool], .one (.pl (.int .i64))], lenC [(0, 1000000), (1, 1000000), (2, 1000000)], none⟩), (23, ⟨165, [.agg [.pl (.int .i64), .pl (.int .i64), .pl (.int .i64), .pl (.int .i64), .pl (.int .i64), .pl (.int .i64), .pl (.int .i64), .pl (.int .i64), .pl (.int .i64), .pl (.int .i64), .pl (.int .i64), .pl (.int .i64), .pl (.int .i64)], .one (.rows false [.int .i64]), .agg [.rows false [.str], .rows false [.int .i64, .str]]], [.agg [.rows false [.int .i64]], .one (.nst [.pl (.int .i64), .sub [.int .i64, .int .i64]])], fun es => (fun es => lenC [(13, 1000000), (14, 1000), (15, 1000000)] es ++ rgeC [(1, 0, 32), (5, 0, 0), (6, 1, 1), (8, 3, 3), (11, 4, 60), (12, 4, 300)] es) es ++ lyC es, none⟩), (33, ⟨24, [.agg [.rows false [.int .i64]], .one (.pl (.int .i64))], [.one (.pl (.int .i64))], fun _ => [], none⟩), (34, ⟨32, [.agg [.pl (.int .i64), .pl (.int .i64), .pl (.int .i64), .pl (.int .i64), .pl (.int .i64), .pl (.int .i64), .pl (.int .i64), .pl (.int .i64), .pl (.int .i64), .pl (.int .i64), .pl (.int .i64), .pl (.int .i64), .pl (.int .i64)], .one (.pl (.int .i64))], [.one (.pl (.int .i64))], fun _ => [], none⟩), (35, ⟨31, [.agg [.pl (.int .i64), .pl (.int .i64), .pl (.int .i64), .pl (.int .i64), .pl (.int .i64), .pl (.int .i64), .pl (.int .i64), .pl (.int .i64), .pl (.int .i64), .pl (.int .i64), .pl (.int .i64), .pl (.int .i64), .pl (.int .i64)], .one (.pl (.int .i64))], [.one (.pl (.int .i64))], fun _ => [], none⟩)]
def durableAppLa : List (LK × LA) := [(⟨185, 29, 24, 8, 9⟩, ⟨[(26, (.int .i64 (.var 8))), (27, .any), (28, .any), (123, .any), (124, .any), (125, .any), (126, .any), (127, .any), (128, .any), (129, .any), (130, .any), (131, .any), (132, .any), (133, .any), (134, .any), (135, .any), (136, .any), (137, .any), (138, .any), (139, .any), (140, .any), (141, .any), (142, .any), (143, .any), (144, .any), (145, .any), (146, .any), (147, .any), (148, .any), (149, .any), (150, .any), (151, .any), (152, .any), (153, .any), (154, .any), (155, .any), (156, .any), (157, .any), (158, .any), (159, .any), (160, .any), (161, .any), (162, .any), (163, .any), (164, .any), (165, .any), (166, .any), (167, .any), (168, .any), (169, .any), (170, .any), (171, .any), (172, .any), (173, .any), (174, .any), (175, .any), (176, .any), (177, .any), (178, .any), (179, .any), (180, .any), (181, .any), (182, .any), (183, .any)], [], [], 1, 0⟩),
  (⟨185, 37, 24, 9, 12⟩, ⟨[(27, (.int .i64 (.var 9))), (28, (.int .i64 (.var 10))), (143, .any), (144, .any), (145, .any), (146, .any), (147, .any), (148, .any), (149, .any), (150, .any), (151, .any), (152, .any), (153, .any), (154, .any), (155, .any), (156, .any), (157, .any), (158, .any), (159, .any), (160, .any), (161, .any), (162, .any), (163, .any), (164, .any), (165, .any), (166, .any), (167, .any), (168, .any), (169, .any), (170, .any), (171, .any), (172, .any), (173, .any), (174, .any), (175, .any), (176, .any), (177, .any), (178, .any)], [], [], 2, 0⟩),
  (⟨185, 37, 24, 9, 11⟩, ⟨[(27, (.int .i64 (.var 9))), (28, (.int .i64 (.var 10))), (143, .any), (144, .any), (145, .any), (146, .any), (147, .any), (148, .any), (149, .any), (150, .any), (151, .any), (152, .any), (153, .any), (154, .any), (155, .any), (156, .any), (157, .any), (158, .any), (159, .any), (160, .any), (161, .any), (162, .any), (163, .any), (164, .any), (165, .any), (166, .any), (167, .any), (168, .any), (169, .any), (170, .any), (171, .any), (172, .any), (173, .any), (174, .any), (175, .any), (176, .any), (177, .any), (178, .any)], [], [], 2, 0⟩),
  (⟨185, 10, 12, 2, 1⟩, ⟨[(12, (.int .i64 (.var 2))), (13, (.int .i64 (.var 3))), (14, .any), (15, .any), (16, .any), (17, .any), (18, .any), (19, .any), (51, .any), (52, .any), (53, .any), (54, .any), (55, .any), (56, .any), (57, .any), (58, .any), (59, .any), (60, .any), (61, .any), (62, .any), (63, .any), (64, .any), (65, .any), (66, .any), (67, .any), (68, .any), (69, .any), (70, .any), (71, .any), (72, .any), (73, .any), (74, .any), (75, .any), (76, .any), (77, .any), (78, .any), (79, .any), (80, .any), (81, .any), (82, .any), (83, .any), (84, .any), (85, .any), (86, .any), (87, .any), (88, .any), (89, .any)], [(11, (.cells [(.sl 12 1 (.int 0) (.un .len (.var 4)) none), (.sl 13 2 (.int 0) (.un .len (.var 5)) none)])), (10, (.cells [(.sl 14 1 (.int 0) (.un .len (.var 6)) none), (.sl 15 2 (.int 0) (.un .len (.var 7)) none)])), (12, (.ro [.str] (.var 4))), (13, (.ro [.int .i64, .str] (.var 5))), (14, (.ro [.str] (.var 6))), (15, (.ro [.int .i64, .str] (.var 7)))], [], 6, 4⟩),
  (⟨185, 15, 18, 8, 4⟩, ⟨[(15, (.int .i64 (.var 8))), (16, .any), (17, .any), (18, .any), (19, .any), (64, .any), (65, .any), (66, .any), (67, .any), (68, .any), (69, .any), (70, .any), (71, .any), (72, .any), (73, .any), (74, .any), (75, .any), (76, .any), (77, .any), (78, .any), (79, .any), (80, .any), (81, .any), (82, .any), (83, .any), (84, .any)], [(10, (.cells [(.sl 18 1 (.int 0) (.un .len (.var 9)) none), (.sl 19 2 (.int 0) (.un .len (.var 10)) none)])), (18, (.ro [.str] (.var 9))), (19, (.ro [.int .i64, .str] (.var 10)))], [], 3, 2⟩)]
def durableAppPhi : Fs := ⟨fun n d => match n with
  | 133 => .list (lSane25F d.l)
  | 128 => .list (rOfMF d.l)
  | 168 => .list (lEntF d.l)
  | 74 => .list (rDNewF d.l)
  | 169 => .list (lRecF d.l)
  | 131 => .list (uDoF d.l)
  | 165 => .list (dBootF d.l)
  | 24 => .list (rCellF d.l)
  | 32 => .list (rValF d.l)
  | 31 => .list (rWordF d.l)
  | _ => d, 147⟩
theorem durableAppS : SmyOk true Tryd.prog durableAppPhi durableAppSm := (smy_cons (fun _ => True) lSane25F lSane25_pure (fun _ _ _ _ => trivial) (fun _ => rfl) (fun _ h => by cases h) (smy_cons (fun _ => True) rOfMF rOfM_pure (fun _ _ _ _ => trivial) (fun _ => rfl) (fun _ h => by cases h; rfl) (smy_cons (lenP [(0, 1000)]) lEntF lEnt_pure (len_hp [(0, 1000)]) (fun _ => rfl) (fun _ h => by cases h) (smy_cons (fun _ => True) rDNewF rDNew_pure (fun _ _ _ _ => trivial) (fun _ => rfl) (fun _ h => by cases h; rfl) (smy_cons (lenP [(1, 1000000)]) lRecF lRec_pure (len_hp [(1, 1000000)]) (fun _ => rfl) (fun _ h => by cases h) (smy_cons (lenP [(0, 1000000), (1, 1000000), (2, 1000000)]) uDoF uDo_pure (len_hp [(0, 1000000), (1, 1000000), (2, 1000000)]) (fun _ => rfl) (fun _ h => by cases h) (smy_cons (fun ds => (fun ds => lenP [(13, 1000000), (14, 1000), (15, 1000000)] ds ∧ rgeP [(1, 0, 32), (5, 0, 0), (6, 1, 1), (8, 3, 3), (11, 4, 60), (12, 4, 300)] ds) ds ∧ lyP ds) dBootF dBoot_pure (ly_hp (C := fun es => lenC [(13, 1000000), (14, 1000), (15, 1000000)] es ++ rgeC [(1, 0, 32), (5, 0, 0), (6, 1, 1), (8, 3, 3), (11, 4, 60), (12, 4, 300)] es) (Q := fun ds => lenP [(13, 1000000), (14, 1000), (15, 1000000)] ds ∧ rgeP [(1, 0, 32), (5, 0, 0), (6, 1, 1), (8, 3, 3), (11, 4, 60), (12, 4, 300)] ds) (both_hp [(13, 1000000), (14, 1000), (15, 1000000)] [(1, 0, 32), (5, 0, 0), (6, 1, 1), (8, 3, 3), (11, 4, 60), (12, 4, 300)])) (fun _ => rfl) (fun _ h => by cases h) (smy_cons (fun _ => True) rCellF rCell_pure (fun _ _ _ _ => trivial) (fun _ => rfl) (fun _ h => by cases h) (smy_cons (fun _ => True) rValF rVal_pure (fun _ _ _ _ => trivial) (fun _ => rfl) (fun _ h => by cases h) (smy_cons (fun _ => True) rWordF rWord_pure (fun _ _ _ _ => trivial) (fun _ => rfl) (fun _ h => by cases h) smy_nil))))))))))
theorem durableAppT : treeOk ⟨Tryd.prog, durableAppSm, durableAppLa, true⟩ 4000 6 [.one (.rows false [.int .u8]), .one (.pl (.int .u8))] [.one (.pl .bool)] (rng 0 9223372036854775807 (.un .len (.var 0)) ++ (rng (0) 255 (.var 1) ++ ([]))) durableAppTree = true := by decide +kernel
end Go.Proofs.YtkfjgggiopegbaaDoor
end
section
namespace Go.Proofs.YtkfjgggiopegbaaDoor
set_option linter.unusedVariables false
set_option linter.unusedSimpArgs false
set_option maxRecDepth 100000
set_option maxHeartbeats 1000000 in
theorem durableApp_pure : PureE true Tryd.prog 6 [.one (.rows false [.int .u8]), .one (.pl (.int .u8))] [.one (.pl .bool)] (Wts (clsOf [.one (.rows false [.int .u8]), .one (.pl (.int .u8))])) durableAppF := by
  refine pure_tree (X := ⟨Tryd.prog, durableAppSm, durableAppLa, true⟩) (by decide +kernel) (Checked.mixed Tryd.checked) durableAppS (by decide +kernel) (by decide +kernel) durableAppT (by decide +kernel) ?_
  intro ds hl hp
  obtain ⟨d0, d1, rfl⟩ := len2 hl
  obtain ⟨_, _, he, w0, hp⟩ := hp
  cases he
  have b0 : ((d0.l.map DV.i).length : Int) ≤ 9223372036854775807 := by rw [List.length_map]; exact wt_len w0
  have v0 : ∀ v ∈ d0.l.map DV.i, 0 ≤ v ∧ v ≤ 255 := wt_ints w0 rfl rfl
  clear w0
  obtain ⟨_, _, he, w1, hp⟩ := hp
  cases he
  have r1 : 0 ≤ d1.i ∧ d1.i ≤ 255 := wt_i w1 rfl rfl
  clear w1
  have hN : nrmL (clsOf [.one (.rows false [.int .u8]), .one (.pl (.int .u8))]) [d0, d1] = [.list ((d0.l.map DV.i).map DV.int), .int d1.i] := by
    simp only [clsOf, Sh.cls, List.append_nil, List.cons_append, List.nil_append, nrmL, Cl.nrm, CK.nrm, map_Li]
  have hF : durableAppF [d0, d1] = [.bool true] := rfl
  rw [hN, hF]
  clear hN hp hl hF
  generalize d0.l.map DV.i = x0 at b0 v0 ⊢
  generalize d1.i = x1 at r1 ⊢
  refine ⟨(rng_ok (e := .un .len (.var 0)) (Int.natCast_nonneg _) (by show ((x0.map _).length : Int) ≤ _; rw [List.length_map]; exact b0) (rng_ok (e := .var 1) r1.1 r1.2 (facts_nil _))), ?_⟩
  unfold durableAppTree
  simp only [Sat, clsOf, Sh.cls, List.append_nil, List.cons_append, List.nil_append, nrmL, Cl.nrm, CK.nrm, List.map_cons, List.map_nil, List.length_cons, List.length_nil, List.cons.injEq, DV.bool.injEq, and_true, true_and, durableAppN0, durableAppN1, durableAppN2, durableAppN3, durableAppN4, durableAppN5, durableAppN6, durableAppN7, durableAppN8, durableAppN9, durableAppN10, durableAppN11, durableAppN12, durableAppN13, durableAppN14, durableAppN15, durableAppN16, durableAppN17, durableAppN18, durableAppN19, durableAppN20]
  simp only [q_le, q_eq, q_not, q_bool, iff_true, iff_false, Bool.not_true, Bool.not_false, Bool.false_eq_true, eq_self]
  simp only [SE.den, evU, ev_add, ev_sub, ev_mul, ev_idx, ev_cons, ev_snoc, i_int, b_bool, l_list, envL, List.getElem?_cons_succ, List.getElem?_cons_zero, Option.getD_some, Int.toNat_natCast, Int.toNat_zero, Int.reduceToNat, List.length_map, Int.zero_add, Bool.false_eq_true, eq_self, f_En_0, f_En_1, f_ii_0, f_iiiis_0, f_iiiis_1, f_iiiis_2, f_iiiis_3, f_iiiis_4, durableAppPhi, lSane25F, lSane25E, rOfMF, rOfME, lEntF, lEntE, rDNewF, rDNewE, lRecF, lRecE, uDoF, uDoE, dBootF, dBootE, rCellF, rCellE, rValF, rValE, rWordF, rWordE, gi, gs, gLi, gLs, dece_i, gLii, deces_ii, gLis, lSane25E]
  refine ⟨fun _ => trivial, fun h7 => ?_⟩
  have hes := ents_ok (l := x0 ++ [x1]) (by simp; omega) (fun v hv => by
    rcases List.mem_append.1 hv with h | h
    · exact v0 v h
    · rw [List.mem_singleton.1 h]; exact r1)
  have hlen : (entsM (x0 ++ [x1])).length = x0.length + 1 := by unfold entsM; rw [ents_len]; simp
  have hE : List.map DV.i (List.map DV.int x0 ++ [DV.int x1]) = x0 ++ [x1] := by rw [List.map_append, dece_i]; rfl
  simp only [hE]
  generalize entsM (x0 ++ [x1]) = es at *
  generalize hn : x0.length = n at *
  clear v0 hE hn
  have hall := fun i (h : i ≤ es.length) => ents_all hes i h
  refine rounds_at (n + 1) (fun i => [.int ((recsM (es.take i)).length : Nat), .int (i : Nat), .list ((secsM (recsM (es.take (i - 1)))).map .str), .list [], .list ((secsM (recsM (es.take i))).map .str), .list []]) ?_ (fun _ => rfl) (fun i hi => ?_) ?_
  · rfl
  · have hwi : IntKind.i64.wrap ((i : Int) + 1) = ((i + 1 : Nat) : Int) := by rw [w64 (by omega) (by omega)]; omega
    have hi2 : i < es.length := by omega
    have hal := hall i (by omega)
    have h5 := ents_rlen hes hi2
    have hl5 := hes.len i
    have hrec := ents_rec hes hi2
    have h32 := ents_32 hes hi2
    have hal1 := accs_len (es[i]?.getD dEn).1 (es[i]?.getD dEn).2
    have haw := fun k (hk : k < (record3 (es[i]?.getD dEn).1 (es[i]?.getD dEn).2).length) => accs_w (A := (recsM (es.take i)).length) hk (by omega)
    have has := fun a => accs_s (v := (es[i]?.getD dEn).1) (w := (es[i]?.getD dEn).2) (a := a)
    rw [recsT_succ es i hi2]
    simp only [Nat.add_sub_cancel]
    rw [hrec] at hal1 haw has
    generalize recordM (es[i]?.getD dEn).1 (es[i]?.getD dEn).2 = C at *
    generalize recsM (es.take i) = P at *
    simp only [i_int, List.getElem?_cons_succ, List.getElem?_cons_zero, Option.getD_some, Int.toNat_natCast, and_true, true_and, eq_self, DV.int.injEq, List.cons.injEq, List.cons_append, List.nil_append, hal1, hwi]
    refine ⟨fun _ => ⟨by omega, by omega, rfl, ?_⟩, fun h => absurd h (by omega)⟩
    refine write_loop (P := P) (C := C) (fun k hk => ?_) ?_ ?_
    · have hwk : IntKind.i64.wrap ((k : Int) + 1) = ((k + 1 : Nat) : Int) := by rw [w64 (by omega) (by omega)]; omega
      have hd := du_w (l := []) (Q := P ++ C.take k) (A := P.length) (k := k) (by rw [List.length_append, List.length_take]; omega) (by rw [List.length_append, List.length_take]; omega) (h32 k hk)
      rw [List.append_assoc, ← take_snoc hk] at hd
      simp only [i_int, l_list, List.getElem?_cons_succ, List.getElem?_cons_zero, Option.getD_some, Int.toNat_natCast, List.length_map, eq_self, not_true_eq_false, dece_s, deces_is, List.map_nil, haw k hk, hd, duD, hwk]
      exact ⟨fun _ => ⟨by omega, by rw [secs_len (by rw [List.length_append, List.length_take]; omega)]; omega, by rw [was_len]; omega, fun h => h, fun _ => trivial⟩, fun h => absurd h (by omega)⟩
    · simp only [i_int, l_list, List.getElem?_cons_succ, List.getElem?_cons_zero, Option.getD_some, Int.toNat_natCast, List.length_map, and_true, eq_self, not_true_eq_false, DV.int.injEq, List.cons.injEq, dece_s, deces_is, List.map_nil, has, du_s, duD]
      exact ⟨fun _ => ⟨by omega, by rw [secs_len (by rw [List.length_append]; omega)]; omega, by rw [was_len]; omega, fun h => h, fun _ => by rw [w64 (by omega) (by omega)]; omega⟩, fun h => absurd h (by omega)⟩
    · simp only [i_int, l_list, List.getElem?_cons_succ, List.getElem?_cons_zero, Option.getD_some, List.length_map, and_true, eq_self]
      exact ⟨fun h => absurd (Int.le_refl _) h, fun _ => by rw [List.length_append, w64 (n := (P.length : Int) + _) (by omega) (by omega), w64 (by omega) (by omega)]; omega⟩
  · have hr1 := recover_secs hes (i := n) (by omega)
    have hr2 := recover_secs hes (i := n + 1) (by omega)
    have hl1 : (recsM (es.take n)).length ≤ 40 := by have := hall n (by omega); omega
    have hl2 : (recsM (es.take (n + 1))).length ≤ 40 := by have := hall (n + 1) (by omega); omega
    have ht : es.take (n + 1) = es.take n ++ [((es[n]?.getD dEn).1, (es[n]?.getD dEn).2)] := by
      rw [List.take_add_one, List.getElem?_eq_getElem (by omega)]; rfl
    have hloc := hes.loc n
    have hpair := ents_pair hes n
    have hl5 := hes.len n
    have hver := hes.ver n
    simp only [i_int, l_list, List.getElem?_cons_succ, List.getElem?_cons_zero, Option.getD_some, Int.toNat_natCast, List.length_map, dece_s, List.cons_append, List.nil_append, Nat.add_sub_cancel, hr1, hr2, secs_len hl1, secs_len hl2]
    refine ⟨fun h => absurd (by omega) h, fun _ => ?_⟩
    have hpl := fun j (hj : j < (es[n]?.getD dEn).2.length) => place5 (hloc ((es[n]?.getD dEn).2[j]?.getD dii) (by rw [List.getElem?_eq_getElem hj]; exact List.getElem_mem hj)).1 (hloc ((es[n]?.getD dEn).2[j]?.getD dii) (by rw [List.getElem?_eq_getElem hj]; exact List.getElem_mem hj)).2
    have hf : List.map DV.i [DV.int 9, DV.int 8, DV.int 7, DV.int 6, DV.int 5] = [9, 8, 7, 6, 5] := rfl
    have hraw : ((List.map encEn es)[n]?.getD (DV.int 0)).l[0]?.getD (DV.int 0) = .int (es[n]?.getD dEn).1 := raw_En_0 es n
    have hwe := fun i h0 h28 => want_end (first := [9, 8, 7, 6, 5]) (es := es.take n) (en := ((recsM (es.take n)).length : Int)) (en' := ((recsM (es.take (n + 1))).length : Int)) (v := (es[n]?.getD dEn).1) (i := i) h0 h28 hloc hpair
    rw [← ht] at hwe
    refine ⟨by omega, by simp, by omega, by simp, by omega, fun h => h (by rw [List.length_take]; omega), fun _ => ⟨fun h => h (by rw [List.length_take, w64 (by omega) (by omega)]; omega), fun _ => ⟨rfl, ?_⟩⟩⟩
    simp only [hf, hraw]
    refine rounds_at 28 (fun i => [.int (i : Nat)]) rfl (fun _ => rfl) (fun i hi => ?_) ?_
    · have hwi : IntKind.i64.wrap ((i : Int) + 1) = ((i + 1 : Nat) : Int) := by rw [w64 (by omega) (by omega)]; omega
      have hw := hwe i (by omega) (by omega)
      simp only [i_int, List.getElem?_cons_succ, List.getElem?_cons_zero, Option.getD_some, eq_self, List.cons_append, List.nil_append, cell_boot hi, hwi]
      refine ⟨fun _ => ⟨fun h0 => ⟨rfl, ?_⟩, fun h0 => ⟨fun h3 => ⟨rfl, ?_⟩, fun h3 => ⟨rfl, ?_⟩⟩⟩, fun h => absurd h (by omega)⟩
      all_goals
        refine want_loop (es[n]?.getD dEn).1 i _ (es[n]?.getD dEn).2 (fun j b hj => ?_) ?_
        · have hwj : IntKind.i64.wrap ((j : Int) + 1) = ((j + 1 : Nat) : Int) := by rw [w64 (by omega) (by omega)]; omega
          simp only [i_int, List.getElem?_cons_succ, List.getElem?_cons_zero, Option.getD_some, Int.toNat_natCast, and_true, eq_self, DV.int.injEq, List.cons.injEq, (hpl j hj).1, (hpl j hj).2, raw_ii_1, hwj]
          exact ⟨fun _ => ⟨by omega, fun h1 => ⟨fun h2 => step_word h2, fun h2 => step_val h2 h1⟩, fun h1 => ⟨fun h2 => step_word h2, fun h2 => step_none h2 h1⟩⟩, fun h => absurd h (by omega)⟩
        · have hw0 := hw
          first
            | rw [if_pos h0] at hw0
            | rw [if_neg h0, if_pos h3] at hw0
            | rw [if_neg h0, if_neg h3] at hw0
          simp only [i_int, List.getElem?_cons_succ, List.getElem?_cons_zero, Option.getD_some, eq_self, not_true_eq_false, hw0]
          refine ⟨fun h => absurd (Int.le_refl _) h, fun _ => ?_⟩
          simp
    · simp only [i_int, List.getElem?_cons_zero, Option.getD_some]
      exact ⟨fun h => absurd (by omega) h, fun _ => trivial⟩
namespace row
open Go.ChangeShapes Go.WideShapes Go.ChangeAt Go.RowKit Go.Joins Go.Deep Go.Proofs.YtkfjgggiopegbaaDoor
theorem lifted (os : Os) (started : os.Started) (H : Type) (enc : TypeId × Value → H) :
    ReturnsInHanded {} Tryd.checked os 6 .any (fun w args => (Rows.durableBootAppendsSpec.pre enc Tryd.prog Tryd.f6 [] false w args ∧ laidMetH Tryd.prog Rows.durableBootAppendsRow.laid w) ∧ sizedMet enc Tryd.prog Tryd.f6 (OpenSpec.ofChange Rows.durableBootAppendsSpec) false w args) (Rows.durableBootAppendsSpec.post enc Tryd.prog Tryd.f6 false true false false) := by
  refine returnsInHanded_of_change_and (C := Tryd.checked) (X := fun w _ => laidMetH Tryd.prog Rows.durableBootAppendsRow.laid w) (fun _ _ _ hh h => h.of_heap hh) own started (by kernel_rfl) Tryd.func6
    (ChangeSpec.witness_shaped (enc := enc) (C := Tryd.checked) (os := os) (X := fun w _ => laidMetH Tryd.prog Rows.durableBootAppendsRow.laid w) false (World.laidAll Tryd.prog os Rows.durableBootAppendsRow.laid) #[.slice none 0 0, .int .u8 0] 8 (World.laidAll_os _ _ _)
      (World.shaped_of_ZipB (by kernel_rfl) (by kernel_rfl)) (by kernel_rfl) (by kernel_rfl) (by kernel_rfl)
      (by rw [MakeChecks.laidMetH_plain _ _ _ (by kernel_rfl)]; exact laidMet_laidAll _ (by kernel_rfl) (by kernel_rfl))) ?_
  intro W base args ds gs before hval0 hW hcnd _ _ _
  have hval : ∀ (j : Nat) t v, Tryd.f6.params[j]? = some t → args[j]? = some v → Value.okWide Tryd.prog W .any base t v := hval0
  have hW' := hW
  obtain ⟨p, q, hA0, hV, rfl, hfz, hnd⟩ := hW
  have hA : DataW.TrodAll enc Tryd.prog W 0 (fun _ => true) true Tryd.f6.params.toList args.toList ds p := hA0
  have hval2 : ∀ (j : Nat) t v, Tryd.f6.params.toList[j]? = some t → args.toList[j]? = some v → Value.okWide Tryd.prog W .any base t v := fun j t v a b => hval j t v (by simpa using a) (by simpa using b)
  have hcall := law_of durableApp_pure (fun _ h => h) (by rw [Tryd.params6]; kernel_rfl) hA hval2
  rw [Tryd.params6] at hA
  obtain ⟨v0, vs0, d0, ds0, p0, q0, hargs, rfl, rfl, h0, r0⟩ := trodAll_cons hA
  obtain ⟨v1, vs1, d1, ds1, p1, q1, rfl, rfl, rfl, h1, r1⟩ := trodAll_cons r0
  obtain ⟨rfl, rfl, rfl⟩ := trodAll_nil r1
  obtain rfl : args = #[v0, v1] := by cases args; simp_all
  obtain ⟨rfl, rfl⟩ := trodVars_none hV
  have lt0 : ∀ x ∈ p0, x.block < W.heap.size := by obtain ⟨m, hm⟩ := h0; exact DataW.trod_lt m _ _ _ hm
  have lt1 : ∀ x ∈ p1, x.block < W.heap.size := by obtain ⟨m, hm⟩ := h1; exact DataW.trod_lt m _ _ _ hm
  clear hA0 hval0 hval2
  refine Calls.mono hcall fun e W' ⟨he, bel⟩ => ?_
  subst he
  exact ⟨_, rfl, _, _, _, [], _, [], hW', trodAll_mk1 (shut_bool Tryd.underlying4 _), (trodAll_cons_mk (Below.trod laidOut (by kernel_rfl) (of_decide_eq_true (by kernel_rfl)) h0 bel lt0) (trodAll_cons_mk (Below.trod laidOut (by kernel_rfl) (of_decide_eq_true (by kernel_rfl)) h1 bel lt1) trodAll_mk0)), rfl, bel.frame _, fun h => by cases h⟩
theorem over : Rows.durableBootAppendsRow.holds Tryd.pinned (OpenSpec.ofChange Rows.durableBootAppendsSpec) :=
  OpenClaim.holds_of_wide 6 Tryd.f6 rfl rfl rfl rfl rfl rfl rfl ⟨rfl, rfl, rfl, rfl, rfl⟩ rfl rfl rfl rfl rfl (by kernel_rfl) Tryd.func6 (by kernel_rfl)
    (of_decide_eq_true (by kernel_rfl)) (by unfold Func.isWrapper; first | (rw [if_pos (by decide +kernel)]; kernel_rfl) | (rw [if_neg (by decide +kernel)]; exact ⟨rfl, rfl⟩))
    (fun os started H enc _ => lifted os started H enc)
end row
theorem durableApp_proved : Rows.DurableBootAppendsCardSaid :=
  Claim7.holds_tied_plain_at .later [] [.data, .pinned] true _ false row.over (fun _ h => by cases h) (by kernel_rfl) (fun _ h => by cases h) durableBootAppends_row_tie rfl ⟨rfl, rfl⟩ (by kernel_rfl) rfl
    (fun f fn hf hfn => by
      obtain rfl : f = 6 := Option.some.inj ((show Tryd.prog.funcNamed Rows.durableBootAppendsRow.func = some 6 by kernel_rfl).symm.trans hf) |>.symm
      obtain rfl : fn = Tryd.f6 := (Option.some.inj (Tryd.func6.symm.trans hfn)).symm
      exact ⟨by kernel_rfl, fun j t ht => by
        have hm : t ∈ Tryd.f6.params.toList := by simpa using Array.mem_of_getElem? ht
        have hall : (Tryd.f6.params.toList.all fun u => !Tryd.prog.wantsStandIn u) = true := by kernel_rfl
        exact (show Tryd.prog.wantsStandIn t = false by simpa using List.all_eq_true.1 hall t hm)⟩)
    (by kernel_rfl)
end Go.Proofs.YtkfjgggiopegbaaDoor
end
