/- MemAllMatchesSpec: the law returns true for every input, and each argument reads afterwards as it read before. No condition. -/
import Derived.Test.YtbnbljeegghgiaaLSane02
import Derived.Test.YtbnbljeegghgiaaMemAll
import Derived.Test.YtbnbljeegghgiaaRAll
import Derived.Test.YtbnbljeegghgiaaRSame
import Derived.Test.YtbnbljeegghgiaaRTold
import Derived.Test.YtbnbljeegghgiaaBd
import Derived.Test.YtbnbljeegghgiaaOpen
namespace Go.Proofs.Ytbnbljeegghgiaa
set_option linter.unusedVariables false
set_option linter.unusedSimpArgs false
set_option maxRecDepth 100000


def memAllMatchesF (ds : List DV) : List DV := [.bool true]
/-- What the executor makes of it. -/
def memAllMatchesTree : PT :=
(.br (.un .not (.bin .le (.un .len (.var 0)) (.int 100)))
 (.leaf [(.bin .idx (.fn 12 .nil) (.int 0))])
 (.br (.un .not (.bin .le (.un .len (.var 1)) (.int 40)))
  (.leaf [(.bin .idx (.fn 12 .nil) (.int 0))])
  (.br (.bin .idx (.fn 12 .nil) (.int 0))
   (.asrt (.bin .le (.un .len (.bin .idx (.fn 8 (.bin .cons (.var 0) (.bin .cons (.var 1) .nil))) (.int 0))) (.int 1000000))
    (.asrt (.bin .le (.un .len (.bin .idx (.fn 9 (.bin .cons (.var 0) (.bin .cons (.var 1) .nil))) (.int 0))) (.int 1000000))
     (.br (.bin .idx (.fn 4 (.bin .cons (.bin .idx (.fn 8 (.bin .cons (.var 0) (.bin .cons (.var 1) .nil))) (.int 0)) (.bin .cons (.bin .idx (.fn 9 (.bin .cons (.var 0) (.bin .cons (.var 1) .nil))) (.int 0)) .nil))) (.int 0))
      (.asrt (.bin .le (.un .len (.bin .idx (.fn 8 (.bin .cons (.var 0) (.bin .cons (.var 1) .nil))) (.int 1))) (.int 1000000))
       (.asrt (.bin .le (.un .len (.bin .idx (.fn 9 (.bin .cons (.var 0) (.bin .cons (.var 1) .nil))) (.int 1))) (.int 1000000))
        (.br (.bin .idx (.fn 7 (.bin .cons (.bin .idx (.fn 8 (.bin .cons (.var 0) (.bin .cons (.var 1) .nil))) (.int 1)) (.bin .cons (.bin .idx (.fn 9 (.bin .cons (.var 0) (.bin .cons (.var 1) .nil))) (.int 1)) .nil))) (.int 0))
         (.leaf [(.bin .eq (.bin .idx (.fn 8 (.bin .cons (.var 0) (.bin .cons (.var 1) .nil))) (.int 2)) (.bin .idx (.fn 9 (.bin .cons (.var 0) (.bin .cons (.var 1) .nil))) (.int 2)))])
         (.leaf [(.bool false)]))))
      (.leaf [(.bool false)]))))
   (.leaf [(.bool false)]))))

def memAllMatchesSm : List (Nat × Smy) := [(31, ⟨12, [], [.one (.pl .bool)], fun _ => []⟩), (38, ⟨8, [.agg [.rows false [.int .i64]], .one (.rows false [.int .i64, .int .i64, .int .i64, .int .i64, .str])], [.agg [.rows false [.int .i64]], .one (.rows true [.int .i64, .bool]), .one (.pl (.int .i64))], lenC [(0, 1000000), (1, 1000000)]⟩), (39, ⟨9, [.agg [.rows false [.int .i64]], .one (.rows false [.int .i64, .int .i64, .int .i64, .int .i64, .str])], [.agg [.rows false [.int .i64]], .one (.rows true [.int .i64, .bool]), .one (.pl (.int .i64))], lenC [(0, 1000000), (1, 1000000)]⟩), (37, ⟨4, [.agg [.rows false [.int .i64]], .agg [.rows false [.int .i64]]], [.one (.pl .bool)], lenC [(0, 1000000), (1, 1000000)]⟩), (40, ⟨7, [.one (.rows false [.int .i64, .bool]), .one (.rows false [.int .i64, .bool])], [.one (.pl .bool)], lenC [(0, 1000000), (1, 1000000)]⟩)]
def memAllMatchesLa : List (LK × LA) := []
def memAllMatchesPhi : Nat → DV → DV := fun n d => match n with
  | 12 => .list (lSane02F d.l)
  | 8 => .list (memAllF d.l)
  | 9 => .list (rAllF d.l)
  | 4 => .list (rSameF d.l)
  | 7 => .list (rToldF d.l)
  | _ => d
theorem memAllMatchesS : SmyOk Try.prog memAllMatchesPhi memAllMatchesSm := (smy_cons (fun _ => True) lSane02F lSane02_pure (fun _ _ _ _ => trivial) (fun _ => rfl) (smy_cons (lenP [(0, 1000000), (1, 1000000)]) memAllF memAll_pure (len_hp [(0, 1000000), (1, 1000000)]) (fun _ => rfl) (smy_cons (lenP [(0, 1000000), (1, 1000000)]) rAllF rAll_pure (len_hp [(0, 1000000), (1, 1000000)]) (fun _ => rfl) (smy_cons (lenP [(0, 1000000), (1, 1000000)]) rSameF rSame_pure (len_hp [(0, 1000000), (1, 1000000)]) (fun _ => rfl) (smy_cons (lenP [(0, 1000000), (1, 1000000)]) rToldF rTold_pure (len_hp [(0, 1000000), (1, 1000000)]) (fun _ => rfl) smy_nil)))))
theorem memAllMatchesT : treeOk ⟨Try.prog, memAllMatchesSm, memAllMatchesLa⟩ 4000 8 [.agg [.rows false [.int .i64]], .one (.rows false [.int .i64, .int .i64, .int .i64, .int .i64, .str])] [.one (.pl .bool)] (rng 0 9223372036854775807 (.un .len (.var 0)) ++ (rng 0 9223372036854775807 (.un .len (.var 1)) ++ ([]))) memAllMatchesTree = true := by decide +kernel
set_option maxHeartbeats 1000000 in
theorem memAllMatches_pure : Pure Try.prog 8 [.agg [.rows false [.int .i64]], .one (.rows false [.int .i64, .int .i64, .int .i64, .int .i64, .str])] [.one (.pl .bool)] (Wts (clsOf [.agg [.rows false [.int .i64]], .one (.rows false [.int .i64, .int .i64, .int .i64, .int .i64, .str])])) memAllMatchesF := by
  refine pure_tree (X := ⟨Try.prog, memAllMatchesSm, memAllMatchesLa⟩) (Checked.mixed Try.checked) memAllMatchesS (by decide +kernel) (by decide +kernel) memAllMatchesT (by decide +kernel) ?_
  intro ds hl hp
  obtain ⟨d0, d1, rfl⟩ := len2 hl
  obtain ⟨_, _, he, w0, hp⟩ := hp
  cases he
  have b0 : ((d0.l.map DV.i).length : Int) ≤ 9223372036854775807 := by rw [List.length_map]; exact wt_len w0
  have v0 : ∀ v ∈ d0.l.map DV.i, -9223372036854775808 ≤ v ∧ v ≤ 9223372036854775807 := wt_ints w0 rfl rfl
  clear w0
  obtain ⟨_, _, he, w1, hp⟩ := hp
  cases he
  have b1 : ((d1.l.map deciiiis).length : Int) ≤ 9223372036854775807 := by rw [List.length_map]; exact wt_len w1
  have hN : nrmL (clsOf [.agg [.rows false [.int .i64]], .one (.rows false [.int .i64, .int .i64, .int .i64, .int .i64, .str])]) [d0, d1] = [.list ((d0.l.map DV.i).map DV.int), .list ((d1.l.map deciiiis).map enciiiis)] := by
    simp only [clsOf, Sh.cls, List.append_nil, List.cons_append, List.nil_append, nrmL, Cl.nrm, CK.nrm, map_Li, map_Liiiis]
  have hF : memAllMatchesF [d0, d1] = [.bool true] := rfl
  rw [hN, hF]
  clear hN hp hl hF
  generalize d0.l.map DV.i = x0 at b0 v0 ⊢
  generalize d1.l.map deciiiis = x1 at b1 ⊢
  refine ⟨(rng_ok (e := .un .len (.var 0)) (Int.natCast_nonneg _) (by show ((x0.map _).length : Int) ≤ _; rw [List.length_map]; exact b0) (rng_ok (e := .un .len (.var 1)) (Int.natCast_nonneg _) (by show ((x1.map _).length : Int) ≤ _; rw [List.length_map]; exact b1) (facts_nil _))), ?_⟩
  unfold memAllMatchesTree
  simp only [Sat, clsOf, Sh.cls, List.append_nil, List.cons_append, List.nil_append, nrmL, Cl.nrm, CK.nrm, List.map_cons, List.map_nil, List.length_cons, List.length_nil, List.cons.injEq, DV.bool.injEq, DV.int.injEq, DV.list.injEq, DV.str.injEq, and_true, true_and]
  simp only [q_le, q_eq, q_eqs, q_eqb, q_and, q_or, q_not, q_bool, iff_true, iff_false, Bool.not_true, Bool.not_false, Bool.false_eq_true, Bool.true_eq_false, eq_self, Bool.not_not]
  simp only [SE.den, evU, evB, evT, i_int, b_bool, s_str, l_list, envL, List.getElem?_cons_succ, List.getElem?_cons_zero, List.getElem?_nil, Option.getD_some, Option.getD_none, Int.toNat_natCast, Int.toNat_zero, Int.reduceToNat, List.length_map, get_Li, get_Lb, get_Ls, set_Li, inj_Li, inj_Lb, inj_Ls, rows_i, rows_b, rows_s, Int.zero_add, iff_true, iff_false, and_true, true_and, Bool.false_eq_true, eq_self, not_true_eq_false, not_false_eq_true, List.length_replicate, DV.int.injEq, DV.bool.injEq, DV.str.injEq, DV.list.injEq, List.cons.injEq, f_ib_0, rows_ib, inj_Lib, f_ib_1, rows_ib, inj_Lib, f_iiiis_0, rows_iiiis, inj_Liiiis, f_iiiis_1, rows_iiiis, inj_Liiiis, f_iiiis_2, rows_iiiis, inj_Liiiis, f_iiiis_3, rows_iiiis, inj_Liiiis, f_iiiis_4, rows_iiiis, inj_Liiiis, memAllMatchesPhi, lSane02F, lSane02E, memAllF, memAllE, rAllF, rAllE, rSameF, rSameE, rToldF, rToldE, gi, gb, gs, gLi, gLu, gLb, gLs, dece_i, dece_b, dece_s, gLib, deces_ib, gLiiiis, deces_iiiis]
  have h1 := allM_len1 x0 x1 x0 [] rfl
  have h2 := allM_len2 x0 x1 x0 []
  simp [h1]
  simp at h2
  omega
namespace row
open Go.ChangeShapes Go.WideShapes Go.ChangeAt Go.RowKit Go.Joins Go.Deep Go.Proofs.Ytbnbljeegghgiaa
theorem lifted (os : Os) (started : os.Started) (H : Type) (enc : TypeId × Value → H) :
    ReturnsInHanded {} Try.checked os 8 .any (Rows.memAllMatchesSpecSpec.pre6 enc Try.prog Try.f8 Rows.memAllMatchesSpecRow.domain false) (Rows.memAllMatchesSpecSpec.post enc Try.prog Try.f8 false true false false) := by
  refine returnsInHanded_of_change (C := Try.checked) own started (by kernel_rfl) Try.func8
    (ChangeSpec.witness6 (enc := enc) (C := Try.checked) false ⟨#[], #[.agg #[.slice none 0 0], .slice none 0 0], []⟩ 8 (by kernel_rfl) (by kernel_rfl) (by kernel_rfl) (by kernel_rfl)) ?_
  intro W base args ds gs before hval0 hW hcnd _
  have hval : ∀ (j : Nat) t v, Try.f8.params[j]? = some t → args[j]? = some v → Value.okWide Try.prog W .any base t v := hval0
  have hW' := hW
  obtain ⟨p, q, hA0, hV, rfl, hfz, hnd⟩ := hW
  have hA : DataW.TrodAll enc Try.prog W 0 (fun _ => true) true Try.f8.params.toList args.toList ds p := hA0
  have hval2 : ∀ (j : Nat) t v, Try.f8.params.toList[j]? = some t → args.toList[j]? = some v → Value.okWide Try.prog W .any base t v := fun j t v a b => hval j t v (by simpa using a) (by simpa using b)
  have hcall := law_of memAllMatches_pure (fun _ h => h) (by rw [Try.params8]; kernel_rfl) hA hval2
  rw [Try.params8] at hA
  obtain ⟨v0, vs0, d0, ds0, p0, q0, hargs, rfl, rfl, h0, r0⟩ := trodAll_cons hA
  obtain ⟨v1, vs1, d1, ds1, p1, q1, rfl, rfl, rfl, h1, r1⟩ := trodAll_cons r0
  obtain ⟨rfl, rfl, rfl⟩ := trodAll_nil r1
  obtain rfl : args = #[v0, v1] := by cases args; simp_all
  obtain ⟨rfl, rfl⟩ := trodVars_none hV
  have lt0 : ∀ x ∈ p0, x.block < W.heap.size := by obtain ⟨m, hm⟩ := h0; exact DataW.trod_lt m _ _ _ hm
  have lt1 : ∀ x ∈ p1, x.block < W.heap.size := by obtain ⟨m, hm⟩ := h1; exact DataW.trod_lt m _ _ _ hm
  clear hA0 hval0 hval2
  refine Calls.mono hcall fun e W' ⟨he, bel⟩ => ?_
  subst he
  exact ⟨_, rfl, _, _, _, [], _, [], hW', trodAll_mk1 (shut_bool Try.underlying4 _), (trodAll_cons_mk (Below.trod laidOut (by kernel_rfl) (of_decide_eq_true (by kernel_rfl)) h0 bel lt0) (trodAll_cons_mk (Below.trod laidOut (by kernel_rfl) (of_decide_eq_true (by kernel_rfl)) h1 bel lt1) trodAll_mk0)), rfl, bel.frame _, fun h => by cases h⟩
theorem over : Rows.memAllMatchesSpecRow.holds Try.pinned (OpenSpec.ofChange Rows.memAllMatchesSpecSpec) :=
  OpenClaim.holds_of_wide 8 Try.f8 rfl rfl rfl rfl rfl rfl rfl ⟨rfl, rfl, rfl, rfl, rfl⟩ rfl rfl rfl rfl rfl (by kernel_rfl) Try.func8 (by kernel_rfl)
    (of_decide_eq_true (by kernel_rfl)) (by unfold Func.isWrapper; first | (rw [if_pos (by decide +kernel)]; kernel_rfl) | (rw [if_neg (by decide +kernel)]; exact ⟨rfl, rfl⟩))
    (fun os started H enc _ => lifted os started H enc)
end row
theorem memAllMatches_proved : Rows.MemAllMatchesSpecSaid := row.over
end Go.Proofs.Ytbnbljeegghgiaa
