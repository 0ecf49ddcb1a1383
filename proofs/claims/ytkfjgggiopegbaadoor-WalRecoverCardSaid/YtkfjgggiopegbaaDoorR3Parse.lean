/- The function hallmootref23.Parse is a function of data. No condition. -/
import Derived.Test.YtkfjgggiopegbaaDoorR3Guess
import Derived.Test.YtkfjgggiopegbaaDoorRRecord
import Derived.Test.YtkfjgggiopegbaaDoorRTexts
import Derived.Test.YtkfjgggiopegbaaDoorWalN
import Derived.Test.YtkfjgggiopegbaaDoorWParse
import Derived.Test.YtkfjgggiopegbaaDoorBd
import Derived.Test.YtkfjgggiopegbaaDoorOpen
namespace Go.Proofs.YtkfjgggiopegbaaDoor
set_option linter.unusedVariables false
set_option linter.unusedSimpArgs false
set_option maxRecDepth 100000

def parse3G (l : List (List UInt8)) (a : Int) (g : (Int × List Tii) × Int) (r : List (List UInt8)) : Option ((Int × List Tii) × Nat) :=
  if g.2 = 0 ∨ r.length = 0 ∨ (r.length : Int) ≠ g.2 ∨ ¬ g.2 ≤ l.length - a then none else if r = (l.drop a.toNat).take g.2.toNat then some (g.1, g.2.toNat) else none
def parse3 (l : List (List UInt8)) (a : Int) : Option ((Int × List Tii) × Nat) := parse3G l a (guess3 l a) (record3 (guess3 l a).1.1 (guess3 l a).1.2)
def r3ParseE (l : List (List UInt8)) (a : Int) : List DV := parse4 (parse3 l a)
theorem guess3_len (l : List (List UInt8)) (a : Int) : (guess3 l a).1.2.length ≤ 10000 ∧ ((guess3 l a).2 ≠ 0 → 0 ≤ a ∧ a < l.length ∧ 1 ≤ (guess3 l a).2 ∧ (guess3 l a).2 ≤ 256) := by
  have hm1 : 1 ≤ manyM l a.toNat ∧ manyM l a.toNat ≤ 256 := by
    have : ((l[a.toNat]?.getD [])[0]?.getD 0).toNat < 256 := UInt8.toNat_lt _
    unfold manyM
    omega
  unfold guess3
  split
  · rename_i hc
    generalize manyM l a.toNat = M at *
    have hll := load3_len ((l.drop a.toNat).take M)
    rw [List.length_take] at hll
    cases hn : getNums3 (bytesN (load3 ((l.drop a.toNat).take M))) with
    | none => exact ⟨by simp [guessN], fun h => absurd rfl h⟩
    | some p =>
      obtain ⟨n, u⟩ := p
      have hnl := (getNums3_len hn).1
      rw [bytes_len] at hnl
      have hp := pairs_len (n.drop 1)
      rw [List.length_drop] at hp
      unfold guessN
      simp only
      split
      · exact ⟨by simp, fun h => absurd rfl h⟩
      · exact ⟨by simp only; omega, fun _ => ⟨hc.1, hc.2.1, by simp only; omega, by simp only; omega⟩⟩
  · exact ⟨by simp, fun h => absurd rfl h⟩
theorem nrm_parse4 (o : Option ((Int × List Tii) × Nat)) : nrmL [Cl.pl (CK.int IntKind.i64), Cl.rows false [CK.int IntKind.i64, CK.int IntKind.i64], Cl.pl (CK.int IntKind.i64), Cl.pl (CK.int IntKind.i64)] (parse4 o) = parse4 o := by
  cases o with
  | none => rfl
  | some r => simp only [parse4, nrmL, Cl.nrm, CK.nrm, l_list, i_int, rows_ii]

def r3ParseF (ds : List DV) : List DV := r3ParseE (gLs ds 0) (gi ds 1)
/-- What the executor makes of it. -/
def r3ParseTree : PT :=
(.asrt (.bin .le (.un .len (.var 0)) (.int 1000))
 (.asrt (.bin .le (.int (-9223372036854775808)) (.var 1))
  (.asrt (.bin .le (.var 1) (.int 9223372036854775807))
   (.asrt (.bin .le (.un .len (.bin .idx (.fn 157 (.bin .cons (.var 0) (.bin .cons (.var 1) .nil))) (.int 1))) (.int 1000000))
    (.br (.bin .eq (.bin .idx (.fn 157 (.bin .cons (.var 0) (.bin .cons (.var 1) .nil))) (.int 2)) (.int 0))
     (.leaf [(.int 0), .nil, (.int 0), (.int 11)])
     (.br (.bin .eq (.un .len (.bin .idx (.fn 119 (.bin .cons (.bin .idx (.fn 157 (.bin .cons (.var 0) (.bin .cons (.var 1) .nil))) (.int 0)) (.bin .cons (.bin .idx (.fn 157 (.bin .cons (.var 0) (.bin .cons (.var 1) .nil))) (.int 1)) .nil))) (.int 0))) (.int 0))
      (.leaf [(.int 0), .nil, (.int 0), (.int 11)])
      (.br (.un .not (.bin .eq (.un .len (.bin .idx (.fn 119 (.bin .cons (.bin .idx (.fn 157 (.bin .cons (.var 0) (.bin .cons (.var 1) .nil))) (.int 0)) (.bin .cons (.bin .idx (.fn 157 (.bin .cons (.var 0) (.bin .cons (.var 1) .nil))) (.int 1)) .nil))) (.int 0))) (.bin .idx (.fn 157 (.bin .cons (.var 0) (.bin .cons (.var 1) .nil))) (.int 2))))
       (.leaf [(.int 0), .nil, (.int 0), (.int 11)])
       (.br (.un .not (.bin .le (.bin .idx (.fn 157 (.bin .cons (.var 0) (.bin .cons (.var 1) .nil))) (.int 2)) (.un (.wrap .i64) (.bin .sub (.un .len (.var 0)) (.var 1)))))
        (.leaf [(.int 0), .nil, (.int 0), (.int 11)])
        (.asrt (.bin .le (.int 0) (.un (.wrap .i64) (.bin .add (.var 1) (.bin .idx (.fn 157 (.bin .cons (.var 0) (.bin .cons (.var 1) .nil))) (.int 2)))))
         (.asrt (.bin .le (.un (.wrap .i64) (.bin .add (.var 1) (.bin .idx (.fn 157 (.bin .cons (.var 0) (.bin .cons (.var 1) .nil))) (.int 2)))) (.un .len (.var 0)))
          (.asrt (.bin .le (.int 0) (.var 1))
           (.asrt (.bin .le (.var 1) (.un (.wrap .i64) (.bin .add (.var 1) (.bin .idx (.fn 157 (.bin .cons (.var 0) (.bin .cons (.var 1) .nil))) (.int 2)))))
            (.asrt (.bin .le (.un .len (.bin .idx (.fn 119 (.bin .cons (.bin .idx (.fn 157 (.bin .cons (.var 0) (.bin .cons (.var 1) .nil))) (.int 0)) (.bin .cons (.bin .idx (.fn 157 (.bin .cons (.var 0) (.bin .cons (.var 1) .nil))) (.int 1)) .nil))) (.int 0))) (.int 1000000))
             (.asrt (.bin .le (.un .len (.bin .take (.bin .drop (.var 0) (.bin .add (.int 0) (.var 1))) (.bin .sub (.un (.wrap .i64) (.bin .add (.var 1) (.bin .idx (.fn 157 (.bin .cons (.var 0) (.bin .cons (.var 1) .nil))) (.int 2)))) (.var 1)))) (.int 1000000))
              (.br (.un .not (.bin .idx (.fn 115 (.bin .cons (.bin .idx (.fn 119 (.bin .cons (.bin .idx (.fn 157 (.bin .cons (.var 0) (.bin .cons (.var 1) .nil))) (.int 0)) (.bin .cons (.bin .idx (.fn 157 (.bin .cons (.var 0) (.bin .cons (.var 1) .nil))) (.int 1)) .nil))) (.int 0)) (.bin .cons (.bin .take (.bin .drop (.var 0) (.bin .add (.int 0) (.var 1))) (.bin .sub (.un (.wrap .i64) (.bin .add (.var 1) (.bin .idx (.fn 157 (.bin .cons (.var 0) (.bin .cons (.var 1) .nil))) (.int 2)))) (.var 1))) .nil))) (.int 0)))
               (.leaf [(.int 0), .nil, (.int 0), (.int 11)])
               (.leaf [(.bin .idx (.fn 157 (.bin .cons (.var 0) (.bin .cons (.var 1) .nil))) (.int 0)), (.bin .idx (.fn 157 (.bin .cons (.var 0) (.bin .cons (.var 1) .nil))) (.int 1)), (.bin .idx (.fn 157 (.bin .cons (.var 0) (.bin .cons (.var 1) .nil))) (.int 2)), (.int 0)]))))))))))))))))

def r3ParseSm : List (Nat × Smy) := [(45, ⟨157, [.one (.rows false [.str]), .one (.pl (.int .i64))], [.agg [.pl (.int .i64), .rows false [.int .i64, .int .i64]], .one (.pl (.int .i64))], fun es => lenC [(0, 1000)] es ++ rgeC [(1, -9223372036854775808, 9223372036854775807)] es, none⟩), (38, ⟨119, [.agg [.pl (.int .i64), .rows false [.int .i64, .int .i64]]], [.one (.rows true [.str])], lenC [(1, 1000000)], none⟩), (46, ⟨115, [.one (.rows false [.str]), .one (.rows false [.str])], [.one (.pl .bool)], lenC [(0, 1000000), (1, 1000000)], none⟩)]
def r3ParseLa : List (LK × LA) := []
def r3ParsePhi : Fs := ⟨fun n d => match n with
  | 157 => .list (r3GuessF d.l)
  | 119 => .list (rRecordF d.l)
  | 115 => .list (rTextsF d.l)
  | _ => d, 147⟩
theorem r3ParseS : SmyOk true Tryd.prog r3ParsePhi r3ParseSm := (smy_cons (fun ds => lenP [(0, 1000)] ds ∧ rgeP [(1, -9223372036854775808, 9223372036854775807)] ds) r3GuessF r3Guess_pure (both_hp [(0, 1000)] [(1, -9223372036854775808, 9223372036854775807)]) (fun _ => rfl) (fun _ h => by cases h) (smy_cons (lenP [(1, 1000000)]) rRecordF rRecord_pure (len_hp [(1, 1000000)]) (fun _ => rfl) (fun _ h => by cases h) (smy_cons (lenP [(0, 1000000), (1, 1000000)]) rTextsF rTexts_pure (len_hp [(0, 1000000), (1, 1000000)]) (fun _ => rfl) (fun _ h => by cases h) smy_nil)))
theorem r3ParseT : treeOk ⟨Tryd.prog, r3ParseSm, r3ParseLa, true⟩ 4000 11 [.one (.rows false [.str]), .one (.pl (.int .i64))] [.agg [.pl (.int .i64), .rows false [.int .i64, .int .i64]], .one (.pl (.int .i64)), .one (.pl (.int .i64))] ([]) r3ParseTree = true := by decide +kernel
set_option maxHeartbeats 1000000 in
theorem r3Parse_pure : PureE true Tryd.prog 11 [.one (.rows false [.str]), .one (.pl (.int .i64))] [.agg [.pl (.int .i64), .rows false [.int .i64, .int .i64]], .one (.pl (.int .i64)), .one (.pl (.int .i64))] (fun ds => lenP [(0, 1000)] ds ∧ rgeP [(1, -9223372036854775808, 9223372036854775807)] ds) r3ParseF := by
  refine pure_tree (X := ⟨Tryd.prog, r3ParseSm, r3ParseLa, true⟩) (by decide +kernel) (Checked.mixed Tryd.checked) r3ParseS (by decide +kernel) (by decide +kernel) r3ParseT (by decide +kernel) ?_
  intro ds hl hp
  obtain ⟨d0, d1, rfl⟩ := len2 hl
  have b0 : (d0.l.length : Int) ≤ 1000 := hp.1 (0, 1000) (by simp)
  have r1 : -9223372036854775808 ≤ d1.i ∧ d1.i ≤ 9223372036854775807 := hp.2 (1, -9223372036854775808, 9223372036854775807) (by simp)
  have hF : r3ParseF [d0, d1] = r3ParseE (d0.l.map DV.s) d1.i := rfl
  rw [hF]
  clear hF hp hl
  have hN : nrmL (clsOf [.one (.rows false [.str]), .one (.pl (.int .i64))]) [d0, d1] = [.list ((d0.l.map DV.s).map DV.str), .int d1.i] := by
    simp only [clsOf, Sh.cls, List.append_nil, List.cons_append, List.nil_append, nrmL, Cl.nrm, CK.nrm, map_Ls]
  rw [hN]
  clear hN
  rw [← List.length_map (f := DV.s)] at b0
  generalize d0.l.map DV.s = x0 at b0 ⊢
  generalize d1.i = x1 at r1 ⊢
  refine ⟨facts_nil _, ?_⟩
  unfold r3ParseTree r3ParseE
  simp only [Sat, clsOf, Sh.cls, List.append_nil, List.cons_append, List.nil_append, nrmL, Cl.nrm, CK.nrm, List.map_cons, List.map_nil, List.length_cons, List.length_nil, List.cons.injEq, DV.bool.injEq, DV.int.injEq, DV.list.injEq, DV.str.injEq, and_true, true_and]
  try simp only [q_le, q_eq, q_eqs, q_eqb, q_and, q_or, q_not, q_bool, iff_true, iff_false, Bool.not_true, Bool.not_false, Bool.false_eq_true, Bool.true_eq_false, eq_self, Bool.not_not]
  simp only [Bool.not_true, Bool.not_false, Bool.true_eq_false, SE.den, evU, evT, ev_le, ev_eq, ev_eqs, ev_eqb, ev_slt, ev_and, ev_or, ev_add, ev_sub, ev_mul, ev_tdiv, ev_tmod, ev_band, ev_bor, ev_bxor, ev_bandn, ev_shl, ev_shr, ev_cat, ev_byte, ev_idx, ev_cons, ev_snoc, ev_app, ev_take, ev_drop, ev_stake, ev_sdrop, ev_rep, leB_q, eqB_q, eqsB_q, not_q, i_if, b_if, l_if, s_if, i_int, b_bool, s_str, l_list, envL, List.getElem?_cons_succ, List.getElem?_cons_zero, List.getElem?_nil, Option.getD_some, Option.getD_none, Int.toNat_natCast, Int.toNat_zero, Int.reduceToNat, List.length_map, get_Li, get_Lb, get_Ls, set_Li, inj_Li, inj_Lb, inj_Ls, rows_i, rows_b, rows_s, Int.zero_add, iff_true, iff_false, and_true, true_and, Bool.false_eq_true, eq_self, not_true_eq_false, not_false_eq_true, List.length_replicate, DV.int.injEq, DV.bool.injEq, DV.str.injEq, DV.list.injEq, List.cons.injEq, f_ii_0, rows_ii, inj_Lii, f_ii_1, rows_ii, inj_Lii, r3ParsePhi, r3GuessF, r3GuessE, rRecordF, rRecordE, rTextsF, rTextsE, gi, gb, gs, gLi, gLu, gLb, gLs, dece_i, dece_b, dece_s, gLii, deces_ii, Int.zero_add, nrm_parse4, guessD]
  obtain ⟨g1, g2⟩ := guess3_len x0 x1
  unfold parse3
  generalize hg : guess3 x0 x1 = g at *
  obtain ⟨⟨v, w⟩, m⟩ := g
  simp only at g1 g2
  simp only [deces_ii, dece_s, take_Ls, drop_Ls]
  generalize record3 v w = r at *
  have hP : ∀ (h : m = 0 ∨ r.length = 0 ∨ (r.length : Int) ≠ m ∨ ¬ m ≤ x0.length - x1), parse3G x0 x1 ((v, w), m) r = none := fun h => if_pos h
  refine ⟨b0, r1.1, r1.2, by omega, fun h => by rw [hP (.inl h)]; rfl, fun h0 => ⟨fun h => by rw [hP (.inr (.inl (by omega)))]; rfl, fun h1 => ⟨fun h => by rw [hP (.inr (.inr (.inl h)))]; rfl, fun h2 => ?_⟩⟩⟩
  obtain ⟨a0, a1, m1, m2⟩ := g2 h0
  have w1 : IntKind.i64.wrap ((x0.length : Int) - x1) = x0.length - x1 := w64 (by omega) (by omega)
  have w2 : IntKind.i64.wrap (x1 + m) = x1 + m := w64 (by omega) (by omega)
  have e1 : (x1 + m - x1).toNat = m.toNat := by omega
  simp only [w1, w2, e1]
  refine ⟨fun h => by rw [hP (.inr (.inr (.inr h)))]; rfl, fun h3 => ⟨by omega, by omega, a0, by omega, by omega, by rw [List.length_map, List.length_take, List.length_drop]; omega, fun h => ?_, fun h => ?_⟩⟩
  · have : parse3G x0 x1 ((v, w), m) r = none := by
      unfold parse3G
      rw [if_neg (by simp only; omega), if_neg (of_decide_eq_false h)]
    rw [this]; rfl
  · have : parse3G x0 x1 ((v, w), m) r = some ((v, w), m.toNat) := by
      unfold parse3G
      rw [if_neg (by simp only; omega), if_pos (of_decide_eq_true h)]
    rw [this]
    simp only [parse4]
    have : ((m.toNat : Nat) : Int) = m := by omega
    rw [this]
end Go.Proofs.YtkfjgggiopegbaaDoor
