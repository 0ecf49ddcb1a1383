/- The function wal.Parse is a function of data. No condition. -/
import Derived.Test.YtkfjgggiopegbaaDoorWSector
import Derived.Test.YtkfjgggiopegbaaDoorWGetNums
import Derived.Test.YtkfjgggiopegbaaDoorWEntry
import Derived.Test.YtkfjgggiopegbaaDoorWTrimL
import Derived.Test.YtkfjgggiopegbaaDoorWTrimR
import Derived.Test.YtkfjgggiopegbaaDoorBd
import Derived.Test.YtkfjgggiopegbaaDoorOpen
namespace Go.Proofs.YtkfjgggiopegbaaDoor
set_option linter.unusedVariables false
set_option linter.unusedSimpArgs false
set_option maxRecDepth 100000

def parse4 : Option ((Int × List Tii) × Nat) → List DV
  | none => [.int 0, .list [], .int 0, .int 11]
  | some r => [.int r.1.1, .list (r.1.2.map encii), .int r.2, .int 0]
def wParseE (l : List (List UInt8)) (a : Int) : List DV := parse4 (parseM l a)
theorem gnR_len : ∀ (m : Nat) (b : List Int) (a : Nat) (acc l : List Int) (u : Nat), gnR m b a acc = some (l, u) → l.length = acc.length + m ∧ u ≤ a + b.length
  | 0, b, a, acc, l, u, h => by cases h; exact ⟨rfl, by omega⟩
  | m + 1, b, a, acc, l, u, h => by
    rw [gnR_succ] at h
    cases hg : getR b with
    | none => rw [hg] at h; cases h
    | some p =>
      rw [hg] at h
      obtain ⟨n, k⟩ := p
      obtain ⟨k0, k1⟩ := getR_len hg
      have := gnR_len m _ _ _ _ _ h
      simp only [List.length_append, List.length_cons, List.length_nil, List.length_drop] at this
      omega
theorem getNumsR_len {b l : List Int} {u : Nat} (h : getNumsR b = some (l, u)) : l.length ≤ b.length ∧ u ≤ b.length := by
  unfold getNumsR at h
  cases hg : getR b with
  | none => rw [hg] at h; cases h
  | some p =>
    rw [hg] at h
    obtain ⟨n, k⟩ := p
    obtain ⟨k0, k1⟩ := getR_len hg
    simp only at h
    split at h
    · cases h
    · have := gnR_len _ _ _ _ _ _ h
      simp only [List.length_drop, List.length_nil] at this
      omega
theorem trimL_zero : ∀ z : List UInt8, (∀ x ∈ trimL z 0, x = 0) → ∀ x ∈ z, x = 0
  | [], _ => by intro x hx; cases hx
  | c :: z, h => by
    unfold trimL at h
    rw [List.dropWhile_cons] at h
    split at h
    · rename_i hc
      have hc' : c = 0 := by
        simp only [decide_eq_true_eq] at hc
        exact UInt8.toNat_inj.1 (by rw [show (0 : UInt8).toNat = 0 from rfl]; omega)
      intro x hx
      rcases List.mem_cons.1 hx with e | e
      · rw [e, hc']
      · exact trimL_zero z h x e
    · exact h
theorem dw_nil {p : UInt8 → Bool} : ∀ {s : List UInt8}, s.dropWhile p = [] ↔ ∀ x ∈ s, p x = true
  | [] => by simp
  | c :: s => by
    rw [List.dropWhile_cons]
    by_cases h : p c = true
    · rw [if_pos h, dw_nil (s := s)]; simp [h]
    · rw [if_neg h]; simp [h]
theorem trims_zero (z : List UInt8) : trimL (trimR z 0) 0 = [] ↔ zerosM z = true := by
  have hL : ∀ s : List UInt8, trimL s 0 = [] ↔ ∀ x ∈ s, x = 0 := fun s => by
    unfold trimL
    rw [dw_nil]
    refine ⟨fun h x hx => ?_, fun h x hx => ?_⟩
    · have := h x hx
      simp only [decide_eq_true_eq] at this
      exact UInt8.toNat_inj.1 (by rw [show (0 : UInt8).toNat = 0 from rfl]; omega)
    · rw [h x hx]; rfl
  rw [hL]
  unfold zerosM
  rw [List.all_eq_true]
  refine ⟨fun h x hx => ?_, fun h x hx => ?_⟩
  · have := trimL_zero z.reverse (fun y hy => h y (List.mem_reverse.2 hy)) x (List.mem_reverse.2 hx)
    simp [this]
  · have := h x (List.mem_reverse.1 ((List.dropWhile_sublist _).mem (List.mem_reverse.1 hx)))
    simpa using this
theorem trimR_le (z : List UInt8) (c : Int) : (trimR z c).length ≤ z.length := by
  unfold trimR
  rw [List.length_reverse]
  have := (List.dropWhile_sublist (fun x : UInt8 => decide ((x.toNat : Int) = c)) (l := z.reverse)).length_le
  rwa [List.length_reverse] at this
theorem trimL_le (z : List UInt8) (c : Int) : (trimL z c).length ≤ z.length := (List.dropWhile_sublist _).length_le
theorem nrm_P4 (o : Option ((Int × List Tii) × Nat)) : nrmL [Cl.pl (CK.int IntKind.i64), Cl.rows true [CK.int IntKind.i64, CK.int IntKind.i64], Cl.pl (CK.int IntKind.i64), Cl.pl (CK.int IntKind.i64)] (parse4 o) = parse4 o := by
  cases o with
  | none => rfl
  | some p => simp only [parse4, nrmL, Cl.nrm, CK.nrm, l_list, i_int, rows_ii]
theorem load_step (n : Nat) (l : List (List UInt8)) (i : Nat) (h : i < l.length) : loadM (n + 1) (l.drop i) = if okS n (l[i]?.getD []) = true then (loadM n (l.drop (i + 1))).map ((((l[i]?.getD []).take 28).drop 1) ++ ·) else none := by
  rw [List.drop_eq_getElem_cons h, List.getElem?_eq_getElem h]
  rfl
/-- What is left to do when i sectors are read. -/
def goM (M : Nat) (x : List (List UInt8)) (a i : Nat) (acc : List UInt8) : Option ((Int × List Tii) × Nat) := match (loadM (M - i) (x.drop (a + i))).map (acc ++ ·) with
  | none => none
  | some b => (finM b).map (·, M)
theorem go_step {M : Nat} {x : List (List UInt8)} {a i : Nat} {acc : List UInt8} (hi : i < M) (h : a + i < x.length) : goM M x a i acc = if okS (M - 1 - i) (x[a + i]?.getD []) = true then goM M x a (i + 1) (acc ++ ((x[a + i]?.getD []).take 28).drop 1) else none := by
  unfold goM
  rw [show M - i = (M - 1 - i) + 1 by omega, load_step _ _ _ h, show M - (i + 1) = M - 1 - i by omega, show a + (i + 1) = a + i + 1 by omega]
  by_cases hk : okS (M - 1 - i) (x[a + i]?.getD []) = true
  · rw [if_pos hk, if_pos hk]
    cases loadM (M - 1 - i) (x.drop (a + i + 1)) with
    | none => rfl
    | some b => simp only [Option.map_some, List.append_assoc]
  · rw [if_neg hk, if_neg hk]
    rfl
theorem go_end {M : Nat} {x : List (List UInt8)} {a : Nat} {acc : List UInt8} : goM M x a M acc = (finM acc).map (·, M) := by
  unfold goM
  rw [Nat.sub_self]
  simp only [loadM, Option.map_some, List.append_nil]

def wParseF (ds : List DV) : List DV := wParseE (gLs ds 0) (gi ds 1)
/-- What the executor makes of it. -/
def wParseTree : PT :=
(.br (.un .not (.bin .le (.int 0) (.var 1)))
 (.leaf [(.int 0), .nil, (.int 0), (.int 11)])
 (.br (.bin .le (.un .len (.var 0)) (.var 1))
  (.leaf [(.int 0), .nil, (.int 0), (.int 11)])
  (.br (.un .not (.bin .eq (.un .slen (.bin .idx (.var 0) (.bin .add (.int 0) (.var 1)))) (.int 32)))
   (.leaf [(.int 0), .nil, (.int 0), (.int 11)])
   (.br (.un .not (.bin .le (.un (.wrap .i64) (.bin .add (.un (.wrap .i64) (.bin .byte (.bin .idx (.var 0) (.bin .add (.int 0) (.var 1))) (.int 0))) (.int 1))) (.un (.wrap .i64) (.bin .sub (.un .len (.var 0)) (.var 1)))))
    (.leaf [(.int 0), .nil, (.int 0), (.int 11)])
    (.asrt (.bin .le (.int 0) (.un (.wrap .i64) (.bin .add (.var 1) (.un (.wrap .i64) (.bin .add (.un (.wrap .i64) (.bin .byte (.bin .idx (.var 0) (.bin .add (.int 0) (.var 1))) (.int 0))) (.int 1))))))
     (.asrt (.bin .le (.un (.wrap .i64) (.bin .add (.var 1) (.un (.wrap .i64) (.bin .add (.un (.wrap .i64) (.bin .byte (.bin .idx (.var 0) (.bin .add (.int 0) (.var 1))) (.int 0))) (.int 1))))) (.un .len (.var 0)))
      (.asrt (.bin .le (.var 1) (.un (.wrap .i64) (.bin .add (.var 1) (.un (.wrap .i64) (.bin .add (.un (.wrap .i64) (.bin .byte (.bin .idx (.var 0) (.bin .add (.int 0) (.var 1))) (.int 0))) (.int 1))))))
       (.loop 2 [(.str []), (.int 0)]
        (.br (.un .not (.bin .le (.bin .sub (.un (.wrap .i64) (.bin .add (.var 1) (.un (.wrap .i64) (.bin .add (.un (.wrap .i64) (.bin .byte (.bin .idx (.var 0) (.bin .add (.int 0) (.var 1))) (.int 0))) (.int 1))))) (.var 1)) (.var 3)))
         (.asrt (.bin .le (.int 0) (.var 3))
          (.asrt (.un .not (.bin .le (.un .len (.var 0)) (.bin .add (.bin .add (.int 0) (.var 1)) (.var 3))))
           (.br (.un .not (.bin .eq (.un .slen (.bin .idx (.var 0) (.bin .add (.bin .add (.int 0) (.var 1)) (.var 3)))) (.int 32)))
            .fail
            (.asrt (.bin .le (.int 27) (.un .slen (.bin .sdrop (.bin .stake (.bin .idx (.var 0) (.bin .add (.bin .add (.int 0) (.var 1)) (.var 3))) (.int 28)) (.int 1))))
             (.asrt (.bin .le (.un .slen (.bin .sdrop (.bin .stake (.bin .idx (.var 0) (.bin .add (.bin .add (.int 0) (.var 1)) (.var 3))) (.int 28)) (.int 1))) (.int 27))
              (.br (.un .not (.bin .eqs (.bin .idx (.var 0) (.bin .add (.bin .add (.int 0) (.var 1)) (.var 3))) (.bin .idx (.fn 97 (.bin .cons (.un (.wrap .i64) (.bin .sub (.un (.wrap .i64) (.bin .sub (.un (.wrap .i64) (.bin .add (.un (.wrap .i64) (.bin .byte (.bin .idx (.var 0) (.bin .add (.int 0) (.var 1))) (.int 0))) (.int 1))) (.int 1))) (.var 3))) (.bin .cons (.bin .sdrop (.bin .stake (.bin .idx (.var 0) (.bin .add (.bin .add (.int 0) (.var 1)) (.var 3))) (.int 28)) (.int 1)) .nil))) (.int 0))))
               .fail
               (.asrt (.bin .le (.bin .add (.un .slen (.var 2)) (.un .slen (.bin .sdrop (.bin .stake (.bin .idx (.var 0) (.bin .add (.bin .add (.int 0) (.var 1)) (.var 3))) (.int 28)) (.int 1)))) (.int 9223372036854775807))
                (.leaf [(.bin .cat (.var 2) (.bin .sdrop (.bin .stake (.bin .idx (.var 0) (.bin .add (.bin .add (.int 0) (.var 1)) (.var 3))) (.int 28)) (.int 1))), (.un (.wrap .i64) (.bin .add (.var 3) (.int 1)))]))))))))
         .fail)
        (.br (.un .not (.bin .le (.bin .sub (.un (.wrap .i64) (.bin .add (.var 1) (.un (.wrap .i64) (.bin .add (.un (.wrap .i64) (.bin .byte (.bin .idx (.var 0) (.bin .add (.int 0) (.var 1))) (.int 0))) (.int 1))))) (.var 1)) (.var 3)))
         (.asrt (.bin .le (.int 0) (.var 3))
          (.asrt (.un .not (.bin .le (.un .len (.var 0)) (.bin .add (.bin .add (.int 0) (.var 1)) (.var 3))))
           (.br (.un .not (.bin .eq (.un .slen (.bin .idx (.var 0) (.bin .add (.bin .add (.int 0) (.var 1)) (.var 3)))) (.int 32)))
            (.leaf [(.int 0), .nil, (.int 0), (.int 11)])
            (.asrt (.bin .le (.int 27) (.un .slen (.bin .sdrop (.bin .stake (.bin .idx (.var 0) (.bin .add (.bin .add (.int 0) (.var 1)) (.var 3))) (.int 28)) (.int 1))))
             (.asrt (.bin .le (.un .slen (.bin .sdrop (.bin .stake (.bin .idx (.var 0) (.bin .add (.bin .add (.int 0) (.var 1)) (.var 3))) (.int 28)) (.int 1))) (.int 27))
              (.br (.un .not (.bin .eqs (.bin .idx (.var 0) (.bin .add (.bin .add (.int 0) (.var 1)) (.var 3))) (.bin .idx (.fn 97 (.bin .cons (.un (.wrap .i64) (.bin .sub (.un (.wrap .i64) (.bin .sub (.un (.wrap .i64) (.bin .add (.un (.wrap .i64) (.bin .byte (.bin .idx (.var 0) (.bin .add (.int 0) (.var 1))) (.int 0))) (.int 1))) (.int 1))) (.var 3))) (.bin .cons (.bin .sdrop (.bin .stake (.bin .idx (.var 0) (.bin .add (.bin .add (.int 0) (.var 1)) (.var 3))) (.int 28)) (.int 1)) .nil))) (.int 0))))
               (.leaf [(.int 0), .nil, (.int 0), (.int 11)])
               (.asrt (.bin .le (.bin .add (.un .slen (.var 2)) (.un .slen (.bin .sdrop (.bin .stake (.bin .idx (.var 0) (.bin .add (.bin .add (.int 0) (.var 1)) (.var 3))) (.int 28)) (.int 1)))) (.int 9223372036854775807))
                .fail)))))))
         (.asrt (.bin .le (.un .slen (.var 2)) (.int 1000000))
          (.asrt (.bin .le (.un .len (.bin .idx (.fn 100 (.bin .cons (.un .bytes (.var 2)) .nil)) (.int 0))) (.int 1000000))
           (.br (.un .not (.bin .eq (.bin .idx (.fn 100 (.bin .cons (.un .bytes (.var 2)) .nil)) (.int 2)) (.int 0)))
            (.leaf [(.int 0), .nil, (.int 0), (.int 11)])
            (.br (.un .not (.bin .idx (.fn 99 (.bin .cons (.bin .idx (.fn 100 (.bin .cons (.un .bytes (.var 2)) .nil)) (.int 0)) .nil)) (.int 2)))
             (.leaf [(.int 0), .nil, (.int 0), (.int 11)])
             (.br (.bin .le (.int 27) (.un (.wrap .i64) (.bin .sub (.un .slen (.var 2)) (.bin .idx (.fn 100 (.bin .cons (.un .bytes (.var 2)) .nil)) (.int 1)))))
              (.leaf [(.int 0), .nil, (.int 0), (.int 11)])
              (.asrt (.bin .le (.int 0) (.bin .idx (.fn 100 (.bin .cons (.un .bytes (.var 2)) .nil)) (.int 1)))
               (.asrt (.bin .le (.bin .idx (.fn 100 (.bin .cons (.un .bytes (.var 2)) .nil)) (.int 1)) (.un .slen (.var 2)))
                (.br (.bin .eqs (.bin .sdrop (.bin .stake (.var 2) (.un .slen (.var 2))) (.bin .idx (.fn 100 (.bin .cons (.un .bytes (.var 2)) .nil)) (.int 1))) (.str []))
                 (.leaf [(.bin .idx (.fn 99 (.bin .cons (.bin .idx (.fn 100 (.bin .cons (.un .bytes (.var 2)) .nil)) (.int 0)) .nil)) (.int 0)), (.bin .idx (.fn 99 (.bin .cons (.bin .idx (.fn 100 (.bin .cons (.un .bytes (.var 2)) .nil)) (.int 0)) .nil)) (.int 1)), (.un (.wrap .i64) (.bin .add (.un (.wrap .i64) (.bin .byte (.bin .idx (.var 0) (.bin .add (.int 0) (.var 1))) (.int 0))) (.int 1))), (.int 0)])
                 (.asrt (.bin .le (.un .slen (.bin .sdrop (.bin .stake (.var 2) (.un .slen (.var 2))) (.bin .idx (.fn 100 (.bin .cons (.un .bytes (.var 2)) .nil)) (.int 1)))) (.int 1000000))
                  (.asrt (.bin .le (.un .slen (.bin .idx (.fn 102 (.bin .cons (.bin .sdrop (.bin .stake (.var 2) (.un .slen (.var 2))) (.bin .idx (.fn 100 (.bin .cons (.un .bytes (.var 2)) .nil)) (.int 1))) (.bin .cons (.int 0) .nil))) (.int 0))) (.int 1000000))
                   (.br (.un .not (.bin .eqs (.bin .idx (.fn 101 (.bin .cons (.bin .idx (.fn 102 (.bin .cons (.bin .sdrop (.bin .stake (.var 2) (.un .slen (.var 2))) (.bin .idx (.fn 100 (.bin .cons (.un .bytes (.var 2)) .nil)) (.int 1))) (.bin .cons (.int 0) .nil))) (.int 0)) (.bin .cons (.int 0) .nil))) (.int 0)) (.str [])))
                    (.leaf [(.int 0), .nil, (.int 0), (.int 11)])
                    (.leaf [(.bin .idx (.fn 99 (.bin .cons (.bin .idx (.fn 100 (.bin .cons (.un .bytes (.var 2)) .nil)) (.int 0)) .nil)) (.int 0)), (.bin .idx (.fn 99 (.bin .cons (.bin .idx (.fn 100 (.bin .cons (.un .bytes (.var 2)) .nil)) (.int 0)) .nil)) (.int 1)), (.un (.wrap .i64) (.bin .add (.un (.wrap .i64) (.bin .byte (.bin .idx (.var 0) (.bin .add (.int 0) (.var 1))) (.int 0))) (.int 1))), (.int 0)])))))))))))))))))))))

def wParseSm : List (Nat × Smy) := [(41, ⟨97, [.one (.pl (.int .i64)), .one (.pl .str)], [.one (.pl .str)], fun es => (fun _ => []) es ++ slenC [(1, 27, 27)] es, none⟩), (42, ⟨100, [.one (.rows false [.int .u8])], [.one (.rows true [.int .i64]), .one (.pl (.int .i64)), .one (.pl (.int .i64))], lenC [(0, 1000000)], none⟩), (43, ⟨99, [.one (.rows false [.int .i64])], [.agg [.pl (.int .i64), .rows true [.int .i64, .int .i64]], .one (.pl .bool)], lenC [(0, 1000000)], none⟩), (76, ⟨101, [.one (.pl .str), .one (.pl (.int .u8))], [.one (.pl .str)], fun es => (fun _ => []) es ++ slenC [(0, 0, 1000000)] es, none⟩), (77, ⟨102, [.one (.pl .str), .one (.pl (.int .u8))], [.one (.pl .str)], fun es => (fun _ => []) es ++ slenC [(0, 0, 1000000)] es, none⟩)]
def wParseLa : List (LK × LA) := [(⟨131, 9, 3, 2, 7⟩, ⟨[(9, (.str (.var 2))), (10, .any), (11, .any), (63, (.int .i64 (.var 3))), (64, .any), (65, .any), (66, .any), (67, .any), (68, .any), (69, .any), (70, .any), (71, .any), (72, .any), (73, .any), (74, .any), (75, .any), (76, .any), (77, .any), (78, .any), (79, .any), (80, .any), (81, .any), (82, .any), (83, .any), (84, .any), (85, .any), (86, .any), (87, .any), (88, .any), (89, .any), (90, .any), (91, .any)], [], [], 2, 0⟩)]
def wParsePhi : Fs := ⟨fun n d => match n with
  | 97 => .list (wSectorF d.l)
  | 100 => .list (wGetNumsF d.l)
  | 99 => .list (wEntryF d.l)
  | 101 => .list (wTrimLF d.l)
  | 102 => .list (wTrimRF d.l)
  | _ => d, 147⟩
theorem wParseS : SmyOk true Tryd.prog wParsePhi wParseSm := (smy_cons (fun ds => (fun _ => True) ds ∧ slenP [(1, 27, 27)] ds) wSectorF wSector_pure (slen_hp (C := fun _ => []) (Q := fun _ => True) [(1, 27, 27)] (fun _ _ _ _ => trivial)) (fun _ => rfl) (fun _ h => by cases h) (smy_cons (lenP [(0, 1000000)]) wGetNumsF wGetNums_pure (len_hp [(0, 1000000)]) (fun _ => rfl) (fun _ h => by cases h) (smy_cons (lenP [(0, 1000000)]) wEntryF wEntry_pure (len_hp [(0, 1000000)]) (fun _ => rfl) (fun _ h => by cases h) (smy_cons (fun ds => (fun _ => True) ds ∧ slenP [(0, 0, 1000000)] ds) wTrimLF wTrimL_pure (slen_hp (C := fun _ => []) (Q := fun _ => True) [(0, 0, 1000000)] (fun _ _ _ _ => trivial)) (fun _ => rfl) (fun _ h => by cases h) (smy_cons (fun ds => (fun _ => True) ds ∧ slenP [(0, 0, 1000000)] ds) wTrimRF wTrimR_pure (slen_hp (C := fun _ => []) (Q := fun _ => True) [(0, 0, 1000000)] (fun _ _ _ _ => trivial)) (fun _ => rfl) (fun _ h => by cases h) smy_nil)))))
theorem wParseT : treeOk ⟨Tryd.prog, wParseSm, wParseLa, true⟩ 4000 10 [.one (.rows false [.str]), .one (.pl (.int .i64))] [.agg [.pl (.int .i64), .rows true [.int .i64, .int .i64]], .one (.pl (.int .i64)), .one (.pl (.int .i64))] ([]) wParseTree = true := by decide +kernel
set_option maxHeartbeats 1000000 in
theorem wParse_pure : PureE true Tryd.prog 10 [.one (.rows false [.str]), .one (.pl (.int .i64))] [.agg [.pl (.int .i64), .rows true [.int .i64, .int .i64]], .one (.pl (.int .i64)), .one (.pl (.int .i64))] (lenP [(0, 1000)]) wParseF := by
  refine pure_tree (X := ⟨Tryd.prog, wParseSm, wParseLa, true⟩) (by decide +kernel) (Checked.mixed Tryd.checked) wParseS (by decide +kernel) (by decide +kernel) wParseT (by decide +kernel) ?_
  intro ds hl hp
  obtain ⟨d0, d1, rfl⟩ := len2 hl
  have b0 : (d0.l.length : Int) ≤ 1000 := hp (0, 1000) (by simp)
  have hF : wParseF [d0, d1] = wParseE (d0.l.map DV.s) d1.i := rfl
  rw [hF]
  clear hF hp hl
  have hN : nrmL (clsOf [.one (.rows false [.str]), .one (.pl (.int .i64))]) [d0, d1] = [.list ((d0.l.map DV.s).map DV.str), .int d1.i] := by
    simp only [clsOf, Sh.cls, List.append_nil, List.cons_append, List.nil_append, nrmL, Cl.nrm, CK.nrm, map_Ls]
  rw [hN]
  clear hN
  rw [← List.length_map (f := DV.s)] at b0
  generalize d0.l.map DV.s = x0 at b0 ⊢
  generalize d1.i = x1
  refine ⟨facts_nil _, ?_⟩
  unfold wParseTree wParseE
  simp only [Sat, clsOf, Sh.cls, List.append_nil, List.cons_append, List.nil_append, nrmL, Cl.nrm, CK.nrm, List.map_cons, List.map_nil, List.length_cons, List.length_nil, List.cons.injEq, DV.bool.injEq, DV.int.injEq, DV.list.injEq, DV.str.injEq, and_true, true_and]
  simp only [q_le, q_eq, q_eqs, q_eqb, q_and, q_or, q_not, q_bool, iff_true, iff_false, Bool.not_true, Bool.not_false, Bool.false_eq_true, Bool.true_eq_false, eq_self, Bool.not_not]
  simp only [Bool.not_true, Bool.not_false, Bool.true_eq_false, SE.den, evU, evT, ev_le, ev_eq, ev_eqs, ev_eqb, ev_slt, ev_and, ev_or, ev_add, ev_sub, ev_mul, ev_tdiv, ev_tmod, ev_band, ev_bor, ev_bxor, ev_bandn, ev_shl, ev_shr, ev_cat, ev_byte, ev_idx, ev_cons, ev_snoc, ev_app, ev_take, ev_drop, ev_stake, ev_sdrop, ev_rep, leB_q, eqB_q, eqsB_q, not_q, i_if, b_if, l_if, s_if, i_int, b_bool, s_str, l_list, envL, List.getElem?_cons_succ, List.getElem?_cons_zero, List.getElem?_nil, Option.getD_some, Option.getD_none, Int.toNat_natCast, Int.toNat_zero, Int.reduceToNat, List.length_map, get_Li, get_Lb, get_Ls, set_Li, inj_Li, inj_Lb, inj_Ls, rows_i, rows_b, rows_s, Int.zero_add, iff_true, iff_false, and_true, true_and, Bool.false_eq_true, eq_self, not_true_eq_false, not_false_eq_true, List.length_replicate, DV.int.injEq, DV.bool.injEq, DV.str.injEq, DV.list.injEq, List.cons.injEq, f_ii_0, rows_ii, inj_Lii, f_ii_1, rows_ii, inj_Lii, wParsePhi, wSectorF, wSectorE, wGetNumsF, wGetNumsE, wEntryF, wEntryE, wTrimLF, wTrimLE, wTrimRF, wTrimRE, gi, gb, gs, gLi, gLu, gLb, gLs, dece_i, dece_b, dece_s, gLii, deces_ii]
  by_cases c1 : 0 ≤ x1
  · obtain ⟨a, rfl⟩ : ∃ a : Nat, x1 = a := ⟨x1.toNat, by omega⟩
    simp only [Int.toNat_natCast]
    by_cases c2 : (a : Int) < x0.length
    · by_cases c3 : (x0[a]?.getD []).length = 32
      · have hby : ((x0[a]?.getD [])[0]?.getD 0).toNat ≤ 255 := by have := ((x0[a]?.getD [])[0]?.getD 0).toNat_lt; omega
        have hm : manyM x0 a = ((x0[a]?.getD [])[0]?.getD 0).toNat + 1 := rfl
        have hw1 : ∀ b : Int, 0 ≤ b → b ≤ 255 → IntKind.i64.wrap (IntKind.i64.wrap b + 1) = b + 1 := fun b h0 h1 => by rw [w64 (n := b) (by omega) (by omega), w64 (by omega) (by omega)]
        simp only [hw1 _ (Int.natCast_nonneg _) (Int.ofNat_le.2 hby)]
        have hmI : ((((x0[a]?.getD [])[0]?.getD 0).toNat : Int) + 1) = manyM x0 a := by rw [hm]; omega
        simp only [hmI]
        have hw2 : IntKind.i64.wrap ((x0.length : Int) - a) = x0.length - a := w64 (by omega) (by omega)
        simp only [hw2]
        generalize hM : manyM x0 a = M at *
        have hM1 : 1 ≤ M ∧ M ≤ 256 := by omega
        by_cases c4 : (M : Int) ≤ x0.length - a
        · have hw3 : IntKind.i64.wrap ((a : Int) + M) = a + M := w64 (by omega) (by omega)
          simp only [hw3]
          have hP : parseM x0 a = goM M x0 a 0 [] := by
            unfold parseM goM
            rw [Int.toNat_natCast, hM, if_pos ⟨c1, c2, by exact_mod_cast c3, c4⟩, Nat.sub_zero, Nat.add_zero]
            cases loadM M (x0.drop a) <;> rfl
          simp only [nrm_P4]
          refine ⟨fun h => absurd c1 h, fun _ => ⟨fun h => absurd c2 (by omega), fun _ => ⟨fun h => absurd c3 (by omega), fun _ => ⟨fun h => absurd c4 h, fun _ => ⟨by omega, by omega, by omega, ?_⟩⟩⟩⟩⟩
          have hrow : (rowN [CK.int IntKind.i64, CK.int IntKind.i64]) = (rowN [CK.int IntKind.i64, CK.int IntKind.i64]) := rfl
          simp only [List.map_nil, show (a : Int) + M - a = M by omega]
          generalize hRR : parseM x0 a = R at hP ⊢
          refine rounds_inv (fun y => ∃ (i : Nat) (acc : List UInt8), y = [.str acc, .int i] ∧ i ≤ M ∧ acc.length = 27 * i ∧ goM M x0 a i acc = R) (fun y => M - ((y[1]?).getD (DV.int 0)).i.toNat) ⟨0, [], rfl, Nat.zero_le _, rfl, hP.symm⟩ ?_
          rintro y ⟨i, acc, rfl, hi, hac, hall⟩
          have e1 : IntKind.i64.wrap ((i : Int) + 1) = ((i + 1 : Nat) : Int) := by rw [w64 (by omega) (by omega)]; omega
          have e2 : ((a : Int) + (i : Int)).toNat = a + i := by omega
          simp only [Bool.not_true, Bool.not_false, Bool.true_eq_false, SE.den, evU, evT, ev_le, ev_eq, ev_eqs, ev_eqb, ev_slt, ev_and, ev_or, ev_add, ev_sub, ev_mul, ev_tdiv, ev_tmod, ev_band, ev_bor, ev_bxor, ev_bandn, ev_shl, ev_shr, ev_cat, ev_byte, ev_idx, ev_cons, ev_snoc, ev_app, ev_take, ev_drop, ev_stake, ev_sdrop, ev_rep, leB_q, eqB_q, eqsB_q, not_q, i_if, b_if, l_if, s_if, i_int, b_bool, s_str, l_list, envL, List.getElem?_cons_succ, List.getElem?_cons_zero, List.getElem?_nil, Option.getD_some, Option.getD_none, Int.toNat_natCast, Int.toNat_zero, Int.reduceToNat, List.length_map, get_Li, get_Lb, get_Ls, set_Li, inj_Li, inj_Lb, inj_Ls, rows_i, rows_b, rows_s, Int.zero_add, iff_true, iff_false, and_true, true_and, Bool.false_eq_true, eq_self, not_true_eq_false, not_false_eq_true, List.length_replicate, DV.int.injEq, DV.bool.injEq, DV.str.injEq, DV.list.injEq, List.cons.injEq, f_ii_0, rows_ii, inj_Lii, f_ii_1, rows_ii, inj_Lii, e1, e2]
          by_cases h1 : i = M
          · left
            subst h1
            rw [go_end] at hall
            have hle : (i : Int) ≤ i := by omega
            have hal : (acc.length : Int) ≤ 1000000 := by omega
            simp only [hle, not_true_eq_false, false_imp_iff, true_and, true_imp_iff, hal]
            unfold finM at hall
            cases hg : getNumsR (bytesN acc) with
            | none =>
              rw [hg] at hall
              rw [← hall]
              refine ⟨by show ((0 : Nat) : Int) ≤ 1000000; omega, fun _ => rfl, fun h => absurd (show (3 : Int) = 0 from h) (by omega)⟩
            | some p =>
              obtain ⟨l, u⟩ := p
              rw [hg] at hall
              obtain ⟨g1, g2⟩ := getNumsR_len hg
              rw [bytes_len] at g1 g2
              have hw : IntKind.i64.wrap ((acc.length : Int) - (u : Int)) = acc.length - u := w64 (by omega) (by omega)
              have hst : List.take (acc.length : Int).toNat acc = acc := List.take_of_length_le (by omega)
              have hd : (List.drop u acc).length ≤ 1000000 := by rw [List.length_drop]; omega
              have hd2 : (trimR (List.drop u acc) 0).length ≤ 1000000 := by have := trimR_le (List.drop u acc) 0; omega
              simp only [getN3, Bool.not_true, Bool.not_false, Bool.true_eq_false, SE.den, evU, evT, ev_le, ev_eq, ev_eqs, ev_eqb, ev_slt, ev_and, ev_or, ev_add, ev_sub, ev_mul, ev_tdiv, ev_tmod, ev_band, ev_bor, ev_bxor, ev_bandn, ev_shl, ev_shr, ev_cat, ev_byte, ev_idx, ev_cons, ev_snoc, ev_app, ev_take, ev_drop, ev_stake, ev_sdrop, ev_rep, leB_q, eqB_q, eqsB_q, not_q, i_if, b_if, l_if, s_if, i_int, b_bool, s_str, l_list, envL, List.getElem?_cons_succ, List.getElem?_cons_zero, List.getElem?_nil, Option.getD_some, Option.getD_none, Int.toNat_natCast, Int.toNat_zero, Int.reduceToNat, List.length_map, get_Li, get_Lb, get_Ls, set_Li, inj_Li, inj_Lb, inj_Ls, rows_i, rows_b, rows_s, Int.zero_add, iff_true, iff_false, and_true, true_and, Bool.false_eq_true, eq_self, not_true_eq_false, not_false_eq_true, List.length_replicate, DV.int.injEq, DV.bool.injEq, DV.str.injEq, DV.list.injEq, List.cons.injEq, f_ii_0, rows_ii, inj_Lii, f_ii_1, rows_ii, inj_Lii, wParsePhi, wSectorF, wSectorE, wGetNumsF, wGetNumsE, wEntryF, wEntryE, wTrimLF, wTrimLE, wTrimRF, wTrimRE, gi, gb, gs, gLi, gLu, gLb, gLs, dece_i, dece_b, dece_s, gLii, deces_ii, hw, hst, List.take_length, dece_i]
              simp only at hall
              have hd3 : ∀ h : List.drop u acc = [], zerosM (List.drop u acc) = true := fun h => by rw [h]; rfl
              have htr := trims_zero (List.drop u acc)
              by_cases k : (entryM l).2 = true ∧ (acc.length : Int) - u < 27 ∧ zerosM (List.drop u acc) = true
              · rw [if_pos k] at hall
                rw [← hall]
                obtain ⟨k1, k2, k3⟩ := k
                have k4 := htr.2 k3
                have k5 : ¬ 27 ≤ (acc.length : Int) - u := by omega
                have k6 : (u : Int) ≤ acc.length := by omega
                have k7 : (l.length : Int) ≤ 1000000 := by omega
                simp [k1, k4, k5, k6, k7, parse4]
                try omega
              · rw [if_neg k] at hall
                rw [← hall]
                repeat' (first | apply And.intro | intro)
                all_goals first
                  | omega
                  | rfl
                  | (exfalso; simp_all; done)
                  | trace_state
          · have h1' : ¬ (M : Int) ≤ i := by omega
            have h2 : a + i < x0.length := by omega
            have h2' : ¬ (x0.length : Int) ≤ a + i := by omega
            rw [go_step (by omega) h2] at hall
            generalize hs : x0[a + i]?.getD [] = s at hall ⊢
            have e3 : IntKind.i64.wrap (IntKind.i64.wrap ((M : Int) - 1) - i) = ((M - 1 - i : Nat) : Int) := by rw [w64 (n := (M : Int) - 1) (by omega) (by omega), w64 (by omega) (by omega)]; omega
            simp only [e3]
            by_cases h3 : s.length = 32
            · have h27 : (List.drop 1 (List.take 28 s)).length = 27 := by rw [List.length_drop, List.length_take]; omega
              by_cases h4 : s = sectorM ((M - 1 - i : Nat) : Int) (List.drop 1 (List.take 28 s))
              · right
                have hok : okS (M - 1 - i) s = true := by unfold okS; rw [Bool.and_eq_true, decide_eq_true_eq, decide_eq_true_eq]; exact ⟨h3, h4⟩
                rw [if_pos hok] at hall
                have h3' : (s.length : Int) = 32 := by omega
                refine ⟨[.str (acc ++ List.drop 1 (List.take 28 s)), .int ((i + 1 : Nat) : Int)], ?_, rfl, ⟨i + 1, _, rfl, by omega, by rw [List.length_append, h27]; omega, hall⟩, ?_⟩
                · refine ⟨fun _ => ⟨by omega, h2', fun h => absurd h3' h, fun _ => ⟨by omega, by omega, fun h => absurd h4 h, fun _ => ⟨by omega, rfl⟩⟩⟩, fun h => absurd h h1'⟩
                · simp only [Bool.not_true, Bool.not_false, Bool.true_eq_false, SE.den, evU, evT, ev_le, ev_eq, ev_eqs, ev_eqb, ev_slt, ev_and, ev_or, ev_add, ev_sub, ev_mul, ev_tdiv, ev_tmod, ev_band, ev_bor, ev_bxor, ev_bandn, ev_shl, ev_shr, ev_cat, ev_byte, ev_idx, ev_cons, ev_snoc, ev_app, ev_take, ev_drop, ev_stake, ev_sdrop, ev_rep, leB_q, eqB_q, eqsB_q, not_q, i_if, b_if, l_if, s_if, i_int, b_bool, s_str, l_list, envL, List.getElem?_cons_succ, List.getElem?_cons_zero, List.getElem?_nil, Option.getD_some, Option.getD_none, Int.toNat_natCast, Int.toNat_zero, Int.reduceToNat, List.length_map, get_Li, get_Lb, get_Ls, set_Li, inj_Li, inj_Lb, inj_Ls, rows_i, rows_b, rows_s, Int.zero_add, iff_true, iff_false, and_true, true_and, Bool.false_eq_true, eq_self, not_true_eq_false, not_false_eq_true, List.length_replicate, DV.int.injEq, DV.bool.injEq, DV.str.injEq, DV.list.injEq, List.cons.injEq, f_ii_0, rows_ii, inj_Lii, f_ii_1, rows_ii, inj_Lii]; omega
              · left
                have hok : ¬ okS (M - 1 - i) s = true := by unfold okS; rw [Bool.and_eq_true, decide_eq_true_eq, decide_eq_true_eq]; exact fun h => h4 h.2
                rw [if_neg hok] at hall
                have h3' : (s.length : Int) = 32 := by omega
                rw [← hall]
                refine ⟨fun _ => ⟨by omega, h2', fun h => absurd h3' h, fun _ => ⟨by omega, by omega, fun _ => rfl, fun h => absurd h h4⟩⟩, fun h => absurd h h1'⟩
            · left
              have hok : ¬ okS (M - 1 - i) s = true := by unfold okS; rw [Bool.and_eq_true, decide_eq_true_eq, decide_eq_true_eq]; exact fun h => h3 h.1
              rw [if_neg hok] at hall
              have h3' : ¬ (s.length : Int) = 32 := by omega
              rw [← hall]
              refine ⟨fun _ => ⟨by omega, h2', fun _ => rfl, fun h => absurd h h3'⟩, fun h => absurd h h1'⟩
        · have hP : parseM x0 a = none := by
            unfold parseM
            rw [Int.toNat_natCast, hM, if_neg fun h => c4 h.2.2.2]
          rw [hP]
          refine ⟨fun _ => rfl, fun _ => ⟨fun _ => rfl, fun _ => ⟨fun _ => rfl, fun _ => ⟨fun _ => rfl, fun h => absurd h c4⟩⟩⟩⟩
      · have hP : parseM x0 a = none := by
          unfold parseM
          rw [Int.toNat_natCast, if_neg fun h => c3 h.2.2.1]
        rw [hP]
        have c3' : ¬ ((x0[a]?.getD []).length : Int) = 32 := by omega
        refine ⟨fun h => absurd c1 h, fun _ => ⟨fun h => absurd c2 (by omega), fun _ => ⟨fun _ => rfl, fun h => absurd h c3'⟩⟩⟩
    · have hP : parseM x0 a = none := by
        unfold parseM
        rw [if_neg fun h => c2 h.2.1]
      rw [hP]
      refine ⟨fun h => absurd c1 h, fun _ => ⟨fun _ => rfl, fun h => absurd (by omega) h⟩⟩
  · have hP : parseM x0 x1 = none := by
      unfold parseM
      rw [if_neg fun h => c1 h.1]
    rw [hP]
    refine ⟨fun _ => rfl, fun h => absurd h c1⟩
end Go.Proofs.YtkfjgggiopegbaaDoor
