/- DiskReadsLastWrite: the law returns true for every input, and each argument reads afterwards as it read before. No condition. -/
import Derived.Test.YtljocjljkilkjaaDSane
import Derived.Test.YtljocjljkilkjaaWritten
import Derived.Test.YtljocjljkilkjaaDFull
import Derived.Test.YtljocjljkilkjaaDRead
import Derived.Test.YtljocjljkilkjaaDRight
import Derived.Test.YtljocjljkilkjaaBd
import Derived.Test.YtljocjljkilkjaaOpen
namespace Go.Proofs.Ytljocjljkilkjaa
set_option linter.unusedVariables false
set_option linter.unusedSimpArgs false
set_option maxRecDepth 100000

/-- The last write to a sector. -/
def lastM (d : List Tis) (a : Int) : List UInt8 := d.foldl (fun b w => if w.1 = a then w.2 else b) noughtM
theorem last_snoc (d : List Tis) (w : Tis) (a : Int) : lastM (d ++ [w]) a = if w.1 = a then w.2 else lastM d a := by unfold lastM; rw [List.foldl_append]; rfl
theorem full_len (c : Int) : (fullM c).length = 32 := by simp [fullM]
/-- Commands within their bounds succeed; what is read is what was written last; the device stays right. -/
theorem wrM_law {n : Int} (h0 : 1 ≤ n) (h1 : n ≤ 512) : ∀ (l : List Int) (s : List (List UInt8)) (w d : List Tis), (∀ c ∈ l, 0 ≤ c ∧ c ≤ 255) → (s.length : Int) = n → (∀ a : Nat, (a : Int) < n → s[a]?.getD [] = lastM d a) → rightDM s w = true →
    (wrM n l s w d).2.2.2 = true ∧ ((wrM n l s w d).1.length : Int) = n ∧ (∀ a : Nat, (a : Int) < n → (wrM n l s w d).1[a]?.getD [] = lastM (wrM n l s w d).2.2.1 a) ∧ rightDM (wrM n l s w d).1 (wrM n l s w d).2.1 = true
  | [], s, w, d, hl, hs, hr, hg => ⟨rfl, hs, hr, hg⟩
  | c :: r, s, w, d, hl, hs, hr, hg => by
    have hr' : ∀ c ∈ r, 0 ≤ c ∧ c ≤ 255 := fun c hc => hl c (List.mem_cons_of_mem _ hc)
    unfold wrM
    by_cases h : c = 255
    · rw [if_pos h]
      refine wrM_law h0 h1 r s [] d hr' hs hr ?_
      unfold rightDM at hg ⊢
      simp only [Bool.and_eq_true] at hg
      rw [hg.1, hg.2.1]
      rfl
    · rw [if_neg h]
      obtain ⟨c0, c1⟩ := hl c (by simp)
      have ha : (IntKind.i64.wrap c).tmod n = c % n := by rw [w64 (by omega) (by omega)]; exact Int.tmod_eq_emod_of_nonneg c0
      have ha0 := Int.emod_nonneg c (show n ≠ 0 by omega)
      have ha1 := Int.emod_lt_of_pos c (show 0 < n by omega)
      rw [ha]
      generalize c % n = a at ha0 ha1 ⊢
      have hw : writeM s w a (fullM c) = (s.set a.toNat (fullM c), w ++ [(a, s[a.toNat]?.getD [])], 0) := by
        unfold writeM
        rw [if_pos ⟨ha0, by omega⟩, if_pos (by rw [full_len]; rfl)]
      rw [hw]
      simp only [if_true]
      have hal : a.toNat < s.length := by omega
      refine wrM_law h0 h1 r _ _ _ hr' (by rw [List.length_set]; exact hs) (fun b hb => ?_) ?_
      · rw [last_snoc]
        by_cases e : a = (b : Int)
        · have : a.toNat = b := by omega
          rw [if_pos e, this, List.getElem?_set_self (by omega)]
          rfl
        · rw [if_neg e, List.getElem?_set_ne (by omega)]
          exact hr b hb
      · unfold rightDM at hg ⊢
        simp only [Bool.and_eq_true] at hg ⊢
        obtain ⟨g1, g2, g3⟩ := hg
        have hsa := right_sec (sec := s) (was := w) (by unfold rightDM; simp only [Bool.and_eq_true]; exact ⟨g1, g2, g3⟩) hal
        refine ⟨by rw [List.length_set]; exact g1, ?_, ?_⟩
        · rw [List.all_eq_true] at g2 ⊢
          intro x hx
          rcases List.mem_or_eq_of_mem_set hx with hx | rfl
          · exact g2 x hx
          · exact decide_eq_true (by rw [full_len]; rfl)
        · rw [List.length_set, List.all_append, g3, Bool.true_and]
          simp only [List.all_cons, List.all_nil, Bool.and_true]
          exact decide_eq_true ⟨ha0, by omega, hsa⟩
theorem wrM_wlen (n : Int) : ∀ (l : List Int) (s : List (List UInt8)) (w d : List Tis), (wrM n l s w d).2.1.length ≤ w.length + l.length ∧ (wrM n l s w d).2.2.1.length ≤ d.length + l.length
  | [], s, w, d => ⟨Nat.le_refl _, Nat.le_refl _⟩
  | c :: r, s, w, d => by
    have hml : (writeM s w ((IntKind.i64.wrap c).tmod n) (fullM c)).2.1.length ≤ w.length + 1 := by
      unfold writeM
      split
      · split <;> simp
      · simp
    unfold wrM
    split
    · have := wrM_wlen n r s [] d
      simp only [List.length_cons, List.length_nil] at this ⊢
      omega
    · split
      · have := wrM_wlen n r (writeM s w ((IntKind.i64.wrap c).tmod n) (fullM c)).1 (writeM s w ((IntKind.i64.wrap c).tmod n) (fullM c)).2.1 (d ++ [((IntKind.i64.wrap c).tmod n, fullM c)])
        simp only [List.length_cons, List.length_append, List.length_nil] at this ⊢
        omega
      · simp only [List.length_cons, List.length_append, List.length_nil]
        omega
theorem new_law {n : Int} (h0 : 1 ≤ n) (h1 : n ≤ 512) : ((newM n).length : Int) = n ∧ (∀ a : Nat, (a : Int) < n → (newM n)[a]?.getD [] = lastM [] a) ∧ rightDM (newM n) [] = true := by
  have e : newM n = List.replicate n.toNat noughtM := by unfold newM; rw [if_pos (by omega)]
  rw [e]
  refine ⟨by simp; omega, fun a ha => ?_, ?_⟩
  · rw [List.getElem?_replicate, if_pos (by omega)]; rfl
  · unfold rightDM
    simp only [Bool.and_eq_true]
    refine ⟨decide_eq_true (by simp; omega), ?_, rfl⟩
    rw [List.all_eq_true]
    intro x hx
    rw [(List.mem_replicate.1 hx).2]
    rfl

def diskReadsF (ds : List DV) : List DV := [.bool true]
/-- What the executor makes of it. -/
def diskReadsTree : PT :=
(.br (.un .not (.bin .le (.un .len (.var 1)) (.int 40)))
 (.leaf [(.bin .idx (.fn 88 .nil) (.int 0))])
 (.asrt (.bin .le (.int 1) (.un (.wrap .i64) (.bin .add (.int 1) (.bin .tmod (.un (.wrap .i64) (.var 0)) (.int 6)))))
  (.asrt (.bin .le (.un (.wrap .i64) (.bin .add (.int 1) (.bin .tmod (.un (.wrap .i64) (.var 0)) (.int 6)))) (.int 512))
   (.loop 2 [(.int 0)]
    (.br (.un .not (.bin .le (.un (.wrap .i64) (.bin .add (.int 1) (.bin .tmod (.un (.wrap .i64) (.var 0)) (.int 6)))) (.var 2)))
     (.br (.bin .idx (.fn 87 (.bin .cons (.un (.wrap .i64) (.bin .add (.int 1) (.bin .tmod (.un (.wrap .i64) (.var 0)) (.int 6)))) (.bin .cons (.var 1) .nil))) (.int 3))
      (.loop 3 [(.str [0, 0, 0, 0, 0, 0, 0, 0, 0, 0, 0, 0, 0, 0, 0, 0, 0, 0, 0, 0, 0, 0, 0, 0, 0, 0, 0, 0, 0, 0, 0, 0]), (.int 0)]
       (.br (.un .not (.bin .le (.un .len (.bin .idx (.fn 87 (.bin .cons (.un (.wrap .i64) (.bin .add (.int 1) (.bin .tmod (.un (.wrap .i64) (.var 0)) (.int 6)))) (.bin .cons (.var 1) .nil))) (.int 2))) (.var 4)))
        (.asrt (.bin .le (.int 0) (.var 4))
         (.br (.bin .eq (.bin .idx (.bin .idx (.bin .idx (.fn 87 (.bin .cons (.un (.wrap .i64) (.bin .add (.int 1) (.bin .tmod (.un (.wrap .i64) (.var 0)) (.int 6)))) (.bin .cons (.var 1) .nil))) (.int 2)) (.bin .add (.int 0) (.var 4))) (.int 0)) (.var 2))
          (.leaf [(.bin .idx (.bin .idx (.bin .idx (.fn 87 (.bin .cons (.un (.wrap .i64) (.bin .add (.int 1) (.bin .tmod (.un (.wrap .i64) (.var 0)) (.int 6)))) (.bin .cons (.var 1) .nil))) (.int 2)) (.bin .add (.int 0) (.var 4))) (.int 1)), (.un (.wrap .i64) (.bin .add (.var 4) (.int 1)))])
          (.leaf [(.var 3), (.un (.wrap .i64) (.bin .add (.var 4) (.int 1)))])))
        .fail)
       (.br (.un .not (.bin .le (.un .len (.bin .idx (.fn 87 (.bin .cons (.un (.wrap .i64) (.bin .add (.int 1) (.bin .tmod (.un (.wrap .i64) (.var 0)) (.int 6)))) (.bin .cons (.var 1) .nil))) (.int 2))) (.var 4)))
        (.asrt (.bin .le (.int 0) (.var 4))
         .fail)
        (.br (.un .not (.bin .eqs (.bin .idx (.fn 68 (.bin .cons (.bin .idx (.fn 87 (.bin .cons (.un (.wrap .i64) (.bin .add (.int 1) (.bin .tmod (.un (.wrap .i64) (.var 0)) (.int 6)))) (.bin .cons (.var 1) .nil))) (.int 0)) (.bin .cons (.bin .idx (.fn 87 (.bin .cons (.un (.wrap .i64) (.bin .add (.int 1) (.bin .tmod (.un (.wrap .i64) (.var 0)) (.int 6)))) (.bin .cons (.var 1) .nil))) (.int 1)) (.bin .cons (.var 2) .nil)))) (.int 0)) (.var 3)))
         .fail
         (.br (.un .not (.bin .eq (.bin .idx (.fn 68 (.bin .cons (.bin .idx (.fn 87 (.bin .cons (.un (.wrap .i64) (.bin .add (.int 1) (.bin .tmod (.un (.wrap .i64) (.var 0)) (.int 6)))) (.bin .cons (.var 1) .nil))) (.int 0)) (.bin .cons (.bin .idx (.fn 87 (.bin .cons (.un (.wrap .i64) (.bin .add (.int 1) (.bin .tmod (.un (.wrap .i64) (.var 0)) (.int 6)))) (.bin .cons (.var 1) .nil))) (.int 1)) (.bin .cons (.var 2) .nil)))) (.int 1)) (.int 0)))
          .fail
          (.leaf [(.un (.wrap .i64) (.bin .add (.var 2) (.int 1)))])))))
      .fail)
     .fail)
    (.br (.un .not (.bin .le (.un (.wrap .i64) (.bin .add (.int 1) (.bin .tmod (.un (.wrap .i64) (.var 0)) (.int 6)))) (.var 2)))
     (.br (.bin .idx (.fn 87 (.bin .cons (.un (.wrap .i64) (.bin .add (.int 1) (.bin .tmod (.un (.wrap .i64) (.var 0)) (.int 6)))) (.bin .cons (.var 1) .nil))) (.int 3))
      (.loop 3 [(.str [0, 0, 0, 0, 0, 0, 0, 0, 0, 0, 0, 0, 0, 0, 0, 0, 0, 0, 0, 0, 0, 0, 0, 0, 0, 0, 0, 0, 0, 0, 0, 0]), (.int 0)]
       (.br (.un .not (.bin .le (.un .len (.bin .idx (.fn 87 (.bin .cons (.un (.wrap .i64) (.bin .add (.int 1) (.bin .tmod (.un (.wrap .i64) (.var 0)) (.int 6)))) (.bin .cons (.var 1) .nil))) (.int 2))) (.var 4)))
        (.asrt (.bin .le (.int 0) (.var 4))
         (.br (.bin .eq (.bin .idx (.bin .idx (.bin .idx (.fn 87 (.bin .cons (.un (.wrap .i64) (.bin .add (.int 1) (.bin .tmod (.un (.wrap .i64) (.var 0)) (.int 6)))) (.bin .cons (.var 1) .nil))) (.int 2)) (.bin .add (.int 0) (.var 4))) (.int 0)) (.var 2))
          (.leaf [(.bin .idx (.bin .idx (.bin .idx (.fn 87 (.bin .cons (.un (.wrap .i64) (.bin .add (.int 1) (.bin .tmod (.un (.wrap .i64) (.var 0)) (.int 6)))) (.bin .cons (.var 1) .nil))) (.int 2)) (.bin .add (.int 0) (.var 4))) (.int 1)), (.un (.wrap .i64) (.bin .add (.var 4) (.int 1)))])
          (.leaf [(.var 3), (.un (.wrap .i64) (.bin .add (.var 4) (.int 1)))])))
        .fail)
       (.br (.un .not (.bin .le (.un .len (.bin .idx (.fn 87 (.bin .cons (.un (.wrap .i64) (.bin .add (.int 1) (.bin .tmod (.un (.wrap .i64) (.var 0)) (.int 6)))) (.bin .cons (.var 1) .nil))) (.int 2))) (.var 4)))
        (.asrt (.bin .le (.int 0) (.var 4))
         .fail)
        (.br (.un .not (.bin .eqs (.bin .idx (.fn 68 (.bin .cons (.bin .idx (.fn 87 (.bin .cons (.un (.wrap .i64) (.bin .add (.int 1) (.bin .tmod (.un (.wrap .i64) (.var 0)) (.int 6)))) (.bin .cons (.var 1) .nil))) (.int 0)) (.bin .cons (.bin .idx (.fn 87 (.bin .cons (.un (.wrap .i64) (.bin .add (.int 1) (.bin .tmod (.un (.wrap .i64) (.var 0)) (.int 6)))) (.bin .cons (.var 1) .nil))) (.int 1)) (.bin .cons (.var 2) .nil)))) (.int 0)) (.var 3)))
         (.leaf [(.bool false)])
         (.br (.un .not (.bin .eq (.bin .idx (.fn 68 (.bin .cons (.bin .idx (.fn 87 (.bin .cons (.un (.wrap .i64) (.bin .add (.int 1) (.bin .tmod (.un (.wrap .i64) (.var 0)) (.int 6)))) (.bin .cons (.var 1) .nil))) (.int 0)) (.bin .cons (.bin .idx (.fn 87 (.bin .cons (.un (.wrap .i64) (.bin .add (.int 1) (.bin .tmod (.un (.wrap .i64) (.var 0)) (.int 6)))) (.bin .cons (.var 1) .nil))) (.int 1)) (.bin .cons (.var 2) .nil)))) (.int 1)) (.int 0)))
          (.leaf [(.bool false)])
          .fail))))
      (.leaf [(.bool false)]))
     (.br (.bin .idx (.fn 88 .nil) (.int 0))
      (.br (.bin .idx (.fn 87 (.bin .cons (.un (.wrap .i64) (.bin .add (.int 1) (.bin .tmod (.un (.wrap .i64) (.var 0)) (.int 6)))) (.bin .cons (.var 1) .nil))) (.int 3))
       (.asrt (.bin .le (.un .len (.bin .idx (.fn 87 (.bin .cons (.un (.wrap .i64) (.bin .add (.int 1) (.bin .tmod (.un (.wrap .i64) (.var 0)) (.int 6)))) (.bin .cons (.var 1) .nil))) (.int 0))) (.int 1000000))
        (.asrt (.bin .le (.un .len (.bin .idx (.fn 87 (.bin .cons (.un (.wrap .i64) (.bin .add (.int 1) (.bin .tmod (.un (.wrap .i64) (.var 0)) (.int 6)))) (.bin .cons (.var 1) .nil))) (.int 1))) (.int 1000000))
         (.leaf [(.bin .idx (.fn 70 (.bin .cons (.bin .idx (.fn 87 (.bin .cons (.un (.wrap .i64) (.bin .add (.int 1) (.bin .tmod (.un (.wrap .i64) (.var 0)) (.int 6)))) (.bin .cons (.var 1) .nil))) (.int 0)) (.bin .cons (.bin .idx (.fn 87 (.bin .cons (.un (.wrap .i64) (.bin .add (.int 1) (.bin .tmod (.un (.wrap .i64) (.var 0)) (.int 6)))) (.bin .cons (.var 1) .nil))) (.int 1)) .nil))) (.int 0))])))
       (.leaf [(.bool false)]))
      (.leaf [(.bool false)])))))))

def diskReadsSm : List (Nat × Smy) := [(7, ⟨88, [], [.one (.pl .bool)], fun _ => [], none⟩), (23, ⟨87, [.one (.pl (.int .i64)), .one (.rows false [.int .u8])], [.agg [.rows false [.str], .rows false [.int .i64, .str]], .one (.rows false [.int .i64, .str]), .one (.pl .bool)], fun es => lenC [(1, 10000)] es ++ rgeC [(0, 1, 512)] es, none⟩), (24, ⟨67, [.one (.pl (.int .u8))], [.one (.pl .str)], fun _ => [], none⟩), (15, ⟨68, [.agg [.rows false [.str], .rows false [.int .i64, .str]], .one (.pl (.int .i64))], [.one (.pl .str), .one (.pl (.int .i64))], fun _ => [], none⟩), (12, ⟨70, [.agg [.rows false [.str], .rows false [.int .i64, .str]]], [.one (.pl .bool)], lenC [(0, 1000000), (1, 1000000)], none⟩)]
def diskReadsLa : List (LK × LA) := [(⟨79, 11, 7, 3⟩, ⟨[(11, (.str (.var 3))), (12, (.int .i64 (.var 4))), (40, .any), (41, .any), (42, .any), (43, .any), (44, .any), (45, .any), (46, .any), (47, .any), (48, .any), (49, .any), (50, .any), (51, .any), (52, .any), (53, .any), (54, .any), (55, .any), (56, .any), (57, .any)], [], [], 2, 0⟩),
  (⟨79, 7, 6, 2⟩, ⟨[(10, (.int .i64 (.var 2))), (11, .any), (12, .any), (13, .any), (14, .any), (31, .any), (32, .any), (33, .any), (34, .any), (35, .any), (36, .any), (37, .any), (38, .any), (39, .any), (40, .any), (41, .any), (42, .any), (43, .any), (44, .any), (45, .any), (46, .any), (47, .any), (48, .any), (49, .any), (50, .any), (51, .any), (52, .any), (53, .any), (54, .any), (55, .any), (56, .any), (57, .any), (58, .any), (59, .any), (60, .any), (61, .any), (62, .any), (63, .any), (64, .any), (65, .any), (66, .any), (67, .any), (68, .any), (69, .any), (70, .any)], [], [], 1, 0⟩)]
def diskReadsPhi : Nat → DV → DV := fun n d => match n with
  | 88 => .list (dSaneF d.l)
  | 87 => .list (writtenF d.l)
  | 67 => .list (dFullF d.l)
  | 68 => .list (dReadF d.l)
  | 70 => .list (dRightF d.l)
  | _ => d
theorem diskReadsS : SmyOk Try.prog diskReadsPhi diskReadsSm := (smy_cons (fun _ => True) dSaneF dSane_pure (fun _ _ _ _ => trivial) (fun _ => rfl) (fun _ h => by cases h) (smy_cons (fun ds => lenP [(1, 10000)] ds ∧ rgeP [(0, 1, 512)] ds) writtenF written_pure (both_hp [(1, 10000)] [(0, 1, 512)]) (fun _ => rfl) (fun _ h => by cases h) (smy_cons (fun _ => True) dFullF dFull_pure (fun _ _ _ _ => trivial) (fun _ => rfl) (fun _ h => by cases h) (smy_cons (fun _ => True) dReadF dRead_pure (fun _ _ _ _ => trivial) (fun _ => rfl) (fun _ h => by cases h) (smy_cons (lenP [(0, 1000000), (1, 1000000)]) dRightF dRight_pure (len_hp [(0, 1000000), (1, 1000000)]) (fun _ => rfl) (fun _ h => by cases h) smy_nil)))))
theorem diskReadsT : treeOk ⟨Try.prog, diskReadsSm, diskReadsLa⟩ 4000 4 [.one (.pl (.int .u8)), .one (.rows false [.int .u8])] [.one (.pl .bool)] (rng (0) 255 (.var 0) ++ (rng 0 9223372036854775807 (.un .len (.var 1)) ++ ([]))) diskReadsTree = true := by decide +kernel
set_option maxHeartbeats 1000000 in
theorem diskReads_pure : Pure Try.prog 4 [.one (.pl (.int .u8)), .one (.rows false [.int .u8])] [.one (.pl .bool)] (Wts (clsOf [.one (.pl (.int .u8)), .one (.rows false [.int .u8])])) diskReadsF := by
  refine pure_tree (X := ⟨Try.prog, diskReadsSm, diskReadsLa⟩) (Checked.mixed Try.checked) diskReadsS (by decide +kernel) (by decide +kernel) diskReadsT (by decide +kernel) ?_
  intro ds hl hp
  obtain ⟨d0, d1, rfl⟩ := len2 hl
  obtain ⟨_, _, he, w0, hp⟩ := hp
  cases he
  have r0 : 0 ≤ d0.i ∧ d0.i ≤ 255 := wt_i w0 rfl rfl
  clear w0
  obtain ⟨_, _, he, w1, hp⟩ := hp
  cases he
  have b1 : ((d1.l.map DV.i).length : Int) ≤ 9223372036854775807 := by rw [List.length_map]; exact wt_len w1
  have v1 : ∀ v ∈ d1.l.map DV.i, 0 ≤ v ∧ v ≤ 255 := wt_ints w1 rfl rfl
  clear w1
  have hN : nrmL (clsOf [.one (.pl (.int .u8)), .one (.rows false [.int .u8])]) [d0, d1] = [.int d0.i, .list ((d1.l.map DV.i).map DV.int)] := by
    simp only [clsOf, Sh.cls, List.append_nil, List.cons_append, List.nil_append, nrmL, Cl.nrm, CK.nrm, map_Li]
  have hF : diskReadsF [d0, d1] = [.bool true] := rfl
  rw [hN, hF]
  clear hN hp hl hF
  generalize d0.i = x0 at r0 ⊢
  generalize d1.l.map DV.i = x1 at b1 v1 ⊢
  refine ⟨(rng_ok (e := .var 0) r0.1 r0.2 (rng_ok (e := .un .len (.var 1)) (Int.natCast_nonneg _) (by show ((x1.map _).length : Int) ≤ _; rw [List.length_map]; exact b1) (facts_nil _))), ?_⟩
  unfold diskReadsTree
  simp only [Sat, clsOf, Sh.cls, List.append_nil, List.cons_append, List.nil_append, nrmL, Cl.nrm, CK.nrm, List.map_cons, List.map_nil, List.length_cons, List.length_nil, List.cons.injEq, DV.bool.injEq, DV.int.injEq, DV.list.injEq, DV.str.injEq, and_true, true_and]
  try simp only [q_le, q_eq, q_eqs, q_eqb, q_and, q_or, q_not, q_bool, iff_true, iff_false, Bool.not_true, Bool.not_false, Bool.false_eq_true, Bool.true_eq_false, eq_self, Bool.not_not]
  simp only [Bool.not_true, Bool.not_false, Bool.true_eq_false, SE.den, evU, evT, ev_le, ev_eq, ev_eqs, ev_eqb, ev_slt, ev_and, ev_or, ev_add, ev_sub, ev_mul, ev_tdiv, ev_tmod, ev_band, ev_bor, ev_bxor, ev_bandn, ev_shl, ev_shr, ev_cat, ev_byte, ev_idx, ev_cons, ev_snoc, ev_app, ev_take, ev_drop, ev_stake, ev_sdrop, ev_rep, leB_q, eqB_q, eqsB_q, not_q, i_if, b_if, l_if, s_if, i_int, b_bool, s_str, l_list, envL, List.getElem?_cons_succ, List.getElem?_cons_zero, List.getElem?_nil, Option.getD_some, Option.getD_none, Int.toNat_natCast, Int.toNat_zero, Int.reduceToNat, List.length_map, get_Li, get_Lb, get_Ls, set_Li, inj_Li, inj_Lb, inj_Ls, rows_i, rows_b, rows_s, Int.zero_add, iff_true, iff_false, and_true, true_and, Bool.false_eq_true, eq_self, not_true_eq_false, not_false_eq_true, List.length_replicate, DV.int.injEq, DV.bool.injEq, DV.str.injEq, DV.list.injEq, List.cons.injEq, f_is_0, rows_is, inj_Lis, f_is_1, rows_is, inj_Lis, diskReadsPhi, dSaneF, dSaneE, writtenF, writtenE, dFullF, dFullE, dReadF, dReadE, dRightF, dRightE, gi, gb, gs, gLi, gLu, gLb, gLs, dece_i, dece_b, dece_s, gLis, deces_is]
  have t : IntKind.i64.wrap (1 + (IntKind.i64.wrap x0).tmod 6) = 1 + x0 % 6 := by
    rw [w64 (n := x0) (by omega) (by omega), Int.tmod_eq_emod_of_nonneg r0.1]
    exact w64 (by omega) (by omega)
  simp only [t]
  have hn : 1 ≤ 1 + x0 % 6 ∧ 1 + x0 % 6 ≤ 6 := by omega
  generalize 1 + x0 % 6 = n at *
  obtain ⟨n1, n2, n3⟩ := new_law hn.1 (by omega)
  obtain ⟨g1, g2, g3, g4⟩ := wrM_law hn.1 (by omega) x1 (newM n) [] [] v1 n1 n2 n3
  obtain ⟨q1, q2⟩ := wrM_wlen n x1 (newM n) [] []
  generalize wrM n x1 (newM n) [] [] = W at *
  refine ⟨fun _ => trivial, fun h40 => ⟨by omega, by omega, ?_⟩⟩
  refine rounds_at n.toNat (fun a => [.int a]) rfl (fun _ => rfl) (fun a ha => ?_) ?_
  · have e1 : ¬ n ≤ (a : Int) := by omega
    have hwa : IntKind.i64.wrap ((a : Int) + 1) = a + 1 := w64 (by omega) (by omega)
    have hread : readDM W.1 a = (lastM W.2.2.1 a, 0) := by
      unfold readDM
      rw [if_pos (by omega), Int.toNat_natCast, g3 a (by omega)]
    simp only [Bool.not_true, Bool.not_false, Bool.true_eq_false, SE.den, evU, evT, ev_le, ev_eq, ev_eqs, ev_eqb, ev_slt, ev_and, ev_or, ev_add, ev_sub, ev_mul, ev_tdiv, ev_tmod, ev_band, ev_bor, ev_bxor, ev_bandn, ev_shl, ev_shr, ev_cat, ev_byte, ev_idx, ev_cons, ev_snoc, ev_app, ev_take, ev_drop, ev_stake, ev_sdrop, ev_rep, leB_q, eqB_q, eqsB_q, not_q, i_if, b_if, l_if, s_if, i_int, b_bool, s_str, l_list, envL, List.getElem?_cons_succ, List.getElem?_cons_zero, List.getElem?_nil, Option.getD_some, Option.getD_none, Int.toNat_natCast, Int.toNat_zero, Int.reduceToNat, List.length_map, get_Li, get_Lb, get_Ls, set_Li, inj_Li, inj_Lb, inj_Ls, rows_i, rows_b, rows_s, Int.zero_add, iff_true, iff_false, and_true, true_and, Bool.false_eq_true, eq_self, not_true_eq_false, not_false_eq_true, List.length_replicate, DV.int.injEq, DV.bool.injEq, DV.str.injEq, DV.list.injEq, List.cons.injEq, f_is_0, rows_is, inj_Lis, f_is_1, rows_is, inj_Lis, e1, g1]
    refine ⟨fun _ => ⟨fun _ => ⟨rfl, ?_⟩, fun h => by cases h⟩, fun h => h.elim⟩
    refine rounds_at W.2.2.1.length (fun k => [.str (lastM (W.2.2.1.take k) a), .int k]) rfl (fun _ => rfl) (fun k hk => ?_) ?_
    · have e2 : ¬ (W.2.2.1.length : Int) ≤ k := by omega
      have hwk : IntKind.i64.wrap ((k : Int) + 1) = k + 1 := w64 (by simp only [List.length_nil] at q2; omega) (by simp only [List.length_nil] at q2; omega)
      have hr := raw_is_1 hk
      have hl : lastM (W.2.2.1.take (k + 1)) a = if (W.2.2.1[k]?.getD dis).1 = (a : Int) then (W.2.2.1[k]?.getD dis).2 else lastM (W.2.2.1.take k) a := by
        rw [List.take_add_one, List.getElem?_eq_getElem hk]
        exact last_snoc _ _ _
      simp only [Bool.not_true, Bool.not_false, Bool.true_eq_false, SE.den, evU, evT, ev_le, ev_eq, ev_eqs, ev_eqb, ev_slt, ev_and, ev_or, ev_add, ev_sub, ev_mul, ev_tdiv, ev_tmod, ev_band, ev_bor, ev_bxor, ev_bandn, ev_shl, ev_shr, ev_cat, ev_byte, ev_idx, ev_cons, ev_snoc, ev_app, ev_take, ev_drop, ev_stake, ev_sdrop, ev_rep, leB_q, eqB_q, eqsB_q, not_q, i_if, b_if, l_if, s_if, i_int, b_bool, s_str, l_list, envL, List.getElem?_cons_succ, List.getElem?_cons_zero, List.getElem?_nil, Option.getD_some, Option.getD_none, Int.toNat_natCast, Int.toNat_zero, Int.reduceToNat, List.length_map, get_Li, get_Lb, get_Ls, set_Li, inj_Li, inj_Lb, inj_Ls, rows_i, rows_b, rows_s, Int.zero_add, iff_true, iff_false, and_true, true_and, Bool.false_eq_true, eq_self, not_true_eq_false, not_false_eq_true, List.length_replicate, DV.int.injEq, DV.bool.injEq, DV.str.injEq, DV.list.injEq, List.cons.injEq, f_is_0, rows_is, inj_Lis, f_is_1, rows_is, inj_Lis, List.cons_append, List.nil_append, e2, hr, hwk, hl]
      by_cases hh : (W.2.2.1[k]?.getD dis).1 = (a : Int)
      · simp [hh]
      · simp [hh]
    · simp only [Bool.not_true, Bool.not_false, Bool.true_eq_false, SE.den, evU, evT, ev_le, ev_eq, ev_eqs, ev_eqb, ev_slt, ev_and, ev_or, ev_add, ev_sub, ev_mul, ev_tdiv, ev_tmod, ev_band, ev_bor, ev_bxor, ev_bandn, ev_shl, ev_shr, ev_cat, ev_byte, ev_idx, ev_cons, ev_snoc, ev_app, ev_take, ev_drop, ev_stake, ev_sdrop, ev_rep, leB_q, eqB_q, eqsB_q, not_q, i_if, b_if, l_if, s_if, i_int, b_bool, s_str, l_list, envL, List.getElem?_cons_succ, List.getElem?_cons_zero, List.getElem?_nil, Option.getD_some, Option.getD_none, Int.toNat_natCast, Int.toNat_zero, Int.reduceToNat, List.length_map, get_Li, get_Lb, get_Ls, set_Li, inj_Li, inj_Lb, inj_Ls, rows_i, rows_b, rows_s, Int.zero_add, iff_true, iff_false, and_true, true_and, Bool.false_eq_true, eq_self, not_true_eq_false, not_false_eq_true, List.length_replicate, DV.int.injEq, DV.bool.injEq, DV.str.injEq, DV.list.injEq, List.cons.injEq, f_is_0, rows_is, inj_Lis, f_is_1, rows_is, inj_Lis, List.cons_append, List.nil_append, List.take_length, hread, hwa]
      simp
  · have e1 : n ≤ (n.toNat : Int) := by omega
    simp only [Bool.not_true, Bool.not_false, Bool.true_eq_false, SE.den, evU, evT, ev_le, ev_eq, ev_eqs, ev_eqb, ev_slt, ev_and, ev_or, ev_add, ev_sub, ev_mul, ev_tdiv, ev_tmod, ev_band, ev_bor, ev_bxor, ev_bandn, ev_shl, ev_shr, ev_cat, ev_byte, ev_idx, ev_cons, ev_snoc, ev_app, ev_take, ev_drop, ev_stake, ev_sdrop, ev_rep, leB_q, eqB_q, eqsB_q, not_q, i_if, b_if, l_if, s_if, i_int, b_bool, s_str, l_list, envL, List.getElem?_cons_succ, List.getElem?_cons_zero, List.getElem?_nil, Option.getD_some, Option.getD_none, Int.toNat_natCast, Int.toNat_zero, Int.reduceToNat, List.length_map, get_Li, get_Lb, get_Ls, set_Li, inj_Li, inj_Lb, inj_Ls, rows_i, rows_b, rows_s, Int.zero_add, iff_true, iff_false, and_true, true_and, Bool.false_eq_true, eq_self, not_true_eq_false, not_false_eq_true, List.length_replicate, DV.int.injEq, DV.bool.injEq, DV.str.injEq, DV.list.injEq, List.cons.injEq, f_is_0, rows_is, inj_Lis, f_is_1, rows_is, inj_Lis, e1, g1]
    simp [g4]
    simp only [List.length_nil] at q1
    exact ⟨by omega, by omega⟩
namespace row
open Go.ChangeShapes Go.WideShapes Go.ChangeAt Go.RowKit Go.Joins Go.Deep Go.Proofs.Ytljocjljkilkjaa
theorem lifted (os : Os) (started : os.Started) (H : Type) (enc : TypeId × Value → H) :
    ReturnsInHanded {} Try.checked os 4 .any (Rows.diskReadsLastWriteSpec.pre6 enc Try.prog Try.f4 Rows.diskReadsLastWriteRow.domain false) (Rows.diskReadsLastWriteSpec.post enc Try.prog Try.f4 false true false false) := by
  refine returnsInHanded_of_change (C := Try.checked) own started (by kernel_rfl) Try.func4
    (ChangeSpec.witness6 (enc := enc) (C := Try.checked) false ⟨#[], #[.int .u8 0, .slice none 0 0], []⟩ 8 (by kernel_rfl) (by kernel_rfl) (by kernel_rfl) (by kernel_rfl)) ?_
  intro W base args ds gs before hval0 hW hcnd _
  have hval : ∀ (j : Nat) t v, Try.f4.params[j]? = some t → args[j]? = some v → Value.okWide Try.prog W .any base t v := hval0
  have hW' := hW
  obtain ⟨p, q, hA0, hV, rfl, hfz, hnd⟩ := hW
  have hA : DataW.TrodAll enc Try.prog W 0 (fun _ => true) true Try.f4.params.toList args.toList ds p := hA0
  have hval2 : ∀ (j : Nat) t v, Try.f4.params.toList[j]? = some t → args.toList[j]? = some v → Value.okWide Try.prog W .any base t v := fun j t v a b => hval j t v (by simpa using a) (by simpa using b)
  have hcall := law_of diskReads_pure (fun _ h => h) (by rw [Try.params4]; kernel_rfl) hA hval2
  rw [Try.params4] at hA
  obtain ⟨v0, vs0, d0, ds0, p0, q0, hargs, rfl, rfl, h0, r0⟩ := trodAll_cons hA
  obtain ⟨v1, vs1, d1, ds1, p1, q1, rfl, rfl, rfl, h1, r1⟩ := trodAll_cons r0
  obtain ⟨rfl, rfl, rfl⟩ := trodAll_nil r1
  obtain rfl : args = #[v0, v1] := by cases args; simp_all
  obtain ⟨rfl, rfl⟩ := trodVars_none hV
  have lt0 : ∀ x ∈ p0, x.block < W.heap.size := by obtain ⟨m, hm⟩ := h0; exact DataW.trod_lt m _ _ _ hm
  have lt1 : ∀ x ∈ p1, x.block < W.heap.size := by obtain ⟨m, hm⟩ := h1; exact DataW.trod_lt m _ _ _ hm
  clear hA0 hval0 hval2
  refine Calls.mono hcall fun e W' ⟨he, bel⟩ => ?_
  subst he
  exact ⟨_, rfl, _, _, _, [], _, [], hW', trodAll_mk1 (shut_bool Try.underlying4 _), (trodAll_cons_mk (Below.trod laidOut (by kernel_rfl) (of_decide_eq_true (by kernel_rfl)) h0 bel lt0) (trodAll_cons_mk (Below.trod laidOut (by kernel_rfl) (of_decide_eq_true (by kernel_rfl)) h1 bel lt1) trodAll_mk0)), rfl, bel.frame _, fun h => by cases h⟩
theorem over : Rows.diskReadsLastWriteRow.holds Try.pinned (OpenSpec.ofChange Rows.diskReadsLastWriteSpec) :=
  OpenClaim.holds_of_wide 4 Try.f4 rfl rfl rfl rfl rfl rfl rfl ⟨rfl, rfl, rfl, rfl, rfl⟩ rfl rfl rfl rfl rfl (by kernel_rfl) Try.func4 (by kernel_rfl)
    (of_decide_eq_true (by kernel_rfl)) (by unfold Func.isWrapper; first | (rw [if_pos (by decide +kernel)]; kernel_rfl) | (rw [if_neg (by decide +kernel)]; exact ⟨rfl, rfl⟩))
    (fun os started H enc _ => lifted os started H enc)
end row
theorem diskReads_proved : Rows.DiskReadsLastWriteSaid := row.over
end Go.Proofs.Ytljocjljkilkjaa
