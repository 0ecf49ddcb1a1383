/- WalTorn: the law returns true for every input, and each argument reads afterwards as it read before. No condition. -/
import Derived.Test.YthfiphbjdenkbaaDoorLSane23
import Derived.Test.YthfiphbjdenkbaaDoorWRecord
import Derived.Test.YthfiphbjdenkbaaDoorRValid
import Derived.Test.YthfiphbjdenkbaaDoorWParse
import Derived.Test.YthfiphbjdenkbaaDoorROne
import Derived.Test.YthfiphbjdenkbaaDoorTie
import Derived.Test.YthfiphbjdenkbaaDoorCards
import Derived.Lay
import Derived.SevenTiedAt
import Derived.Test.YthfiphbjdenkbaaDoorBd
import Derived.Test.YthfiphbjdenkbaaDoorOpen
namespace Go.Proofs.YthfiphbjdenkbaaDoor
set_option linter.unusedVariables false
set_option linter.unusedSimpArgs false
set_option maxRecDepth 100000

theorem rounds_head {B : List DV → List DV → Prop} {R : List DV → Prop} {X Y : DV} {l : List DV} (h : X = Y) (k : Rounds B R (Y :: l)) : Rounds B R (X :: l) := h ▸ k
theorem ite_T {p : Prop} {inst : Decidable p} {a b : DV} (h : p) : @ite DV p inst a b = a := if_pos h
theorem ite_F {p : Prop} {inst : Decidable p} {a b : DV} (h : ¬ p) : @ite DV p inst a b = b := if_neg h
def zerM (s : List UInt8) (c t : Nat) : List UInt8 := (s.take c ++ List.replicate t 0) ++ s.drop (c + t)
theorem zer_set (s : List UInt8) (c t : Nat) (h : c + t < s.length) : (bytesN (zerM s c t)).set (c + t) 0 = bytesN (zerM s c (t + 1)) := by
  unfold zerM
  have hl : (bytesN (s.take c ++ List.replicate t 0)).length = c + t := by rw [bytes_len, List.length_append, List.length_take, List.length_replicate]; omega
  rw [bytes_app, List.set_append_right _ _ (by omega), hl, Nat.sub_self, List.drop_eq_getElem_cons h, bytes_app (s.take c ++ List.replicate (t + 1) 0)]
  have e : bytesN (s[c + t] :: s.drop (c + t + 1)) = (s[c + t].toNat : Int) :: bytesN (s.drop (c + t + 1)) := rfl
  have e2 : bytesN (s.take c ++ List.replicate (t + 1) 0) = bytesN (s.take c ++ List.replicate t 0) ++ [0] := by
    rw [List.replicate_succ', ← List.append_assoc, bytes_app (s.take c ++ List.replicate t 0)]; rfl
  rw [e, List.set_cons_zero, e2, List.append_assoc]
  rfl
theorem torn_loop {B : List DV → List DV → Prop} {R : List DV → Prop} {c : Nat} {s : List UInt8} (hs : s.length = 32) (hc : c ≤ 32)
    (hB : ∀ (k : Nat) (b : List Int), k < 32 → b.length = 32 → B [.int k, .list (b.map .int)] [.int ((k + 1 : Nat) : Int), .list ((b.set k 0).map .int)])
    (hR : R [.int ((32 : Nat) : Int), .list ((bytesN (cutM c s)).map .int)]) : Rounds B R [.int c, .list ((bytesN s).map .int)] := by
  refine rounds_at (32 - c) (fun t => [.int ((c + t : Nat) : Int), .list ((bytesN (zerM s c t)).map .int)]) ?_ (fun _ => rfl) (fun t ht => ?_) ?_
  · unfold zerM
    simp
  · rw [← zer_set s c t (by omega)]
    refine hB (c + t) _ (by omega) ?_
    unfold zerM
    rw [bytes_len, List.length_append, List.length_append, List.length_take, List.length_replicate, List.length_drop]
    omega
  · have e : c + (32 - c) = 32 := by omega
    have e2 : zerM s c (32 - c) = cutM c s := by
      unfold zerM cutM
      rw [e, hs, List.drop_eq_nil_of_le (by omega), List.append_nil]
    simp only [e, e2]
    exact hR
theorem eqsB_dec (a b : List UInt8) : eqsB a b = decide (a = b) := by
  rw [Bool.eq_iff_iff]
  simp [eqsB_q]
def cutAt (x : List Int) (i : Nat) : Nat := if i < x.length then min ((x[i]?.getD 0).toNat) 32 else 32
def tornL (R : List (List UInt8)) (x : List Int) (i : Nat) : List (List UInt8) := (List.range i).map fun j => cutM (cutAt x j) (R[j]?.getD [])
theorem torn_succ (R : List (List UInt8)) (x : List Int) (i : Nat) : tornL R x (i + 1) = tornL R x i ++ [cutM (cutAt x i) (R[i]?.getD [])] := by
  unfold tornL
  rw [List.range_succ, List.map_append]
  rfl
theorem torn_len (R : List (List UInt8)) (x : List Int) (i : Nat) : (tornL R x i).length = i := by unfold tornL; simp
theorem torn_at (R : List (List UInt8)) (x : List Int) {i n : Nat} (h : i < n) : (tornL R x n)[i]?.getD [] = cutM (cutAt x i) (R[i]?.getD []) := by
  unfold tornL
  rw [List.getElem?_map, List.getElem?_range h]
  rfl
theorem torn_eq (R : List (List UInt8)) (x : List Int) (i : Nat) (h : i < R.length) : (decide (tornL R x (i + 1) = R.take (i + 1))) = (if decide (tornL R x i = R.take i) = true then decide (cutM (cutAt x i) (R[i]?.getD []) = R[i]?.getD []) else false) := by
  have e : R.take (i + 1) = R.take i ++ [R[i]?.getD []] := by rw [List.take_add_one, List.getElem?_eq_getElem h]; rfl
  rw [torn_succ, e]
  have hl : (tornL R x i).length = (R.take i).length := by rw [torn_len, List.length_take]; omega
  by_cases h1 : tornL R x i = R.take i
  · simp [h1]
  · have : ¬ (tornL R x i ++ [cutM (cutAt x i) (R[i]?.getD [])] = R.take i ++ [R[i]?.getD []]) := fun e => h1 (List.append_inj e hl).1
    simp [h1, this]

def walTornF (ds : List DV) : List DV := [.bool true]
/-- What the executor makes of it. -/
def walTornTree : PT :=
(.br (.un .not (.bin .le (.un .len (.var 1)) (.int 40)))
 (.leaf [(.bin .idx (.fn 112 .nil) (.int 0))])
 (.br (.un .not (.bin .idx (.fn 114 (.bin .cons (.var 0) (.bin .cons (.var 1) .nil))) (.int 0)))
  (.leaf [(.bin .idx (.fn 112 .nil) (.int 0))])
  (.loop 3 [.nil, (.bool true), (.int 0)]
   (.br (.un .not (.bin .le (.un .len (.bin .idx (.fn 103 (.bin .cons (.var 0) (.bin .cons (.var 1) .nil))) (.int 0))) (.var 5)))
    (.br (.un .not (.bin .le (.un .len (.var 2)) (.var 5)))
     (.asrt (.bin .le (.int 0) (.var 5))
      (.loop 6 [(.tri .ite (.un .not (.bin .le (.un (.wrap .i64) (.bin .idx (.var 2) (.bin .add (.int 0) (.var 5)))) (.int 32))) (.int 32) (.un (.wrap .i64) (.bin .idx (.var 2) (.bin .add (.int 0) (.var 5))))), (.un .bytes (.bin .idx (.bin .idx (.fn 103 (.bin .cons (.var 0) (.bin .cons (.var 1) .nil))) (.int 0)) (.bin .add (.int 0) (.var 5))))]
       (.br (.un .not (.bin .le (.un .slen (.bin .idx (.bin .idx (.fn 103 (.bin .cons (.var 0) (.bin .cons (.var 1) .nil))) (.int 0)) (.bin .add (.int 0) (.var 5)))) (.var 6)))
        (.asrt (.bin .le (.int 0) (.var 6))
         (.asrt (.un .not (.bin .le (.un .len (.var 7)) (.bin .add (.int 0) (.var 6))))
          (.leaf [(.un (.wrap .i64) (.bin .add (.var 6) (.int 1))), (.tri .set (.var 7) (.bin .add (.int 0) (.var 6)) (.int 0))])))
        .fail)
       (.br (.un .not (.bin .le (.un .slen (.bin .idx (.bin .idx (.fn 103 (.bin .cons (.var 0) (.bin .cons (.var 1) .nil))) (.int 0)) (.bin .add (.int 0) (.var 5)))) (.var 6)))
        (.asrt (.bin .le (.int 0) (.var 6))
         (.asrt (.un .not (.bin .le (.un .len (.var 7)) (.bin .add (.int 0) (.var 6))))
          .fail))
        (.asrt (.bin .le (.bin .add (.int 0) (.un .slen (.bin .idx (.bin .idx (.fn 103 (.bin .cons (.var 0) (.bin .cons (.var 1) .nil))) (.int 0)) (.bin .add (.int 0) (.var 5))))) (.un .len (.var 7)))
         (.asrt (.bin .le (.bin .add (.un .len (.var 3)) (.int 1)) (.int 4294967296))
          (.br (.var 4)
           (.leaf [(.bin .snoc (.var 3) (.un .str8 (.bin .take (.bin .drop (.var 7) (.int 0)) (.un .slen (.bin .idx (.bin .idx (.fn 103 (.bin .cons (.var 0) (.bin .cons (.var 1) .nil))) (.int 0)) (.bin .add (.int 0) (.var 5))))))), (.bin .eqs (.un .str8 (.bin .take (.bin .drop (.var 7) (.int 0)) (.un .slen (.bin .idx (.bin .idx (.fn 103 (.bin .cons (.var 0) (.bin .cons (.var 1) .nil))) (.int 0)) (.bin .add (.int 0) (.var 5)))))) (.bin .idx (.bin .idx (.fn 103 (.bin .cons (.var 0) (.bin .cons (.var 1) .nil))) (.int 0)) (.bin .add (.int 0) (.var 5)))), (.un (.wrap .i64) (.bin .add (.var 5) (.int 1)))])
           (.leaf [(.bin .snoc (.var 3) (.un .str8 (.bin .take (.bin .drop (.var 7) (.int 0)) (.un .slen (.bin .idx (.bin .idx (.fn 103 (.bin .cons (.var 0) (.bin .cons (.var 1) .nil))) (.int 0)) (.bin .add (.int 0) (.var 5))))))), (.bool false), (.un (.wrap .i64) (.bin .add (.var 5) (.int 1)))])))))))
     (.loop 6 [(.int 32), (.un .bytes (.bin .idx (.bin .idx (.fn 103 (.bin .cons (.var 0) (.bin .cons (.var 1) .nil))) (.int 0)) (.bin .add (.int 0) (.var 5))))]
      (.br (.un .not (.bin .le (.un .slen (.bin .idx (.bin .idx (.fn 103 (.bin .cons (.var 0) (.bin .cons (.var 1) .nil))) (.int 0)) (.bin .add (.int 0) (.var 5)))) (.var 6)))
       (.asrt (.bin .le (.int 0) (.var 6))
        (.asrt (.un .not (.bin .le (.un .len (.var 7)) (.bin .add (.int 0) (.var 6))))
         (.leaf [(.un (.wrap .i64) (.bin .add (.var 6) (.int 1))), (.tri .set (.var 7) (.bin .add (.int 0) (.var 6)) (.int 0))])))
       .fail)
      (.br (.un .not (.bin .le (.un .slen (.bin .idx (.bin .idx (.fn 103 (.bin .cons (.var 0) (.bin .cons (.var 1) .nil))) (.int 0)) (.bin .add (.int 0) (.var 5)))) (.var 6)))
       (.asrt (.bin .le (.int 0) (.var 6))
        (.asrt (.un .not (.bin .le (.un .len (.var 7)) (.bin .add (.int 0) (.var 6))))
         .fail))
       (.asrt (.bin .le (.bin .add (.int 0) (.un .slen (.bin .idx (.bin .idx (.fn 103 (.bin .cons (.var 0) (.bin .cons (.var 1) .nil))) (.int 0)) (.bin .add (.int 0) (.var 5))))) (.un .len (.var 7)))
        (.asrt (.bin .le (.bin .add (.un .len (.var 3)) (.int 1)) (.int 4294967296))
         (.br (.var 4)
          (.leaf [(.bin .snoc (.var 3) (.un .str8 (.bin .take (.bin .drop (.var 7) (.int 0)) (.un .slen (.bin .idx (.bin .idx (.fn 103 (.bin .cons (.var 0) (.bin .cons (.var 1) .nil))) (.int 0)) (.bin .add (.int 0) (.var 5))))))), (.bin .eqs (.un .str8 (.bin .take (.bin .drop (.var 7) (.int 0)) (.un .slen (.bin .idx (.bin .idx (.fn 103 (.bin .cons (.var 0) (.bin .cons (.var 1) .nil))) (.int 0)) (.bin .add (.int 0) (.var 5)))))) (.bin .idx (.bin .idx (.fn 103 (.bin .cons (.var 0) (.bin .cons (.var 1) .nil))) (.int 0)) (.bin .add (.int 0) (.var 5)))), (.un (.wrap .i64) (.bin .add (.var 5) (.int 1)))])
          (.leaf [(.bin .snoc (.var 3) (.un .str8 (.bin .take (.bin .drop (.var 7) (.int 0)) (.un .slen (.bin .idx (.bin .idx (.fn 103 (.bin .cons (.var 0) (.bin .cons (.var 1) .nil))) (.int 0)) (.bin .add (.int 0) (.var 5))))))), (.bool false), (.un (.wrap .i64) (.bin .add (.var 5) (.int 1)))])))))))
    .fail)
   (.br (.un .not (.bin .le (.un .len (.bin .idx (.fn 103 (.bin .cons (.var 0) (.bin .cons (.var 1) .nil))) (.int 0))) (.var 5)))
    (.br (.un .not (.bin .le (.un .len (.var 2)) (.var 5)))
     (.asrt (.bin .le (.int 0) (.var 5))
      (.loop 6 [(.tri .ite (.un .not (.bin .le (.un (.wrap .i64) (.bin .idx (.var 2) (.bin .add (.int 0) (.var 5)))) (.int 32))) (.int 32) (.un (.wrap .i64) (.bin .idx (.var 2) (.bin .add (.int 0) (.var 5))))), (.un .bytes (.bin .idx (.bin .idx (.fn 103 (.bin .cons (.var 0) (.bin .cons (.var 1) .nil))) (.int 0)) (.bin .add (.int 0) (.var 5))))]
       (.br (.un .not (.bin .le (.un .slen (.bin .idx (.bin .idx (.fn 103 (.bin .cons (.var 0) (.bin .cons (.var 1) .nil))) (.int 0)) (.bin .add (.int 0) (.var 5)))) (.var 6)))
        (.asrt (.bin .le (.int 0) (.var 6))
         (.asrt (.un .not (.bin .le (.un .len (.var 7)) (.bin .add (.int 0) (.var 6))))
          (.leaf [(.un (.wrap .i64) (.bin .add (.var 6) (.int 1))), (.tri .set (.var 7) (.bin .add (.int 0) (.var 6)) (.int 0))])))
        .fail)
       (.br (.un .not (.bin .le (.un .slen (.bin .idx (.bin .idx (.fn 103 (.bin .cons (.var 0) (.bin .cons (.var 1) .nil))) (.int 0)) (.bin .add (.int 0) (.var 5)))) (.var 6)))
        (.asrt (.bin .le (.int 0) (.var 6))
         (.asrt (.un .not (.bin .le (.un .len (.var 7)) (.bin .add (.int 0) (.var 6))))
          .fail))
        (.asrt (.bin .le (.bin .add (.int 0) (.un .slen (.bin .idx (.bin .idx (.fn 103 (.bin .cons (.var 0) (.bin .cons (.var 1) .nil))) (.int 0)) (.bin .add (.int 0) (.var 5))))) (.un .len (.var 7)))
         (.asrt (.bin .le (.bin .add (.un .len (.var 3)) (.int 1)) (.int 4294967296))
          .fail)))))
     (.loop 6 [(.int 32), (.un .bytes (.bin .idx (.bin .idx (.fn 103 (.bin .cons (.var 0) (.bin .cons (.var 1) .nil))) (.int 0)) (.bin .add (.int 0) (.var 5))))]
      (.br (.un .not (.bin .le (.un .slen (.bin .idx (.bin .idx (.fn 103 (.bin .cons (.var 0) (.bin .cons (.var 1) .nil))) (.int 0)) (.bin .add (.int 0) (.var 5)))) (.var 6)))
       (.asrt (.bin .le (.int 0) (.var 6))
        (.asrt (.un .not (.bin .le (.un .len (.var 7)) (.bin .add (.int 0) (.var 6))))
         (.leaf [(.un (.wrap .i64) (.bin .add (.var 6) (.int 1))), (.tri .set (.var 7) (.bin .add (.int 0) (.var 6)) (.int 0))])))
       .fail)
      (.br (.un .not (.bin .le (.un .slen (.bin .idx (.bin .idx (.fn 103 (.bin .cons (.var 0) (.bin .cons (.var 1) .nil))) (.int 0)) (.bin .add (.int 0) (.var 5)))) (.var 6)))
       (.asrt (.bin .le (.int 0) (.var 6))
        (.asrt (.un .not (.bin .le (.un .len (.var 7)) (.bin .add (.int 0) (.var 6))))
         .fail))
       (.asrt (.bin .le (.bin .add (.int 0) (.un .slen (.bin .idx (.bin .idx (.fn 103 (.bin .cons (.var 0) (.bin .cons (.var 1) .nil))) (.int 0)) (.bin .add (.int 0) (.var 5))))) (.un .len (.var 7)))
        (.asrt (.bin .le (.bin .add (.un .len (.var 3)) (.int 1)) (.int 4294967296))
         .fail)))))
    (.asrt (.bin .le (.un .len (.var 3)) (.int 1000))
     (.br (.var 4)
      (.br (.bin .idx (.fn 112 .nil) (.int 0))
       (.br (.bin .eq (.bin .idx (.fn 105 (.bin .cons (.var 3) (.bin .cons (.int 0) .nil))) (.int 3)) (.int 0))
        (.br (.bin .eq (.bin .idx (.fn 105 (.bin .cons (.var 3) (.bin .cons (.int 0) .nil))) (.int 2)) (.un .len (.bin .idx (.fn 103 (.bin .cons (.var 0) (.bin .cons (.var 1) .nil))) (.int 0))))
         (.asrt (.bin .le (.un .len (.bin .idx (.fn 105 (.bin .cons (.var 3) (.bin .cons (.int 0) .nil))) (.int 1))) (.int 1000000))
          (.leaf [(.bin .idx (.fn 113 (.bin .cons (.bin .idx (.fn 105 (.bin .cons (.var 3) (.bin .cons (.int 0) .nil))) (.int 0)) (.bin .cons (.bin .idx (.fn 105 (.bin .cons (.var 3) (.bin .cons (.int 0) .nil))) (.int 1)) (.bin .cons (.var 0) (.bin .cons (.var 1) .nil))))) (.int 0))]))
         (.leaf [(.bool false)]))
        (.leaf [(.bool false)]))
       (.leaf [(.bool false)]))
      (.br (.bin .idx (.fn 112 .nil) (.int 0))
       (.br (.bin .eq (.bin .idx (.fn 105 (.bin .cons (.var 3) (.bin .cons (.int 0) .nil))) (.int 3)) (.int 11))
        (.leaf [(.bin .eq (.bin .idx (.fn 105 (.bin .cons (.var 3) (.bin .cons (.int 0) .nil))) (.int 2)) (.int 0))])
        (.leaf [(.bool false)]))
       (.leaf [(.bool false)]))))))))

def walTornSm : List (Nat × Smy) := [(9, ⟨112, [], [.one (.pl .bool)], fun _ => [], none⟩), (12, ⟨103, [.agg [.pl (.int .i64), .rows false [.int .i64, .int .i64]]], [.one (.rows true [.str])], lenC [(1, 40)], none⟩), (30, ⟨114, [.agg [.pl (.int .i64), .rows false [.int .i64, .int .i64]]], [.one (.pl .bool)], lenC [(1, 9223372036854775807)], none⟩), (17, ⟨105, [.one (.rows false [.str]), .one (.pl (.int .i64))], [.agg [.pl (.int .i64), .rows true [.int .i64, .int .i64]], .one (.pl (.int .i64)), .one (.pl (.int .i64))], lenC [(0, 1000)], none⟩), (21, ⟨113, [.agg [.pl (.int .i64), .rows false [.int .i64, .int .i64]], .agg [.pl (.int .i64), .rows false [.int .i64, .int .i64]]], [.one (.pl .bool)], lenC [(1, 1000000), (3, 1000000)], none⟩)]
def walTornLa : List (LK × LA) := [(⟨108, 16, 9, 6⟩, ⟨[(13, (.int .i64 (.var 6))), (52, .any), (53, .any), (54, .any), (55, .any), (56, .any), (57, .any), (58, .any), (59, .any), (60, .any)], [(8, (.rows [.int .u8] (.var 7)))], [], 2, 0⟩),
  (⟨108, 9, 7, 3⟩, ⟨[(8, (.sl 7 1 (.int 0) (.un .len (.var 3)) none)), (9, (.bool (.var 4))), (10, (.int .i64 (.var 5))), (11, .any), (12, .any), (13, .any), (30, .any), (31, .any), (32, .any), (33, .any), (34, .any), (35, .any), (36, .any), (37, .any), (38, .any), (39, .any), (40, .any), (41, .any), (42, .any), (43, .any), (44, .any), (45, .any), (46, .any), (47, .any), (48, .any), (49, .any), (50, .any), (51, .any), (52, .any), (53, .any), (54, .any), (55, .any), (56, .any), (57, .any), (58, .any), (59, .any), (60, .any), (61, .any), (62, .any), (63, .any), (64, .any), (65, .any), (66, .any), (67, .any), (68, .any), (69, .any), (70, .any), (71, .any), (72, .any), (73, .any), (74, .any), (75, .any)], [(7, (.rows [.str] (.var 3)))], [], 3, 1⟩)]
def walTornPhi : Nat → DV → DV := fun n d => match n with
  | 112 => .list (lSane23F d.l)
  | 103 => .list (wRecordF d.l)
  | 114 => .list (rValidF d.l)
  | 105 => .list (wParseF d.l)
  | 113 => .list (rOneF d.l)
  | _ => d
theorem walTornS : SmyOk Tryd.prog walTornPhi walTornSm := (smy_cons (fun _ => True) lSane23F lSane23_pure (fun _ _ _ _ => trivial) (fun _ => rfl) (fun _ h => by cases h) (smy_cons (lenP [(1, 40)]) wRecordF wRecord_pure (len_hp [(1, 40)]) (fun _ => rfl) (fun _ h => by cases h) (smy_cons (lenP [(1, 9223372036854775807)]) rValidF rValid_pure (len_hp [(1, 9223372036854775807)]) (fun _ => rfl) (fun _ h => by cases h) (smy_cons (lenP [(0, 1000)]) wParseF wParse_pure (len_hp [(0, 1000)]) (fun _ => rfl) (fun _ h => by cases h) (smy_cons (lenP [(1, 1000000), (3, 1000000)]) rOneF rOne_pure (len_hp [(1, 1000000), (3, 1000000)]) (fun _ => rfl) (fun _ h => by cases h) smy_nil)))))
theorem walTornT : treeOk ⟨Tryd.prog, walTornSm, walTornLa⟩ 4000 7 [.agg [.pl (.int .i64), .rows false [.int .i64, .int .i64]], .one (.rows false [.int .u8])] [.one (.pl .bool)] (rng 0 9223372036854775807 (.un .len (.var 1)) ++ (rng 0 9223372036854775807 (.un .len (.var 2)) ++ ([]))) walTornTree = true := by decide +kernel
set_option maxHeartbeats 1000000 in
theorem walTorn_pure : Pure Tryd.prog 7 [.agg [.pl (.int .i64), .rows false [.int .i64, .int .i64]], .one (.rows false [.int .u8])] [.one (.pl .bool)] (Wts (clsOf [.agg [.pl (.int .i64), .rows false [.int .i64, .int .i64]], .one (.rows false [.int .u8])])) walTornF := by
  refine pure_tree (X := ⟨Tryd.prog, walTornSm, walTornLa⟩) (Checked.mixed Tryd.checked) walTornS (by decide +kernel) (by decide +kernel) walTornT (by decide +kernel) ?_
  intro ds hl hp
  obtain ⟨d0, d1, d2, rfl⟩ := len3 hl
  obtain ⟨_, _, he, w0, hp⟩ := hp
  cases he
  have r0 : -9223372036854775808 ≤ d0.i ∧ d0.i ≤ 9223372036854775807 := wt_i w0 rfl rfl
  clear w0
  obtain ⟨_, _, he, w1, hp⟩ := hp
  cases he
  have b1 : ((d1.l.map decii).length : Int) ≤ 9223372036854775807 := by rw [List.length_map]; exact wt_len w1
  have v1 := wt_ii w1
  clear w1
  obtain ⟨_, _, he, w2, hp⟩ := hp
  cases he
  have b2 : ((d2.l.map DV.i).length : Int) ≤ 9223372036854775807 := by rw [List.length_map]; exact wt_len w2
  have v2 : ∀ v ∈ d2.l.map DV.i, 0 ≤ v ∧ v ≤ 255 := wt_ints w2 rfl rfl
  clear w2
  have hN : nrmL (clsOf [.agg [.pl (.int .i64), .rows false [.int .i64, .int .i64]], .one (.rows false [.int .u8])]) [d0, d1, d2] = [.int d0.i, .list ((d1.l.map decii).map encii), .list ((d2.l.map DV.i).map DV.int)] := by
    simp only [clsOf, Sh.cls, List.append_nil, List.cons_append, List.nil_append, nrmL, Cl.nrm, CK.nrm, map_Li, map_Lii]
  have hF : walTornF [d0, d1, d2] = [.bool true] := rfl
  rw [hN, hF]
  clear hN hp hl hF
  generalize d0.i = x0 at r0 ⊢
  generalize d1.l.map decii = x1 at b1 v1 ⊢
  generalize d2.l.map DV.i = x2 at b2 v2 ⊢
  refine ⟨(rng_ok (e := .un .len (.var 1)) (Int.natCast_nonneg _) (by show ((x1.map _).length : Int) ≤ _; rw [List.length_map]; exact b1) (rng_ok (e := .un .len (.var 2)) (Int.natCast_nonneg _) (by show ((x2.map _).length : Int) ≤ _; rw [List.length_map]; exact b2) (facts_nil _))), ?_⟩
  unfold walTornTree
  simp only [Sat, clsOf, Sh.cls, List.append_nil, List.cons_append, List.nil_append, nrmL, Cl.nrm, CK.nrm, List.map_cons, List.map_nil, List.length_cons, List.length_nil, List.cons.injEq, DV.bool.injEq, DV.int.injEq, DV.list.injEq, DV.str.injEq, and_true, true_and]
  simp only [q_le, q_eq, q_eqs, q_eqb, q_and, q_or, q_not, q_bool, iff_true, iff_false, Bool.not_true, Bool.not_false, Bool.false_eq_true, Bool.true_eq_false, eq_self, Bool.not_not]
  simp only [Bool.not_true, Bool.not_false, Bool.true_eq_false, SE.den, evU, evT, ev_le, ev_eq, ev_eqs, ev_eqb, ev_slt, ev_and, ev_or, ev_add, ev_sub, ev_mul, ev_tdiv, ev_tmod, ev_band, ev_bor, ev_bxor, ev_bandn, ev_shl, ev_shr, ev_cat, ev_byte, ev_idx, ev_cons, ev_snoc, ev_app, ev_take, ev_drop, ev_stake, ev_sdrop, ev_rep, leB_q, eqB_q, eqsB_q, not_q, i_if, b_if, l_if, s_if, i_int, b_bool, s_str, l_list, envL, List.getElem?_cons_succ, List.getElem?_cons_zero, List.getElem?_nil, Option.getD_some, Option.getD_none, Int.toNat_natCast, Int.toNat_zero, Int.reduceToNat, List.length_map, get_Li, get_Lb, get_Ls, set_Li, inj_Li, inj_Lb, inj_Ls, rows_i, rows_b, rows_s, Int.zero_add, iff_true, iff_false, and_true, true_and, Bool.false_eq_true, eq_self, not_true_eq_false, not_false_eq_true, List.length_replicate, DV.int.injEq, DV.bool.injEq, DV.str.injEq, DV.list.injEq, List.cons.injEq, f_ii_0, rows_ii, inj_Lii, f_ii_1, rows_ii, inj_Lii, walTornPhi, lSane23F, lSane23E, wRecordF, wRecordE, rValidF, rValidE, wParseF, wParseE, rOneF, rOneE, gi, gb, gs, gLi, gLu, gLb, gLs, dece_i, dece_b, dece_s, gLii, deces_ii, lSane23E]
  have hw : rgeW x1 := fun x hx => v1 x hx
  refine ⟨fun _ => trivial, fun h1 => ⟨fun _ => trivial, fun hv => ?_⟩⟩
  have hsec := record_secs hv hw
  have hle := record_le x0 hw
  have hge : 1 ≤ (recordM x0 x1).length := by rw [record_len hv]; exact (body_len hv hw).2.1
  have hpr := parse_record hv hw [] []
  have hpt := fun l => parse_torn hv hw (l := l)
  have h32 : ∀ i, i < (recordM x0 x1).length → ((recordM x0 x1)[i]?.getD []).length = 32 := fun i hi => by
    rw [List.getElem?_eq_getElem hi]
    exact hsec _ (List.getElem_mem hi)
  generalize recordM x0 x1 = R at *
  refine rounds_at R.length (fun i => [.list ((tornL R x2 i).map .str), .bool (decide (tornL R x2 i = R.take i)), .int i]) rfl (fun _ => rfl) (fun i hi => ?_) ?_
  · rw [torn_eq R x2 i hi, torn_succ]
    have h32i := h32 i hi
    have htl := torn_len R x2 i
    generalize hs : R[i]?.getD [] = s at h32i ⊢
    have e1 : ¬ (R.length : Int) ≤ i := by omega
    have e32 : (s.length : Int) = 32 := by omega
    have hwi : IntKind.i64.wrap ((i : Int) + 1) = ((i + 1 : Nat) : Int) := by rw [w64 (by omega) (by omega)]; omega
    simp only [Bool.not_true, Bool.not_false, Bool.true_eq_false, SE.den, evU, evT, ev_le, ev_eq, ev_eqs, ev_eqb, ev_slt, ev_and, ev_or, ev_add, ev_sub, ev_mul, ev_tdiv, ev_tmod, ev_band, ev_bor, ev_bxor, ev_bandn, ev_shl, ev_shr, ev_cat, ev_byte, ev_idx, ev_cons, ev_snoc, ev_app, ev_take, ev_drop, ev_stake, ev_sdrop, ev_rep, leB_q, eqB_q, eqsB_q, not_q, i_if, b_if, l_if, s_if, i_int, b_bool, s_str, l_list, envL, List.getElem?_cons_succ, List.getElem?_cons_zero, List.getElem?_nil, Option.getD_some, Option.getD_none, Int.toNat_natCast, Int.toNat_zero, Int.reduceToNat, List.length_map, get_Li, get_Lb, get_Ls, set_Li, inj_Li, inj_Lb, inj_Ls, rows_i, rows_b, rows_s, Int.zero_add, iff_true, iff_false, and_true, true_and, Bool.false_eq_true, eq_self, not_true_eq_false, not_false_eq_true, List.length_replicate, DV.int.injEq, DV.bool.injEq, DV.str.injEq, DV.list.injEq, List.cons.injEq, f_ii_0, rows_ii, inj_Lii, f_ii_1, rows_ii, inj_Lii, walTornPhi, lSane23F, lSane23E, wRecordF, wRecordE, rValidF, rValidE, wParseF, wParseE, rOneF, rOneE, gi, gb, gs, gLi, gLu, gLb, gLs, dece_i, dece_b, dece_s, gLii, deces_ii, hs, e32, hwi]
    have hfin : ∀ c : Nat, List.map (fun d : DV => UInt8.ofNat d.i.toNat) (List.take s.length (List.drop 0 (List.map DV.int (bytesN (cutM c s))))) = cutM c s := fun c => by
      rw [List.drop_zero, List.take_of_length_le (by rw [List.length_map, bytes_len, cut_len]; omega), str8_Li, str_bytes]
    refine ⟨fun _ => ⟨fun hx => ⟨by omega, rfl, ?_⟩, fun hx => ⟨rfl, ?_⟩⟩, fun h => absurd h e1⟩
    · have hv2 : 0 ≤ x2[i]?.getD 0 ∧ x2[i]?.getD 0 ≤ 255 := by
        rw [List.getElem?_eq_getElem (by omega)]
        exact v2 _ (List.getElem_mem _)
      have hwx : IntKind.i64.wrap (x2[i]?.getD 0) = x2[i]?.getD 0 := w64 (by omega) (by omega)
      have hc : cutAt x2 i ≤ 32 := by unfold cutAt; split <;> omega
      have hc2 : (cutAt x2 i : Int) = if x2[i]?.getD 0 ≤ 32 then x2[i]?.getD 0 else 32 := by unfold cutAt; rw [if_pos (by omega)]; split <;> omega
      refine rounds_head (Y := .int (cutAt x2 i)) ?_ ?_
      · rw [hc2]
        by_cases hh : x2[i]?.getD 0 ≤ 32
        · rw [if_pos hh]
          refine (ite_F (fun h => h (by rw [hwx]; exact hh))).trans ?_
          rw [hwx]
        · rw [if_neg hh]
          exact ite_T (by rw [hwx]; exact hh)
      generalize cutAt x2 i = c at hc ⊢
      refine torn_loop (c := c) h32i hc (fun k b hk hb => ?_) ?_
      · simp only [Bool.not_true, Bool.not_false, Bool.true_eq_false, SE.den, evU, evT, ev_le, ev_eq, ev_eqs, ev_eqb, ev_slt, ev_and, ev_or, ev_add, ev_sub, ev_mul, ev_tdiv, ev_tmod, ev_band, ev_bor, ev_bxor, ev_bandn, ev_shl, ev_shr, ev_cat, ev_byte, ev_idx, ev_cons, ev_snoc, ev_app, ev_take, ev_drop, ev_stake, ev_sdrop, ev_rep, leB_q, eqB_q, eqsB_q, not_q, i_if, b_if, l_if, s_if, i_int, b_bool, s_str, l_list, envL, List.getElem?_cons_succ, List.getElem?_cons_zero, List.getElem?_nil, Option.getD_some, Option.getD_none, Int.toNat_natCast, Int.toNat_zero, Int.reduceToNat, List.length_map, get_Li, get_Lb, get_Ls, set_Li, inj_Li, inj_Lb, inj_Ls, rows_i, rows_b, rows_s, Int.zero_add, iff_true, iff_false, and_true, true_and, Bool.false_eq_true, eq_self, not_true_eq_false, not_false_eq_true, List.length_replicate, DV.int.injEq, DV.bool.injEq, DV.str.injEq, DV.list.injEq, List.cons.injEq, f_ii_0, rows_ii, inj_Lii, f_ii_1, rows_ii, inj_Lii, walTornPhi, lSane23F, lSane23E, wRecordF, wRecordE, rValidF, rValidE, wParseF, wParseE, rOneF, rOneE, gi, gb, gs, gLi, gLu, gLb, gLs, dece_i, dece_b, dece_s, gLii, deces_ii, List.cons_append, List.nil_append, hs, e32, w64 (n := (k : Int) + 1) (by omega) (by omega)]
        exact ⟨fun _ => ⟨by omega, by omega, by omega⟩, fun h => absurd h (by omega)⟩
      · have hbl : (bytesN (cutM c s)).length = 32 := by rw [bytes_len, cut_len, h32i]
        simp only [Bool.not_true, Bool.not_false, Bool.true_eq_false, SE.den, evU, evT, ev_le, ev_eq, ev_eqs, ev_eqb, ev_slt, ev_and, ev_or, ev_add, ev_sub, ev_mul, ev_tdiv, ev_tmod, ev_band, ev_bor, ev_bxor, ev_bandn, ev_shl, ev_shr, ev_cat, ev_byte, ev_idx, ev_cons, ev_snoc, ev_app, ev_take, ev_drop, ev_stake, ev_sdrop, ev_rep, leB_q, eqB_q, eqsB_q, not_q, i_if, b_if, l_if, s_if, i_int, b_bool, s_str, l_list, envL, List.getElem?_cons_succ, List.getElem?_cons_zero, List.getElem?_nil, Option.getD_some, Option.getD_none, Int.toNat_natCast, Int.toNat_zero, Int.reduceToNat, List.length_map, get_Li, get_Lb, get_Ls, set_Li, inj_Li, inj_Lb, inj_Ls, rows_i, rows_b, rows_s, Int.zero_add, iff_true, iff_false, and_true, true_and, Bool.false_eq_true, eq_self, not_true_eq_false, not_false_eq_true, List.length_replicate, DV.int.injEq, DV.bool.injEq, DV.str.injEq, DV.list.injEq, List.cons.injEq, f_ii_0, rows_ii, inj_Lii, f_ii_1, rows_ii, inj_Lii, walTornPhi, lSane23F, lSane23E, wRecordF, wRecordE, rValidF, rValidE, wParseF, wParseE, rOneF, rOneE, gi, gb, gs, gLi, gLu, gLb, gLs, dece_i, dece_b, dece_s, gLii, deces_ii, List.cons_append, List.nil_append, hs, e32, hwi, hfin, snoc_Ls, hbl]
        refine ⟨fun h => absurd (by omega) h, fun _ => ⟨by omega, by omega, fun hd => ?_, fun hd => ?_⟩⟩
        · rw [hd]; simp
        · rw [hd]; simp
    · have hc : cutAt x2 i = 32 := by unfold cutAt; rw [if_neg (by omega)]
      rw [hc]
      refine torn_loop (c := 32) h32i (by omega) (fun k b hk hb => ?_) ?_
      · simp only [Bool.not_true, Bool.not_false, Bool.true_eq_false, SE.den, evU, evT, ev_le, ev_eq, ev_eqs, ev_eqb, ev_slt, ev_and, ev_or, ev_add, ev_sub, ev_mul, ev_tdiv, ev_tmod, ev_band, ev_bor, ev_bxor, ev_bandn, ev_shl, ev_shr, ev_cat, ev_byte, ev_idx, ev_cons, ev_snoc, ev_app, ev_take, ev_drop, ev_stake, ev_sdrop, ev_rep, leB_q, eqB_q, eqsB_q, not_q, i_if, b_if, l_if, s_if, i_int, b_bool, s_str, l_list, envL, List.getElem?_cons_succ, List.getElem?_cons_zero, List.getElem?_nil, Option.getD_some, Option.getD_none, Int.toNat_natCast, Int.toNat_zero, Int.reduceToNat, List.length_map, get_Li, get_Lb, get_Ls, set_Li, inj_Li, inj_Lb, inj_Ls, rows_i, rows_b, rows_s, Int.zero_add, iff_true, iff_false, and_true, true_and, Bool.false_eq_true, eq_self, not_true_eq_false, not_false_eq_true, List.length_replicate, DV.int.injEq, DV.bool.injEq, DV.str.injEq, DV.list.injEq, List.cons.injEq, f_ii_0, rows_ii, inj_Lii, f_ii_1, rows_ii, inj_Lii, walTornPhi, lSane23F, lSane23E, wRecordF, wRecordE, rValidF, rValidE, wParseF, wParseE, rOneF, rOneE, gi, gb, gs, gLi, gLu, gLb, gLs, dece_i, dece_b, dece_s, gLii, deces_ii, List.cons_append, List.nil_append, hs, e32, w64 (n := (k : Int) + 1) (by omega) (by omega)]
        exact ⟨fun _ => ⟨by omega, by omega, by omega⟩, fun h => absurd h (by omega)⟩
      · have hbl : (bytesN (cutM 32 s)).length = 32 := by rw [bytes_len, cut_len, h32i]
        simp only [Bool.not_true, Bool.not_false, Bool.true_eq_false, SE.den, evU, evT, ev_le, ev_eq, ev_eqs, ev_eqb, ev_slt, ev_and, ev_or, ev_add, ev_sub, ev_mul, ev_tdiv, ev_tmod, ev_band, ev_bor, ev_bxor, ev_bandn, ev_shl, ev_shr, ev_cat, ev_byte, ev_idx, ev_cons, ev_snoc, ev_app, ev_take, ev_drop, ev_stake, ev_sdrop, ev_rep, leB_q, eqB_q, eqsB_q, not_q, i_if, b_if, l_if, s_if, i_int, b_bool, s_str, l_list, envL, List.getElem?_cons_succ, List.getElem?_cons_zero, List.getElem?_nil, Option.getD_some, Option.getD_none, Int.toNat_natCast, Int.toNat_zero, Int.reduceToNat, List.length_map, get_Li, get_Lb, get_Ls, set_Li, inj_Li, inj_Lb, inj_Ls, rows_i, rows_b, rows_s, Int.zero_add, iff_true, iff_false, and_true, true_and, Bool.false_eq_true, eq_self, not_true_eq_false, not_false_eq_true, List.length_replicate, DV.int.injEq, DV.bool.injEq, DV.str.injEq, DV.list.injEq, List.cons.injEq, f_ii_0, rows_ii, inj_Lii, f_ii_1, rows_ii, inj_Lii, walTornPhi, lSane23F, lSane23E, wRecordF, wRecordE, rValidF, rValidE, wParseF, wParseE, rOneF, rOneE, gi, gb, gs, gLi, gLu, gLb, gLs, dece_i, dece_b, dece_s, gLii, deces_ii, List.cons_append, List.nil_append, hs, e32, hwi, hfin, snoc_Ls, hbl]
        refine ⟨fun h => absurd (by omega) h, fun _ => ⟨by omega, by omega, fun hd => ?_, fun hd => ?_⟩⟩
        · rw [hd]; simp
        · rw [hd]; simp
  · rw [List.take_length]
    simp only [Bool.not_true, Bool.not_false, Bool.true_eq_false, SE.den, evU, evT, ev_le, ev_eq, ev_eqs, ev_eqb, ev_slt, ev_and, ev_or, ev_add, ev_sub, ev_mul, ev_tdiv, ev_tmod, ev_band, ev_bor, ev_bxor, ev_bandn, ev_shl, ev_shr, ev_cat, ev_byte, ev_idx, ev_cons, ev_snoc, ev_app, ev_take, ev_drop, ev_stake, ev_sdrop, ev_rep, leB_q, eqB_q, eqsB_q, not_q, i_if, b_if, l_if, s_if, i_int, b_bool, s_str, l_list, envL, List.getElem?_cons_succ, List.getElem?_cons_zero, List.getElem?_nil, Option.getD_some, Option.getD_none, Int.toNat_natCast, Int.toNat_zero, Int.reduceToNat, List.length_map, get_Li, get_Lb, get_Ls, set_Li, inj_Li, inj_Lb, inj_Ls, rows_i, rows_b, rows_s, Int.zero_add, iff_true, iff_false, and_true, true_and, Bool.false_eq_true, eq_self, not_true_eq_false, not_false_eq_true, List.length_replicate, DV.int.injEq, DV.bool.injEq, DV.str.injEq, DV.list.injEq, List.cons.injEq, f_ii_0, rows_ii, inj_Lii, f_ii_1, rows_ii, inj_Lii, walTornPhi, lSane23F, lSane23E, wRecordF, wRecordE, rValidF, rValidE, wParseF, wParseE, rOneF, rOneE, gi, gb, gs, gLi, gLu, gLb, gLs, dece_i, dece_b, dece_s, gLii, deces_ii, dece_s]
    refine ⟨fun h => absurd (Int.le_refl _) h, fun _ => ?_⟩
    clear v2
    have hl : (tornL R x2 R.length).length = R.length := torn_len R x2 R.length
    have hpr' : parseM R 0 = some ((x0, x1), R.length) := by simpa using hpr
    have hone : oneM23 x0 x1 x0 x1 = true := by unfold oneM23; simp
    by_cases hd : tornL R x2 R.length = R
    · rw [hd, hpr']
      simp only [parse4, Bool.not_true, Bool.not_false, Bool.true_eq_false, SE.den, evU, evT, ev_le, ev_eq, ev_eqs, ev_eqb, ev_slt, ev_and, ev_or, ev_add, ev_sub, ev_mul, ev_tdiv, ev_tmod, ev_band, ev_bor, ev_bxor, ev_bandn, ev_shl, ev_shr, ev_cat, ev_byte, ev_idx, ev_cons, ev_snoc, ev_app, ev_take, ev_drop, ev_stake, ev_sdrop, ev_rep, leB_q, eqB_q, eqsB_q, not_q, i_if, b_if, l_if, s_if, i_int, b_bool, s_str, l_list, envL, List.getElem?_cons_succ, List.getElem?_cons_zero, List.getElem?_nil, Option.getD_some, Option.getD_none, Int.toNat_natCast, Int.toNat_zero, Int.reduceToNat, List.length_map, get_Li, get_Lb, get_Ls, set_Li, inj_Li, inj_Lb, inj_Ls, rows_i, rows_b, rows_s, Int.zero_add, iff_true, iff_false, and_true, true_and, Bool.false_eq_true, eq_self, not_true_eq_false, not_false_eq_true, List.length_replicate, DV.int.injEq, DV.bool.injEq, DV.str.injEq, DV.list.injEq, List.cons.injEq, f_ii_0, rows_ii, inj_Lii, f_ii_1, rows_ii, inj_Lii, walTornPhi, lSane23F, lSane23E, wRecordF, wRecordE, rValidF, rValidE, wParseF, wParseE, rOneF, rOneE, gi, gb, gs, gLi, gLu, gLb, gLs, dece_i, dece_b, dece_s, gLii, deces_ii, deces_ii]
      refine ⟨by omega, fun _ => ⟨fun _ => ⟨fun _ => ⟨fun _ => ⟨by omega, hone⟩, fun h => h.elim⟩, fun h => h.elim⟩, fun h => h⟩, fun h => ?_⟩
      simp at h
    · rw [hpt _ hl (fun i hi => ⟨_, torn_at R x2 (by omega)⟩) hd]
      simp only [parse4, Bool.not_true, Bool.not_false, Bool.true_eq_false, SE.den, evU, evT, ev_le, ev_eq, ev_eqs, ev_eqb, ev_slt, ev_and, ev_or, ev_add, ev_sub, ev_mul, ev_tdiv, ev_tmod, ev_band, ev_bor, ev_bxor, ev_bandn, ev_shl, ev_shr, ev_cat, ev_byte, ev_idx, ev_cons, ev_snoc, ev_app, ev_take, ev_drop, ev_stake, ev_sdrop, ev_rep, leB_q, eqB_q, eqsB_q, not_q, i_if, b_if, l_if, s_if, i_int, b_bool, s_str, l_list, envL, List.getElem?_cons_succ, List.getElem?_cons_zero, List.getElem?_nil, Option.getD_some, Option.getD_none, Int.toNat_natCast, Int.toNat_zero, Int.reduceToNat, List.length_map, get_Li, get_Lb, get_Ls, set_Li, inj_Li, inj_Lb, inj_Ls, rows_i, rows_b, rows_s, Int.zero_add, iff_true, iff_false, and_true, true_and, Bool.false_eq_true, eq_self, not_true_eq_false, not_false_eq_true, List.length_replicate, DV.int.injEq, DV.bool.injEq, DV.str.injEq, DV.list.injEq, List.cons.injEq, f_ii_0, rows_ii, inj_Lii, f_ii_1, rows_ii, inj_Lii, walTornPhi, lSane23F, lSane23E, wRecordF, wRecordE, rValidF, rValidE, wParseF, wParseE, rOneF, rOneE, gi, gb, gs, gLi, gLu, gLb, gLs, dece_i, dece_b, dece_s, gLii, deces_ii, deces_ii]
      refine ⟨by omega, fun h => absurd (of_decide_eq_true h) hd, fun _ => ⟨fun _ => ⟨fun _ => trivial, fun h => h.elim⟩, fun h => h⟩⟩
namespace row
open Go.ChangeShapes Go.WideShapes Go.ChangeAt Go.RowKit Go.Joins Go.Deep Go.Proofs.YthfiphbjdenkbaaDoor
theorem lifted (os : Os) (started : os.Started) (H : Type) (enc : TypeId × Value → H) :
    ReturnsInHanded {} Tryd.checked os 7 .any (fun w args => (Rows.walTornSpec.pre enc Tryd.prog Tryd.f7 [] false w args ∧ laidMetH Tryd.prog Rows.walTornRow.laid w) ∧ sizedMet enc Tryd.prog Tryd.f7 (OpenSpec.ofChange Rows.walTornSpec) false w args) (Rows.walTornSpec.post enc Tryd.prog Tryd.f7 false true false false) := by
  refine returnsInHanded_of_change_and (C := Tryd.checked) (X := fun w _ => laidMetH Tryd.prog Rows.walTornRow.laid w) (fun _ _ _ hh h => h.of_heap hh) own started (by kernel_rfl) Tryd.func7
    (ChangeSpec.witness_shaped (enc := enc) (C := Tryd.checked) (os := os) (X := fun w _ => laidMetH Tryd.prog Rows.walTornRow.laid w) false (World.laidAll Tryd.prog os Rows.walTornRow.laid) #[.agg #[.int .i64 0, .slice none 0 0], .slice none 0 0] 8 (World.laidAll_os _ _ _)
      (World.shaped_of_ZipB (by kernel_rfl) (by kernel_rfl)) (by kernel_rfl) (by kernel_rfl) (by kernel_rfl)
      (by rw [MakeChecks.laidMetH_plain _ _ _ (by kernel_rfl)]; exact laidMet_laidAll _ (by kernel_rfl) (by kernel_rfl))) ?_
  intro W base args ds gs before hval0 hW hcnd _ _ _
  have hval : ∀ (j : Nat) t v, Tryd.f7.params[j]? = some t → args[j]? = some v → Value.okWide Tryd.prog W .any base t v := hval0
  have hW' := hW
  obtain ⟨p, q, hA0, hV, rfl, hfz, hnd⟩ := hW
  have hA : DataW.TrodAll enc Tryd.prog W 0 (fun _ => true) true Tryd.f7.params.toList args.toList ds p := hA0
  have hval2 : ∀ (j : Nat) t v, Tryd.f7.params.toList[j]? = some t → args.toList[j]? = some v → Value.okWide Tryd.prog W .any base t v := fun j t v a b => hval j t v (by simpa using a) (by simpa using b)
  have hcall := law_of walTorn_pure (fun _ h => h) (by rw [Tryd.params7]; kernel_rfl) hA hval2
  rw [Tryd.params7] at hA
  obtain ⟨v0, vs0, d0, ds0, p0, q0, hargs, rfl, rfl, h0, r0⟩ := trodAll_cons hA
  obtain ⟨v1, vs1, d1, ds1, p1, q1, rfl, rfl, rfl, h1, r1⟩ := trodAll_cons r0
  obtain ⟨rfl, rfl, rfl⟩ := trodAll_nil r1
  obtain rfl : args = #[v0, v1] := by cases args; simp_all
  obtain ⟨rfl, rfl⟩ := trodVars_none hV
  have lt0 : ∀ x ∈ p0, x.block < W.heap.size := by obtain ⟨m, hm⟩ := h0; exact DataW.trod_lt m _ _ _ hm
  have lt1 : ∀ x ∈ p1, x.block < W.heap.size := by obtain ⟨m, hm⟩ := h1; exact DataW.trod_lt m _ _ _ hm
  clear hA0 hval0 hval2
  refine Calls.mono hcall fun e W' ⟨he, bel⟩ => ?_
  subst he
  exact ⟨_, rfl, _, _, _, [], _, [], hW', trodAll_mk1 (shut_bool Tryd.underlying4 _), (trodAll_cons_mk (Below.trod laidOut (by kernel_rfl) (of_decide_eq_true (by kernel_rfl)) h0 bel lt0) (trodAll_cons_mk (Below.trod laidOut (by kernel_rfl) (of_decide_eq_true (by kernel_rfl)) h1 bel lt1) trodAll_mk0)), rfl, bel.frame _, fun h => by cases h⟩
theorem over : Rows.walTornRow.holds Tryd.pinned (OpenSpec.ofChange Rows.walTornSpec) :=
  OpenClaim.holds_of_wide 7 Tryd.f7 rfl rfl rfl rfl rfl rfl rfl ⟨rfl, rfl, rfl, rfl, rfl⟩ rfl rfl rfl rfl rfl (by kernel_rfl) Tryd.func7 (by kernel_rfl)
    (of_decide_eq_true (by kernel_rfl)) (by unfold Func.isWrapper; first | (rw [if_pos (by decide +kernel)]; kernel_rfl) | (rw [if_neg (by decide +kernel)]; exact ⟨rfl, rfl⟩))
    (fun os started H enc _ => lifted os started H enc)
end row
theorem walTorn_proved : Rows.WalTornCardSaid :=
  Claim7.holds_tied_plain_at .later [] [.data, .pinned] true _ false row.over (fun _ h => by cases h) (by kernel_rfl) (fun _ h => by cases h) walTorn_row_tie rfl ⟨rfl, rfl⟩ (by kernel_rfl) rfl
    (fun f fn hf hfn => by
      obtain rfl : f = 7 := Option.some.inj ((show Tryd.prog.funcNamed Rows.walTornRow.func = some 7 by kernel_rfl).symm.trans hf) |>.symm
      obtain rfl : fn = Tryd.f7 := (Option.some.inj (Tryd.func7.symm.trans hfn)).symm
      exact ⟨by kernel_rfl, fun j t ht => by
        have hm : t ∈ Tryd.f7.params.toList := by simpa using Array.mem_of_getElem? ht
        have hall : (Tryd.f7.params.toList.all fun u => !Tryd.prog.wantsStandIn u) = true := by kernel_rfl
        exact (show Tryd.prog.wantsStandIn t = false by simpa using List.all_eq_true.1 hall t hm)⟩)
    (by kernel_rfl)
end Go.Proofs.YthfiphbjdenkbaaDoor
