/- DiskMatchesSpec: the law returns true for every input, and each argument reads afterwards as it read before. No condition. -/
import Derived.Test.YtljocjljkilkjaaDSane
import Derived.Test.YtljocjljkilkjaaRFew
import Derived.Test.YtljocjljkilkjaaDNew
import Derived.Test.YtljocjljkilkjaaRDNew
import Derived.Test.YtljocjljkilkjaaDRight
import Derived.Test.YtljocjljkilkjaaRDRight
import Derived.Test.YtljocjljkilkjaaDSame
import Derived.Test.YtljocjljkilkjaaRDSame
import Derived.Test.YtljocjljkilkjaaDRead
import Derived.Test.YtljocjljkilkjaaRDRead
import Derived.Test.YtljocjljkilkjaaDWrite
import Derived.Test.YtljocjljkilkjaaRDWrite
import Derived.Test.YtljocjljkilkjaaDSync
import Derived.Test.YtljocjljkilkjaaRDSync
import Derived.Test.YtljocjljkilkjaaDCrash
import Derived.Test.YtljocjljkilkjaaRCrash
import Derived.Test.YtljocjljkilkjaaBd
import Derived.Test.YtljocjljkilkjaaOpen
namespace Go.Proofs.Ytljocjljkilkjaa
set_option linter.unusedVariables false
set_option linter.unusedSimpArgs false
set_option maxRecDepth 100000


def diskMatchesF (ds : List DV) : List DV := [.bool true]
/-- What the executor makes of it. -/
def diskMatchesTree : PT :=
(.br (.un .not (.bin .idx (.fn 80 (.bin .cons (.var 0) (.bin .cons (.var 1) .nil))) (.int 0)))
 (.leaf [(.bin .idx (.fn 88 .nil) (.int 0))])
 (.br (.un .not (.bin .idx (.fn 80 (.bin .cons (.var 2) (.bin .cons (.var 3) .nil))) (.int 0)))
  (.leaf [(.bin .idx (.fn 88 .nil) (.int 0))])
  (.br (.un .not (.bin .le (.un .slen (.var 5)) (.int 60)))
   (.leaf [(.bin .idx (.fn 88 .nil) (.int 0))])
   (.br (.un .not (.bin .le (.un .len (.var 6)) (.int 80)))
    (.leaf [(.bin .idx (.fn 88 .nil) (.int 0))])
    (.asrt (.bin .le (.un .len (.var 0)) (.int 1000000))
     (.asrt (.bin .le (.un .len (.var 1)) (.int 1000000))
      (.br (.un .not (.bin .eqb (.bin .idx (.fn 70 (.bin .cons (.var 0) (.bin .cons (.var 1) .nil))) (.int 0)) (.bin .idx (.fn 78 (.bin .cons (.var 0) (.bin .cons (.var 1) .nil))) (.int 0))))
       (.leaf [(.bool false)])
       (.asrt (.bin .le (.un .len (.var 2)) (.int 1000000))
        (.asrt (.bin .le (.un .len (.var 3)) (.int 1000000))
         (.br (.un .not (.bin .eqb (.bin .idx (.fn 66 (.bin .cons (.var 0) (.bin .cons (.var 1) (.bin .cons (.var 2) (.bin .cons (.var 3) .nil))))) (.int 0)) (.bin .idx (.fn 84 (.bin .cons (.var 0) (.bin .cons (.var 1) (.bin .cons (.var 2) (.bin .cons (.var 3) .nil))))) (.int 0))))
          (.leaf [(.bool false)])
          (.asrt (.bin .le (.un .len (.bin .idx (.fn 72 (.bin .cons (.var 4) .nil)) (.int 0))) (.int 1000000))
           (.asrt (.bin .le (.un .len (.bin .idx (.fn 72 (.bin .cons (.var 4) .nil)) (.int 1))) (.int 1000000))
            (.asrt (.bin .le (.un .len (.bin .idx (.fn 74 (.bin .cons (.var 4) .nil)) (.int 0))) (.int 1000000))
             (.asrt (.bin .le (.un .len (.bin .idx (.fn 74 (.bin .cons (.var 4) .nil)) (.int 1))) (.int 1000000))
              (.br (.un .not (.bin .idx (.fn 84 (.bin .cons (.bin .idx (.fn 72 (.bin .cons (.var 4) .nil)) (.int 0)) (.bin .cons (.bin .idx (.fn 72 (.bin .cons (.var 4) .nil)) (.int 1)) (.bin .cons (.bin .idx (.fn 74 (.bin .cons (.var 4) .nil)) (.int 0)) (.bin .cons (.bin .idx (.fn 74 (.bin .cons (.var 4) .nil)) (.int 1)) .nil))))) (.int 0)))
               (.leaf [(.bool false)])
               (.br (.un .not (.bin .eq (.bin .idx (.fn 72 (.bin .cons (.var 4) .nil)) (.int 2)) (.bin .idx (.fn 74 (.bin .cons (.var 4) .nil)) (.int 2))))
                (.leaf [(.bool false)])
                (.br (.un .not (.bin .idx (.fn 78 (.bin .cons (.var 0) (.bin .cons (.var 1) .nil))) (.int 0)))
                 (.leaf [(.bin .idx (.fn 88 .nil) (.int 0))])
                 (.br (.bin .idx (.fn 88 .nil) (.int 0))
                  (.br (.bin .eqs (.bin .idx (.fn 68 (.bin .cons (.var 0) (.bin .cons (.var 1) (.bin .cons (.var 4) .nil)))) (.int 0)) (.bin .idx (.fn 73 (.bin .cons (.var 0) (.bin .cons (.var 1) (.bin .cons (.var 4) .nil)))) (.int 0)))
                   (.br (.bin .eq (.bin .idx (.fn 68 (.bin .cons (.var 0) (.bin .cons (.var 1) (.bin .cons (.var 4) .nil)))) (.int 1)) (.bin .idx (.fn 73 (.bin .cons (.var 0) (.bin .cons (.var 1) (.bin .cons (.var 4) .nil)))) (.int 1)))
                    (.asrt (.bin .le (.un .len (.bin .idx (.fn 79 (.bin .cons (.var 0) (.bin .cons (.var 1) (.bin .cons (.var 4) (.bin .cons (.var 5) .nil))))) (.int 0))) (.int 1000000))
                     (.asrt (.bin .le (.un .len (.bin .idx (.fn 79 (.bin .cons (.var 0) (.bin .cons (.var 1) (.bin .cons (.var 4) (.bin .cons (.var 5) .nil))))) (.int 1))) (.int 1000000))
                      (.asrt (.bin .le (.un .len (.bin .idx (.fn 76 (.bin .cons (.var 0) (.bin .cons (.var 1) (.bin .cons (.var 4) (.bin .cons (.var 5) .nil))))) (.int 0))) (.int 1000000))
                       (.asrt (.bin .le (.un .len (.bin .idx (.fn 76 (.bin .cons (.var 0) (.bin .cons (.var 1) (.bin .cons (.var 4) (.bin .cons (.var 5) .nil))))) (.int 1))) (.int 1000000))
                        (.br (.bin .idx (.fn 84 (.bin .cons (.bin .idx (.fn 79 (.bin .cons (.var 0) (.bin .cons (.var 1) (.bin .cons (.var 4) (.bin .cons (.var 5) .nil))))) (.int 0)) (.bin .cons (.bin .idx (.fn 79 (.bin .cons (.var 0) (.bin .cons (.var 1) (.bin .cons (.var 4) (.bin .cons (.var 5) .nil))))) (.int 1)) (.bin .cons (.bin .idx (.fn 76 (.bin .cons (.var 0) (.bin .cons (.var 1) (.bin .cons (.var 4) (.bin .cons (.var 5) .nil))))) (.int 0)) (.bin .cons (.bin .idx (.fn 76 (.bin .cons (.var 0) (.bin .cons (.var 1) (.bin .cons (.var 4) (.bin .cons (.var 5) .nil))))) (.int 1)) .nil))))) (.int 0))
                         (.br (.bin .eq (.bin .idx (.fn 79 (.bin .cons (.var 0) (.bin .cons (.var 1) (.bin .cons (.var 4) (.bin .cons (.var 5) .nil))))) (.int 2)) (.bin .idx (.fn 76 (.bin .cons (.var 0) (.bin .cons (.var 1) (.bin .cons (.var 4) (.bin .cons (.var 5) .nil))))) (.int 2)))
                          (.asrt (.bin .le (.un .len (.bin .idx (.fn 81 (.bin .cons (.var 0) (.bin .cons (.var 1) .nil))) (.int 0))) (.int 1000000))
                           (.asrt (.bin .le (.un .len (.bin .idx (.fn 81 (.bin .cons (.var 0) (.bin .cons (.var 1) .nil))) (.int 1))) (.int 1000000))
                            (.asrt (.bin .le (.un .len (.bin .idx (.fn 82 (.bin .cons (.var 0) (.bin .cons (.var 1) .nil))) (.int 0))) (.int 1000000))
                             (.asrt (.bin .le (.un .len (.bin .idx (.fn 82 (.bin .cons (.var 0) (.bin .cons (.var 1) .nil))) (.int 1))) (.int 1000000))
                              (.br (.bin .idx (.fn 84 (.bin .cons (.bin .idx (.fn 81 (.bin .cons (.var 0) (.bin .cons (.var 1) .nil))) (.int 0)) (.bin .cons (.bin .idx (.fn 81 (.bin .cons (.var 0) (.bin .cons (.var 1) .nil))) (.int 1)) (.bin .cons (.bin .idx (.fn 82 (.bin .cons (.var 0) (.bin .cons (.var 1) .nil))) (.int 0)) (.bin .cons (.bin .idx (.fn 82 (.bin .cons (.var 0) (.bin .cons (.var 1) .nil))) (.int 1)) .nil))))) (.int 0))
                               (.asrt (.bin .le (.un .len (.bin .idx (.fn 86 (.bin .cons (.var 0) (.bin .cons (.var 1) (.bin .cons (.var 6) .nil)))) (.int 0))) (.int 1000000))
                                (.asrt (.bin .le (.un .len (.bin .idx (.fn 86 (.bin .cons (.var 0) (.bin .cons (.var 1) (.bin .cons (.var 6) .nil)))) (.int 1))) (.int 1000000))
                                 (.asrt (.bin .le (.un .len (.bin .idx (.fn 85 (.bin .cons (.var 0) (.bin .cons (.var 1) (.bin .cons (.var 6) .nil)))) (.int 0))) (.int 1000000))
                                  (.asrt (.bin .le (.un .len (.bin .idx (.fn 85 (.bin .cons (.var 0) (.bin .cons (.var 1) (.bin .cons (.var 6) .nil)))) (.int 1))) (.int 1000000))
                                   (.leaf [(.bin .idx (.fn 84 (.bin .cons (.bin .idx (.fn 86 (.bin .cons (.var 0) (.bin .cons (.var 1) (.bin .cons (.var 6) .nil)))) (.int 0)) (.bin .cons (.bin .idx (.fn 86 (.bin .cons (.var 0) (.bin .cons (.var 1) (.bin .cons (.var 6) .nil)))) (.int 1)) (.bin .cons (.bin .idx (.fn 85 (.bin .cons (.var 0) (.bin .cons (.var 1) (.bin .cons (.var 6) .nil)))) (.int 0)) (.bin .cons (.bin .idx (.fn 85 (.bin .cons (.var 0) (.bin .cons (.var 1) (.bin .cons (.var 6) .nil)))) (.int 1)) .nil))))) (.int 0))])))))
                               (.leaf [(.bool false)]))))))
                          (.leaf [(.bool false)]))
                         (.leaf [(.bool false)]))))))
                    (.leaf [(.bool false)]))
                   (.leaf [(.bool false)]))
                  (.leaf [(.bool false)])))))))))))))))))))

def diskMatchesSm : List (Nat × Smy) := [(7, ⟨88, [], [.one (.pl .bool)], fun _ => [], none⟩), (8, ⟨80, [.agg [.rows false [.str], .rows false [.int .i64, .str]]], [.one (.pl .bool)], lenC [(0, 9223372036854775807), (1, 9223372036854775807)], none⟩), (9, ⟨72, [.one (.pl (.int .i64))], [.agg [.rows false [.str], .rows false [.int .i64, .str]], .one (.pl (.int .i64))], fun _ => [], none⟩), (10, ⟨74, [.one (.pl (.int .i64))], [.agg [.rows false [.str], .rows false [.int .i64, .str]], .one (.pl (.int .i64))], fun _ => [], none⟩), (12, ⟨70, [.agg [.rows false [.str], .rows false [.int .i64, .str]]], [.one (.pl .bool)], lenC [(0, 1000000), (1, 1000000)], none⟩), (11, ⟨78, [.agg [.rows false [.str], .rows false [.int .i64, .str]]], [.one (.pl .bool)], lenC [(0, 1000000), (1, 1000000)], none⟩), (13, ⟨66, [.agg [.rows false [.str], .rows false [.int .i64, .str]], .agg [.rows false [.str], .rows false [.int .i64, .str]]], [.one (.pl .bool)], lenC [(0, 1000000), (1, 1000000), (2, 1000000), (3, 1000000)], none⟩), (14, ⟨84, [.agg [.rows false [.str], .rows false [.int .i64, .str]], .agg [.rows false [.str], .rows false [.int .i64, .str]]], [.one (.pl .bool)], lenC [(0, 1000000), (1, 1000000), (2, 1000000), (3, 1000000)], none⟩), (15, ⟨68, [.agg [.rows false [.str], .rows false [.int .i64, .str]], .one (.pl (.int .i64))], [.one (.pl .str), .one (.pl (.int .i64))], fun _ => [], none⟩), (16, ⟨73, [.agg [.rows false [.str], .rows false [.int .i64, .str]], .one (.pl (.int .i64))], [.one (.pl .str), .one (.pl (.int .i64))], fun _ => [], none⟩), (17, ⟨79, [.agg [.rows false [.str], .rows false [.int .i64, .str]], .one (.pl (.int .i64)), .one (.pl .str)], [.agg [.rows false [.str], .rows false [.int .i64, .str]], .one (.pl (.int .i64))], lenC [(0, 1000000), (1, 1000000)], none⟩), (18, ⟨76, [.agg [.rows false [.str], .rows false [.int .i64, .str]], .one (.pl (.int .i64)), .one (.pl .str)], [.agg [.rows false [.str], .rows false [.int .i64, .str]], .one (.pl (.int .i64))], lenC [(0, 1000000), (1, 1000000)], none⟩), (19, ⟨81, [.agg [.rows false [.str], .rows false [.int .i64, .str]]], [.agg [.rows false [.str], .rows false [.int .i64, .str]]], lenC [(0, 1000000)], none⟩), (20, ⟨82, [.agg [.rows false [.str], .rows false [.int .i64, .str]]], [.agg [.rows false [.str], .rows false [.int .i64, .str]]], lenC [(0, 1000000)], none⟩), (21, ⟨86, [.agg [.rows false [.str], .rows false [.int .i64, .str]], .one (.rows false [.int .i64])], [.agg [.rows false [.str], .rows false [.int .i64, .str]]], fun es => (lenC [(0, 1000000), (1, 1000000), (2, 1000000)]) es ++ [rightC 78 0 1 es], none⟩), (22, ⟨85, [.agg [.rows false [.str], .rows false [.int .i64, .str]], .one (.rows false [.int .i64])], [.agg [.rows false [.str], .rows false [.int .i64, .str]]], fun es => (lenC [(0, 1000000), (1, 1000000), (2, 1000000)]) es ++ [rightC 78 0 1 es], none⟩)]
def diskMatchesLa : List (LK × LA) := []
def diskMatchesPhi : Nat → DV → DV := fun n d => match n with
  | 88 => .list (dSaneF d.l)
  | 80 => .list (rFewF d.l)
  | 72 => .list (dNewF d.l)
  | 74 => .list (rDNewF d.l)
  | 70 => .list (dRightF d.l)
  | 78 => .list (rDRightF d.l)
  | 66 => .list (dSameF d.l)
  | 84 => .list (rDSameF d.l)
  | 68 => .list (dReadF d.l)
  | 73 => .list (rDReadF d.l)
  | 79 => .list (dWriteF d.l)
  | 76 => .list (rDWriteF d.l)
  | 81 => .list (dSyncF d.l)
  | 82 => .list (rDSyncF d.l)
  | 86 => .list (dCrashF d.l)
  | 85 => .list (rCrashF d.l)
  | _ => d
theorem diskMatchesS : SmyOk Try.prog diskMatchesPhi diskMatchesSm := (smy_cons (fun _ => True) dSaneF dSane_pure (fun _ _ _ _ => trivial) (fun _ => rfl) (fun _ h => by cases h) (smy_cons (lenP [(0, 9223372036854775807), (1, 9223372036854775807)]) rFewF rFew_pure (len_hp [(0, 9223372036854775807), (1, 9223372036854775807)]) (fun _ => rfl) (fun _ h => by cases h) (smy_cons (fun _ => True) dNewF dNew_pure (fun _ _ _ _ => trivial) (fun _ => rfl) (fun _ h => by cases h) (smy_cons (fun _ => True) rDNewF rDNew_pure (fun _ _ _ _ => trivial) (fun _ => rfl) (fun _ h => by cases h) (smy_cons (lenP [(0, 1000000), (1, 1000000)]) dRightF dRight_pure (len_hp [(0, 1000000), (1, 1000000)]) (fun _ => rfl) (fun _ h => by cases h) (smy_cons (lenP [(0, 1000000), (1, 1000000)]) rDRightF rDRight_pure (len_hp [(0, 1000000), (1, 1000000)]) (fun _ => rfl) (fun _ h => by cases h) (smy_cons (lenP [(0, 1000000), (1, 1000000), (2, 1000000), (3, 1000000)]) dSameF dSame_pure (len_hp [(0, 1000000), (1, 1000000), (2, 1000000), (3, 1000000)]) (fun _ => rfl) (fun _ h => by cases h) (smy_cons (lenP [(0, 1000000), (1, 1000000), (2, 1000000), (3, 1000000)]) rDSameF rDSame_pure (len_hp [(0, 1000000), (1, 1000000), (2, 1000000), (3, 1000000)]) (fun _ => rfl) (fun _ h => by cases h) (smy_cons (fun _ => True) dReadF dRead_pure (fun _ _ _ _ => trivial) (fun _ => rfl) (fun _ h => by cases h) (smy_cons (fun _ => True) rDReadF rDRead_pure (fun _ _ _ _ => trivial) (fun _ => rfl) (fun _ h => by cases h) (smy_cons (lenP [(0, 1000000), (1, 1000000)]) dWriteF dWrite_pure (len_hp [(0, 1000000), (1, 1000000)]) (fun _ => rfl) (fun _ h => by cases h) (smy_cons (lenP [(0, 1000000), (1, 1000000)]) rDWriteF rDWrite_pure (len_hp [(0, 1000000), (1, 1000000)]) (fun _ => rfl) (fun _ h => by cases h) (smy_cons (lenP [(0, 1000000)]) dSyncF dSync_pure (len_hp [(0, 1000000)]) (fun _ => rfl) (fun _ h => by cases h) (smy_cons (lenP [(0, 1000000)]) rDSyncF rDSync_pure (len_hp [(0, 1000000)]) (fun _ => rfl) (fun _ h => by cases h) (smy_cons (fun ds => (lenP [(0, 1000000), (1, 1000000), (2, 1000000)]) ds ∧ rightDM (gLs ds 0) (gLis ds 1) = true) dCrashF dCrash_pure (right_hp 78 0 1 (len_hp [(0, 1000000), (1, 1000000), (2, 1000000)]) (fun _ => rfl)) (fun _ => rfl) (fun _ h => by cases h) (smy_cons (fun ds => (lenP [(0, 1000000), (1, 1000000), (2, 1000000)]) ds ∧ rightDM (gLs ds 0) (gLis ds 1) = true) rCrashF rCrash_pure (right_hp 78 0 1 (len_hp [(0, 1000000), (1, 1000000), (2, 1000000)]) (fun _ => rfl)) (fun _ => rfl) (fun _ h => by cases h) smy_nil))))))))))))))))
theorem diskMatchesT : treeOk ⟨Try.prog, diskMatchesSm, diskMatchesLa⟩ 4000 3 [.agg [.rows false [.str], .rows false [.int .i64, .str], .rows false [.str], .rows false [.int .i64, .str], .pl (.int .i64), .pl .str, .rows false [.int .i64]]] [.one (.pl .bool)] (rng 0 9223372036854775807 (.un .len (.var 0)) ++ (rng 0 9223372036854775807 (.un .len (.var 1)) ++ (rng 0 9223372036854775807 (.un .len (.var 2)) ++ (rng 0 9223372036854775807 (.un .len (.var 3)) ++ (rng 0 9223372036854775807 (.un .slen (.var 5)) ++ (rng 0 9223372036854775807 (.un .len (.var 6)) ++ ([]))))))) diskMatchesTree = true := by decide +kernel
set_option maxHeartbeats 1000000 in
theorem diskMatches_pure : Pure Try.prog 3 [.agg [.rows false [.str], .rows false [.int .i64, .str], .rows false [.str], .rows false [.int .i64, .str], .pl (.int .i64), .pl .str, .rows false [.int .i64]]] [.one (.pl .bool)] (Wts (clsOf [.agg [.rows false [.str], .rows false [.int .i64, .str], .rows false [.str], .rows false [.int .i64, .str], .pl (.int .i64), .pl .str, .rows false [.int .i64]]])) diskMatchesF := by
  refine pure_tree (X := ⟨Try.prog, diskMatchesSm, diskMatchesLa⟩) (Checked.mixed Try.checked) diskMatchesS (by decide +kernel) (by decide +kernel) diskMatchesT (by decide +kernel) ?_
  intro ds hl hp
  obtain ⟨d0, d1, d2, d3, d4, d5, d6, rfl⟩ := len7 hl
  obtain ⟨_, _, he, w0, hp⟩ := hp
  cases he
  have b0 : ((d0.l.map DV.s).length : Int) ≤ 9223372036854775807 := by rw [List.length_map]; exact wt_len w0
  have v0 : ∀ v ∈ d0.l.map DV.s, (v.length : Int) ≤ 9223372036854775807 := wt_strs w0
  clear w0
  obtain ⟨_, _, he, w1, hp⟩ := hp
  cases he
  have b1 : ((d1.l.map decis).length : Int) ≤ 9223372036854775807 := by rw [List.length_map]; exact wt_len w1
  have v1 := wt_is w1
  clear w1
  obtain ⟨_, _, he, w2, hp⟩ := hp
  cases he
  have b2 : ((d2.l.map DV.s).length : Int) ≤ 9223372036854775807 := by rw [List.length_map]; exact wt_len w2
  have v2 : ∀ v ∈ d2.l.map DV.s, (v.length : Int) ≤ 9223372036854775807 := wt_strs w2
  clear w2
  obtain ⟨_, _, he, w3, hp⟩ := hp
  cases he
  have b3 : ((d3.l.map decis).length : Int) ≤ 9223372036854775807 := by rw [List.length_map]; exact wt_len w3
  have v3 := wt_is w3
  clear w3
  obtain ⟨_, _, he, w4, hp⟩ := hp
  cases he
  have r4 : -9223372036854775808 ≤ d4.i ∧ d4.i ≤ 9223372036854775807 := wt_i w4 rfl rfl
  clear w4
  obtain ⟨_, _, he, w5, hp⟩ := hp
  cases he
  have r5 : (d5.s.length : Int) ≤ 9223372036854775807 := wt_s w5
  clear w5
  obtain ⟨_, _, he, w6, hp⟩ := hp
  cases he
  have b6 : ((d6.l.map DV.i).length : Int) ≤ 9223372036854775807 := by rw [List.length_map]; exact wt_len w6
  have v6 : ∀ v ∈ d6.l.map DV.i, -9223372036854775808 ≤ v ∧ v ≤ 9223372036854775807 := wt_ints w6 rfl rfl
  clear w6
  have hN : nrmL (clsOf [.agg [.rows false [.str], .rows false [.int .i64, .str], .rows false [.str], .rows false [.int .i64, .str], .pl (.int .i64), .pl .str, .rows false [.int .i64]]]) [d0, d1, d2, d3, d4, d5, d6] = [.list ((d0.l.map DV.s).map DV.str), .list ((d1.l.map decis).map encis), .list ((d2.l.map DV.s).map DV.str), .list ((d3.l.map decis).map encis), .int d4.i, .str d5.s, .list ((d6.l.map DV.i).map DV.int)] := by
    simp only [clsOf, Sh.cls, List.append_nil, List.cons_append, List.nil_append, nrmL, Cl.nrm, CK.nrm, map_Li, map_Lis, map_Ls]
  have hF : diskMatchesF [d0, d1, d2, d3, d4, d5, d6] = [.bool true] := rfl
  rw [hN, hF]
  clear hN hp hl hF
  generalize d0.l.map DV.s = x0 at b0 v0 ⊢
  generalize d1.l.map decis = x1 at b1 v1 ⊢
  generalize d2.l.map DV.s = x2 at b2 v2 ⊢
  generalize d3.l.map decis = x3 at b3 v3 ⊢
  generalize d4.i = x4 at r4 ⊢
  generalize d5.s = x5 at r5 ⊢
  generalize d6.l.map DV.i = x6 at b6 v6 ⊢
  refine ⟨(rng_ok (e := .un .len (.var 0)) (Int.natCast_nonneg _) (by show ((x0.map _).length : Int) ≤ _; rw [List.length_map]; exact b0) (rng_ok (e := .un .len (.var 1)) (Int.natCast_nonneg _) (by show ((x1.map _).length : Int) ≤ _; rw [List.length_map]; exact b1) (rng_ok (e := .un .len (.var 2)) (Int.natCast_nonneg _) (by show ((x2.map _).length : Int) ≤ _; rw [List.length_map]; exact b2) (rng_ok (e := .un .len (.var 3)) (Int.natCast_nonneg _) (by show ((x3.map _).length : Int) ≤ _; rw [List.length_map]; exact b3) (rng_ok (e := .un .slen (.var 5)) (Int.natCast_nonneg _) r5 (rng_ok (e := .un .len (.var 6)) (Int.natCast_nonneg _) (by show ((x6.map _).length : Int) ≤ _; rw [List.length_map]; exact b6) (facts_nil _))))))), ?_⟩
  unfold diskMatchesTree
  simp only [Sat, clsOf, Sh.cls, List.append_nil, List.cons_append, List.nil_append, nrmL, Cl.nrm, CK.nrm, List.map_cons, List.map_nil, List.length_cons, List.length_nil, List.cons.injEq, DV.bool.injEq, DV.int.injEq, DV.list.injEq, DV.str.injEq, and_true, true_and]
  try simp only [q_le, q_eq, q_eqs, q_eqb, q_and, q_or, q_not, q_bool, iff_true, iff_false, Bool.not_true, Bool.not_false, Bool.false_eq_true, Bool.true_eq_false, eq_self, Bool.not_not]
  simp only [Bool.not_true, Bool.not_false, Bool.true_eq_false, SE.den, evU, evT, ev_le, ev_eq, ev_eqs, ev_eqb, ev_slt, ev_and, ev_or, ev_add, ev_sub, ev_mul, ev_tdiv, ev_tmod, ev_band, ev_bor, ev_bxor, ev_bandn, ev_shl, ev_shr, ev_cat, ev_byte, ev_idx, ev_cons, ev_snoc, ev_app, ev_take, ev_drop, ev_stake, ev_sdrop, ev_rep, leB_q, eqB_q, eqsB_q, not_q, i_if, b_if, l_if, s_if, i_int, b_bool, s_str, l_list, envL, List.getElem?_cons_succ, List.getElem?_cons_zero, List.getElem?_nil, Option.getD_some, Option.getD_none, Int.toNat_natCast, Int.toNat_zero, Int.reduceToNat, List.length_map, get_Li, get_Lb, get_Ls, set_Li, inj_Li, inj_Lb, inj_Ls, rows_i, rows_b, rows_s, Int.zero_add, iff_true, iff_false, and_true, true_and, Bool.false_eq_true, eq_self, not_true_eq_false, not_false_eq_true, List.length_replicate, DV.int.injEq, DV.bool.injEq, DV.str.injEq, DV.list.injEq, List.cons.injEq, f_is_0, rows_is, inj_Lis, f_is_1, rows_is, inj_Lis, diskMatchesPhi, dSaneF, dSaneE, rFewF, rFewE, dNewF, dNewE, rDNewF, rDNewE, dRightF, dRightE, rDRightF, rDRightE, dSameF, dSameE, rDSameF, rDSameE, dReadF, dReadE, rDReadF, rDReadE, dWriteF, dWriteE, rDWriteF, rDWriteE, dSyncF, dSyncE, rDSyncF, rDSyncE, dCrashF, dCrashE, rCrashF, rCrashE, gi, gb, gs, gLi, gLu, gLb, gLs, dece_i, dece_b, dece_s, gLis, deces_is]
  have few : ∀ (s : List (List UInt8)) (w : List Tis), fewDM s w = true → (s.length : Int) ≤ 600 ∧ (w.length : Int) ≤ 60 := fun s w h => by
    unfold fewDM at h
    simp only [Bool.and_eq_true, decide_eq_true_eq] at h
    exact ⟨h.1, h.2.1⟩
  have nl : ((newM x4).length : Int) ≤ 1000000 := by
    unfold newM
    split
    · simp; omega
    · simp
  have wl : (writeM x0 x1 x4 x5).1.length = x0.length ∧ (writeM x0 x1 x4 x5).2.1.length ≤ x1.length + 1 := by
    unfold writeM
    split
    · split <;> simp
    · simp
  clear v1 v3 v6
  by_cases h1 : fewDM x0 x1 = true
  · by_cases h2 : fewDM x2 x3 = true
    · obtain ⟨l0, l1⟩ := few _ _ h1
      obtain ⟨l2, l3⟩ := few _ _ h2
      have a0 : (x0.length : Int) ≤ 1000000 := by omega
      have a1 : (x1.length : Int) ≤ 1000000 := by omega
      have a2 : (x2.length : Int) ≤ 1000000 := by omega
      have a3 : (x3.length : Int) ≤ 1000000 := by omega
      have a4 : ((writeM x0 x1 x4 x5).1.length : Int) ≤ 1000000 := by omega
      have a5 : ((writeM x0 x1 x4 x5).2.1.length : Int) ≤ 1000000 := by omega
      have aq : ∀ (h : x6.length ≤ 80), (x6.length : Int) ≤ 1000000 := fun h => by omega
      simp [h1, h2, crash_len, a0, a1, a2, a3, a4, a5, nl]
      try (intros; omega)
    · have h2 : fewDM x2 x3 = false := by simpa using h2
      simp [h1, h2]
  · have h1 : fewDM x0 x1 = false := by simpa using h1
    simp [h1]
namespace row
open Go.ChangeShapes Go.WideShapes Go.ChangeAt Go.RowKit Go.Joins Go.Deep Go.Proofs.Ytljocjljkilkjaa
theorem lifted (os : Os) (started : os.Started) (H : Type) (enc : TypeId × Value → H) :
    ReturnsInHanded {} Try.checked os 3 .any (Rows.diskMatchesSpecSpec.pre6 enc Try.prog Try.f3 Rows.diskMatchesSpecRow.domain false) (Rows.diskMatchesSpecSpec.post enc Try.prog Try.f3 false true false false) := by
  refine returnsInHanded_of_change (C := Try.checked) own started (by kernel_rfl) Try.func3
    (ChangeSpec.witness6 (enc := enc) (C := Try.checked) false ⟨#[], #[.agg #[.slice none 0 0, .slice none 0 0, .slice none 0 0, .slice none 0 0, .int .i64 0, .string ⟨#[]⟩, .slice none 0 0]], []⟩ 8 (by kernel_rfl) (by kernel_rfl) (by kernel_rfl) (by kernel_rfl)) ?_
  intro W base args ds gs before hval0 hW hcnd _
  have hval : ∀ (j : Nat) t v, Try.f3.params[j]? = some t → args[j]? = some v → Value.okWide Try.prog W .any base t v := hval0
  have hW' := hW
  obtain ⟨p, q, hA0, hV, rfl, hfz, hnd⟩ := hW
  have hA : DataW.TrodAll enc Try.prog W 0 (fun _ => true) true Try.f3.params.toList args.toList ds p := hA0
  have hval2 : ∀ (j : Nat) t v, Try.f3.params.toList[j]? = some t → args.toList[j]? = some v → Value.okWide Try.prog W .any base t v := fun j t v a b => hval j t v (by simpa using a) (by simpa using b)
  have hcall := law_of diskMatches_pure (fun _ h => h) (by rw [Try.params3]; kernel_rfl) hA hval2
  rw [Try.params3] at hA
  obtain ⟨v0, vs0, d0, ds0, p0, q0, hargs, rfl, rfl, h0, r0⟩ := trodAll_cons hA
  obtain ⟨rfl, rfl, rfl⟩ := trodAll_nil r0
  obtain rfl : args = #[v0] := by cases args; simp_all
  obtain ⟨rfl, rfl⟩ := trodVars_none hV
  have lt0 : ∀ x ∈ p0, x.block < W.heap.size := by obtain ⟨m, hm⟩ := h0; exact DataW.trod_lt m _ _ _ hm
  clear hA0 hval0 hval2
  refine Calls.mono hcall fun e W' ⟨he, bel⟩ => ?_
  subst he
  exact ⟨_, rfl, _, _, _, [], _, [], hW', trodAll_mk1 (shut_bool Try.underlying4 _), (trodAll_cons_mk (Below.trod laidOut (by kernel_rfl) (of_decide_eq_true (by kernel_rfl)) h0 bel lt0) trodAll_mk0), rfl, bel.frame _, fun h => by cases h⟩
theorem over : Rows.diskMatchesSpecRow.holds Try.pinned (OpenSpec.ofChange Rows.diskMatchesSpecSpec) :=
  OpenClaim.holds_of_wide 3 Try.f3 rfl rfl rfl rfl rfl rfl rfl ⟨rfl, rfl, rfl, rfl, rfl⟩ rfl rfl rfl rfl rfl (by kernel_rfl) Try.func3 (by kernel_rfl)
    (of_decide_eq_true (by kernel_rfl)) (by unfold Func.isWrapper; first | (rw [if_pos (by decide +kernel)]; kernel_rfl) | (rw [if_neg (by decide +kernel)]; exact ⟨rfl, rfl⟩))
    (fun os started H enc _ => lifted os started H enc)
end row
theorem diskMatches_proved : Rows.DiskMatchesSpecSaid := row.over
end Go.Proofs.Ytljocjljkilkjaa
