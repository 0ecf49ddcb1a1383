/- The function lock.Next is a function of data. No condition. -/
import Derived.Test.YtjkdenancggndaaLayWord
import Derived.Test.YtjkdenancggndaaLayVal
import Derived.Test.YtjkdenancggndaaNx
import Derived.Test.YtjkdenancggndaaBd
import Derived.Test.YtjkdenancggndaaOpen
namespace Go.Proofs.Ytjkdenancggndaa
set_option linter.unusedVariables false
set_option linter.unusedSimpArgs false
set_option maxRecDepth 100000

/-- The lock's operations; wh halves. -/
def lkM (wh : Int → Int) (wc vc me k b : Int) (log : List Tib) : Nx :=
  if k < 1 ∨ 4 < k ∨ wc < 0 then doneN 0 0 false 1
  else if k = 2 then (if (log.length : Int) ≤ 0 then askN 2 wc 0 (IntKind.i64.wrap (2 * b)) else doneN 0 0 true 0)
  else if (log.length : Int) ≤ 0 then askN 1 wc 0 0
  else if k = 1 then
    (if (log[0]?.getD dib).1 % 2 = 1 then doneN (wh (log[0]?.getD dib).1) 0 false 0
    else if (log.length : Int) ≤ 1 then askN 3 wc (log[0]?.getD dib).1 (IntKind.i64.wrap (IntKind.i64.wrap (2 * me) + 1))
    else if (log[1]?.getD dib).2 = true then doneN 0 (wh (log[0]?.getD dib).1) true 0 else doneN (-1) 0 false 0)
  else if k = 3 then
    (if (log[0]?.getD dib).1 = IntKind.i64.wrap (2 * b) then doneN 0 0 true 0 else if (log[0]?.getD dib).1 % 2 = 1 then doneN (wh (log[0]?.getD dib).1) 0 false 0 else doneN (-1) 0 false 0)
  else
    (if (log[0]?.getD dib).1 % 2 = 1 then doneN (wh (log[0]?.getD dib).1) (-1) false 0
    else if (log.length : Int) ≤ 1 then askN 1 vc 0 0
    else if (log.length : Int) ≤ 2 then askN 1 wc 0 0
    else if (log[2]?.getD dib).1 ≠ (log[0]?.getD dib).1 then doneN (-1) (-1) false 0
    else doneN (log[1]?.getD dib).1 (wh (log[0]?.getD dib).1) true 0)
theorem lkM_congr {wh wh' : Int → Int} (wc vc me k b : Int) (log : List Tib) (h : wh (log[0]?.getD dib).1 = wh' (log[0]?.getD dib).1) : lkM wh wc vc me k b log = lkM wh' wc vc me k b log := by
  unfold lkM
  rw [h]
def lkNextE (t l k s m a0 a1 a2 a3 a4 a5 a6 a7 me kind a b try' st ka ab : Int) (seen : List Tiii) (wr : List Tii) (du : List Bool) (log : List Tib) : List DV :=
  (lkM (· / 2) (placeM a6 l a 4 0) (placeM a6 l a 4 1) me kind b log).ds

def lkNextF (ds : List DV) : List DV := lkNextE (gi ds 0) (gi ds 1) (gi ds 2) (gi ds 3) (gi ds 4) (gi ds 5) (gi ds 6) (gi ds 7) (gi ds 8) (gi ds 9) (gi ds 10) (gi ds 11) (gi ds 12) (gi ds 13) (gi ds 14) (gi ds 15) (gi ds 16) (gi ds 17) (gi ds 18) (gi ds 19) (gi ds 20) (gLiii ds 21) (gLii ds 22) (gLb ds 23) (gLib ds 24)
/-- What the executor makes of it. -/
def lkNextTree : PT :=
(.br (.bin .eq (.var 14) (.int 1))
 (.br (.un .not (.bin .le (.int 0) (.bin .idx (.fn 22 (.bin .cons (.var 0) (.bin .cons (.var 1) (.bin .cons (.var 2) (.bin .cons (.var 3) (.bin .cons (.var 4) (.bin .cons (.var 5) (.bin .cons (.var 6) (.bin .cons (.var 7) (.bin .cons (.var 8) (.bin .cons (.var 9) (.bin .cons (.var 10) (.bin .cons (.var 11) (.bin .cons (.var 12) (.bin .cons (.var 15) .nil))))))))))))))) (.int 0))))
  (.leaf [(.int 0), (.int 0), (.int 0), (.int 0), (.str []), (.int 0), (.int 0), (.int 0), (.int 0), (.bool false), (.bool false), (.int 1), (.bool true)])
  (.br (.bin .le (.un .len (.var 24)) (.int 0))
   (.leaf [(.int 1), (.bin .idx (.fn 22 (.bin .cons (.var 0) (.bin .cons (.var 1) (.bin .cons (.var 2) (.bin .cons (.var 3) (.bin .cons (.var 4) (.bin .cons (.var 5) (.bin .cons (.var 6) (.bin .cons (.var 7) (.bin .cons (.var 8) (.bin .cons (.var 9) (.bin .cons (.var 10) (.bin .cons (.var 11) (.bin .cons (.var 12) (.bin .cons (.var 15) .nil))))))))))))))) (.int 0)), (.int 0), (.int 0), (.str []), (.int 0), (.int 0), (.int 0), (.int 0), (.bool false), (.bool false), (.int 0), (.bool false)])
   (.br (.bin .eq (.bin (.band .i64) (.bin .idx (.bin .idx (.var 24) (.int 0)) (.int 0)) (.int 1)) (.int 1))
    (.leaf [(.int 0), (.int 0), (.int 0), (.int 0), (.str []), (.bin (.shr .i64) (.bin .idx (.bin .idx (.var 24) (.int 0)) (.int 0)) (.int 1)), (.int 0), (.int 0), (.int 0), (.bool false), (.bool false), (.int 0), (.bool true)])
    (.br (.bin .le (.un .len (.var 24)) (.int 1))
     (.leaf [(.int 3), (.bin .idx (.fn 22 (.bin .cons (.var 0) (.bin .cons (.var 1) (.bin .cons (.var 2) (.bin .cons (.var 3) (.bin .cons (.var 4) (.bin .cons (.var 5) (.bin .cons (.var 6) (.bin .cons (.var 7) (.bin .cons (.var 8) (.bin .cons (.var 9) (.bin .cons (.var 10) (.bin .cons (.var 11) (.bin .cons (.var 12) (.bin .cons (.var 15) .nil))))))))))))))) (.int 0)), (.bin .idx (.bin .idx (.var 24) (.int 0)) (.int 0)), (.bin (.bor .i64) (.bin (.shl .i64) (.var 13) (.int 1)) (.int 1)), (.str []), (.int 0), (.int 0), (.int 0), (.int 0), (.bool false), (.bool false), (.int 0), (.bool false)])
     (.br (.un .not (.bin .idx (.bin .idx (.var 24) (.int 1)) (.int 1)))
      (.leaf [(.int 0), (.int 0), (.int 0), (.int 0), (.str []), (.int (-1)), (.int 0), (.int 0), (.int 0), (.bool false), (.bool false), (.int 0), (.bool true)])
      (.leaf [(.int 0), (.int 0), (.int 0), (.int 0), (.str []), (.int 0), (.bin (.shr .i64) (.bin .idx (.bin .idx (.var 24) (.int 0)) (.int 0)) (.int 1)), (.int 0), (.int 0), (.bool true), (.bool false), (.int 0), (.bool true)]))))))
 (.br (.bin .eq (.var 14) (.int 2))
  (.br (.un .not (.bin .le (.int 0) (.bin .idx (.fn 22 (.bin .cons (.var 0) (.bin .cons (.var 1) (.bin .cons (.var 2) (.bin .cons (.var 3) (.bin .cons (.var 4) (.bin .cons (.var 5) (.bin .cons (.var 6) (.bin .cons (.var 7) (.bin .cons (.var 8) (.bin .cons (.var 9) (.bin .cons (.var 10) (.bin .cons (.var 11) (.bin .cons (.var 12) (.bin .cons (.var 15) .nil))))))))))))))) (.int 0))))
   (.leaf [(.int 0), (.int 0), (.int 0), (.int 0), (.str []), (.int 0), (.int 0), (.int 0), (.int 0), (.bool false), (.bool false), (.int 1), (.bool true)])
   (.br (.bin .le (.un .len (.var 24)) (.int 0))
    (.leaf [(.int 2), (.bin .idx (.fn 22 (.bin .cons (.var 0) (.bin .cons (.var 1) (.bin .cons (.var 2) (.bin .cons (.var 3) (.bin .cons (.var 4) (.bin .cons (.var 5) (.bin .cons (.var 6) (.bin .cons (.var 7) (.bin .cons (.var 8) (.bin .cons (.var 9) (.bin .cons (.var 10) (.bin .cons (.var 11) (.bin .cons (.var 12) (.bin .cons (.var 15) .nil))))))))))))))) (.int 0)), (.int 0), (.bin (.shl .i64) (.var 16) (.int 1)), (.str []), (.int 0), (.int 0), (.int 0), (.int 0), (.bool false), (.bool false), (.int 0), (.bool false)])
    (.leaf [(.int 0), (.int 0), (.int 0), (.int 0), (.str []), (.int 0), (.int 0), (.int 0), (.int 0), (.bool true), (.bool false), (.int 0), (.bool true)])))
  (.br (.bin .eq (.var 14) (.int 3))
   (.br (.un .not (.bin .le (.int 0) (.bin .idx (.fn 22 (.bin .cons (.var 0) (.bin .cons (.var 1) (.bin .cons (.var 2) (.bin .cons (.var 3) (.bin .cons (.var 4) (.bin .cons (.var 5) (.bin .cons (.var 6) (.bin .cons (.var 7) (.bin .cons (.var 8) (.bin .cons (.var 9) (.bin .cons (.var 10) (.bin .cons (.var 11) (.bin .cons (.var 12) (.bin .cons (.var 15) .nil))))))))))))))) (.int 0))))
    (.leaf [(.int 0), (.int 0), (.int 0), (.int 0), (.str []), (.int 0), (.int 0), (.int 0), (.int 0), (.bool false), (.bool false), (.int 1), (.bool true)])
    (.br (.bin .le (.un .len (.var 24)) (.int 0))
     (.leaf [(.int 1), (.bin .idx (.fn 22 (.bin .cons (.var 0) (.bin .cons (.var 1) (.bin .cons (.var 2) (.bin .cons (.var 3) (.bin .cons (.var 4) (.bin .cons (.var 5) (.bin .cons (.var 6) (.bin .cons (.var 7) (.bin .cons (.var 8) (.bin .cons (.var 9) (.bin .cons (.var 10) (.bin .cons (.var 11) (.bin .cons (.var 12) (.bin .cons (.var 15) .nil))))))))))))))) (.int 0)), (.int 0), (.int 0), (.str []), (.int 0), (.int 0), (.int 0), (.int 0), (.bool false), (.bool false), (.int 0), (.bool false)])
     (.br (.bin .eq (.bin .idx (.bin .idx (.var 24) (.int 0)) (.int 0)) (.bin (.shl .i64) (.var 16) (.int 1)))
      (.leaf [(.int 0), (.int 0), (.int 0), (.int 0), (.str []), (.int 0), (.int 0), (.int 0), (.int 0), (.bool true), (.bool false), (.int 0), (.bool true)])
      (.br (.bin .eq (.bin (.band .i64) (.bin .idx (.bin .idx (.var 24) (.int 0)) (.int 0)) (.int 1)) (.int 1))
       (.leaf [(.int 0), (.int 0), (.int 0), (.int 0), (.str []), (.bin (.shr .i64) (.bin .idx (.bin .idx (.var 24) (.int 0)) (.int 0)) (.int 1)), (.int 0), (.int 0), (.int 0), (.bool false), (.bool false), (.int 0), (.bool true)])
       (.leaf [(.int 0), (.int 0), (.int 0), (.int 0), (.str []), (.int (-1)), (.int 0), (.int 0), (.int 0), (.bool false), (.bool false), (.int 0), (.bool true)])))))
   (.br (.bin .eq (.var 14) (.int 4))
    (.br (.un .not (.bin .le (.int 0) (.bin .idx (.fn 22 (.bin .cons (.var 0) (.bin .cons (.var 1) (.bin .cons (.var 2) (.bin .cons (.var 3) (.bin .cons (.var 4) (.bin .cons (.var 5) (.bin .cons (.var 6) (.bin .cons (.var 7) (.bin .cons (.var 8) (.bin .cons (.var 9) (.bin .cons (.var 10) (.bin .cons (.var 11) (.bin .cons (.var 12) (.bin .cons (.var 15) .nil))))))))))))))) (.int 0))))
     (.leaf [(.int 0), (.int 0), (.int 0), (.int 0), (.str []), (.int 0), (.int 0), (.int 0), (.int 0), (.bool false), (.bool false), (.int 1), (.bool true)])
     (.br (.bin .le (.un .len (.var 24)) (.int 0))
      (.leaf [(.int 1), (.bin .idx (.fn 22 (.bin .cons (.var 0) (.bin .cons (.var 1) (.bin .cons (.var 2) (.bin .cons (.var 3) (.bin .cons (.var 4) (.bin .cons (.var 5) (.bin .cons (.var 6) (.bin .cons (.var 7) (.bin .cons (.var 8) (.bin .cons (.var 9) (.bin .cons (.var 10) (.bin .cons (.var 11) (.bin .cons (.var 12) (.bin .cons (.var 15) .nil))))))))))))))) (.int 0)), (.int 0), (.int 0), (.str []), (.int 0), (.int 0), (.int 0), (.int 0), (.bool false), (.bool false), (.int 0), (.bool false)])
      (.br (.bin .eq (.bin (.band .i64) (.bin .idx (.bin .idx (.var 24) (.int 0)) (.int 0)) (.int 1)) (.int 1))
       (.leaf [(.int 0), (.int 0), (.int 0), (.int 0), (.str []), (.bin (.shr .i64) (.bin .idx (.bin .idx (.var 24) (.int 0)) (.int 0)) (.int 1)), (.int (-1)), (.int 0), (.int 0), (.bool false), (.bool false), (.int 0), (.bool true)])
       (.br (.bin .le (.un .len (.var 24)) (.int 1))
        (.leaf [(.int 1), (.bin .idx (.fn 23 (.bin .cons (.var 0) (.bin .cons (.var 1) (.bin .cons (.var 2) (.bin .cons (.var 3) (.bin .cons (.var 4) (.bin .cons (.var 5) (.bin .cons (.var 6) (.bin .cons (.var 7) (.bin .cons (.var 8) (.bin .cons (.var 9) (.bin .cons (.var 10) (.bin .cons (.var 11) (.bin .cons (.var 12) (.bin .cons (.var 15) .nil))))))))))))))) (.int 0)), (.int 0), (.int 0), (.str []), (.int 0), (.int 0), (.int 0), (.int 0), (.bool false), (.bool false), (.int 0), (.bool false)])
        (.br (.bin .le (.un .len (.var 24)) (.int 2))
         (.leaf [(.int 1), (.bin .idx (.fn 22 (.bin .cons (.var 0) (.bin .cons (.var 1) (.bin .cons (.var 2) (.bin .cons (.var 3) (.bin .cons (.var 4) (.bin .cons (.var 5) (.bin .cons (.var 6) (.bin .cons (.var 7) (.bin .cons (.var 8) (.bin .cons (.var 9) (.bin .cons (.var 10) (.bin .cons (.var 11) (.bin .cons (.var 12) (.bin .cons (.var 15) .nil))))))))))))))) (.int 0)), (.int 0), (.int 0), (.str []), (.int 0), (.int 0), (.int 0), (.int 0), (.bool false), (.bool false), (.int 0), (.bool false)])
         (.br (.un .not (.bin .eq (.bin .idx (.bin .idx (.var 24) (.int 2)) (.int 0)) (.bin .idx (.bin .idx (.var 24) (.int 0)) (.int 0))))
          (.leaf [(.int 0), (.int 0), (.int 0), (.int 0), (.str []), (.int (-1)), (.int (-1)), (.int 0), (.int 0), (.bool false), (.bool false), (.int 0), (.bool true)])
          (.leaf [(.int 0), (.int 0), (.int 0), (.int 0), (.str []), (.bin .idx (.bin .idx (.var 24) (.int 1)) (.int 0)), (.bin (.shr .i64) (.bin .idx (.bin .idx (.var 24) (.int 0)) (.int 0)) (.int 1)), (.int 0), (.int 0), (.bool true), (.bool false), (.int 0), (.bool true)])))))))
    (.leaf [(.int 0), (.int 0), (.int 0), (.int 0), (.str []), (.int 0), (.int 0), (.int 0), (.int 0), (.bool false), (.bool false), (.int 1), (.bool true)])))))

def lkNextSm : List (Nat × Smy) := [(9, ⟨22, [.agg [.pl (.int .i64), .pl (.int .i64), .pl (.int .i64), .pl (.int .i64), .pl (.int .i64), .pl (.int .i64), .pl (.int .i64), .pl (.int .i64), .pl (.int .i64), .pl (.int .i64), .pl (.int .i64), .pl (.int .i64), .pl (.int .i64)], .one (.pl (.int .i64))], [.one (.pl (.int .i64))], fun _ => [], none⟩), (30, ⟨23, [.agg [.pl (.int .i64), .pl (.int .i64), .pl (.int .i64), .pl (.int .i64), .pl (.int .i64), .pl (.int .i64), .pl (.int .i64), .pl (.int .i64), .pl (.int .i64), .pl (.int .i64), .pl (.int .i64), .pl (.int .i64), .pl (.int .i64)], .one (.pl (.int .i64))], [.one (.pl (.int .i64))], fun _ => [], none⟩)]
def lkNextLa : List (LK × LA) := []
def lkNextPhi : Nat → DV → DV := fun n d => match n with
  | 22 => .list (layWordF d.l)
  | 23 => .list (layValF d.l)
  | _ => d
theorem lkNextS : SmyOk Try.prog lkNextPhi lkNextSm := (smy_cons (fun _ => True) layWordF layWord_pure (fun _ _ _ _ => trivial) (fun _ => rfl) (fun _ h => by cases h) (smy_cons (fun _ => True) layValF layVal_pure (fun _ _ _ _ => trivial) (fun _ => rfl) (fun _ h => by cases h) smy_nil))
theorem lkNextT : treeOk ⟨Try.prog, lkNextSm, lkNextLa⟩ 4000 13 [.agg [.pl (.int .i64), .pl (.int .i64), .pl (.int .i64), .pl (.int .i64), .pl (.int .i64), .pl (.int .i64), .pl (.int .i64), .pl (.int .i64), .pl (.int .i64), .pl (.int .i64), .pl (.int .i64), .pl (.int .i64), .pl (.int .i64)], .one (.pl (.int .i64)), .agg [.pl (.int .i64), .pl (.int .i64), .pl (.int .i64), .pl (.int .i64), .pl (.int .i64), .pl (.int .i64), .pl (.int .i64), .rows false [.int .i64, .int .i64, .int .i64], .rows false [.int .i64, .int .i64], .rows false [.bool]], .one (.rows false [.int .i64, .bool])] [.agg [.pl (.int .i64), .pl (.int .i64), .pl (.int .i64), .pl (.int .i64), .pl .str], .agg [.pl (.int .i64), .pl (.int .i64), .pl (.int .i64), .pl (.int .i64), .pl .bool, .pl .bool, .pl (.int .i64)], .one (.pl .bool)] ([]) lkNextTree = true := by decide +kernel
set_option maxHeartbeats 1000000 in
theorem lkNext_pure : Pure Try.prog 13 [.agg [.pl (.int .i64), .pl (.int .i64), .pl (.int .i64), .pl (.int .i64), .pl (.int .i64), .pl (.int .i64), .pl (.int .i64), .pl (.int .i64), .pl (.int .i64), .pl (.int .i64), .pl (.int .i64), .pl (.int .i64), .pl (.int .i64)], .one (.pl (.int .i64)), .agg [.pl (.int .i64), .pl (.int .i64), .pl (.int .i64), .pl (.int .i64), .pl (.int .i64), .pl (.int .i64), .pl (.int .i64), .rows false [.int .i64, .int .i64, .int .i64], .rows false [.int .i64, .int .i64], .rows false [.bool]], .one (.rows false [.int .i64, .bool])] [.agg [.pl (.int .i64), .pl (.int .i64), .pl (.int .i64), .pl (.int .i64), .pl .str], .agg [.pl (.int .i64), .pl (.int .i64), .pl (.int .i64), .pl (.int .i64), .pl .bool, .pl .bool, .pl (.int .i64)], .one (.pl .bool)] (fun _ => True) lkNextF := by
  refine pure_tree (X := ⟨Try.prog, lkNextSm, lkNextLa⟩) (Checked.mixed Try.checked) lkNextS (by decide +kernel) (by decide +kernel) lkNextT (by decide +kernel) ?_
  intro ds hl hp
  obtain ⟨d0, d1, d2, d3, d4, d5, d6, d7, d8, d9, d10, d11, d12, d13, d14, d15, d16, d17, d18, d19, d20, d21, d22, d23, d24, rfl⟩ := len25 hl
  have hF : lkNextF [d0, d1, d2, d3, d4, d5, d6, d7, d8, d9, d10, d11, d12, d13, d14, d15, d16, d17, d18, d19, d20, d21, d22, d23, d24] = lkNextE d0.i d1.i d2.i d3.i d4.i d5.i d6.i d7.i d8.i d9.i d10.i d11.i d12.i d13.i d14.i d15.i d16.i d17.i d18.i d19.i d20.i (d21.l.map deciii) (d22.l.map decii) (d23.l.map DV.b) (d24.l.map decib) := rfl
  rw [hF]
  clear hF hp hl
  have hN : nrmL (clsOf [.agg [.pl (.int .i64), .pl (.int .i64), .pl (.int .i64), .pl (.int .i64), .pl (.int .i64), .pl (.int .i64), .pl (.int .i64), .pl (.int .i64), .pl (.int .i64), .pl (.int .i64), .pl (.int .i64), .pl (.int .i64), .pl (.int .i64)], .one (.pl (.int .i64)), .agg [.pl (.int .i64), .pl (.int .i64), .pl (.int .i64), .pl (.int .i64), .pl (.int .i64), .pl (.int .i64), .pl (.int .i64), .rows false [.int .i64, .int .i64, .int .i64], .rows false [.int .i64, .int .i64], .rows false [.bool]], .one (.rows false [.int .i64, .bool])]) [d0, d1, d2, d3, d4, d5, d6, d7, d8, d9, d10, d11, d12, d13, d14, d15, d16, d17, d18, d19, d20, d21, d22, d23, d24] = [.int d0.i, .int d1.i, .int d2.i, .int d3.i, .int d4.i, .int d5.i, .int d6.i, .int d7.i, .int d8.i, .int d9.i, .int d10.i, .int d11.i, .int d12.i, .int d13.i, .int d14.i, .int d15.i, .int d16.i, .int d17.i, .int d18.i, .int d19.i, .int d20.i, .list ((d21.l.map deciii).map enciii), .list ((d22.l.map decii).map encii), .list ((d23.l.map DV.b).map DV.bool), .list ((d24.l.map decib).map encib)] := by
    simp only [clsOf, Sh.cls, List.append_nil, List.cons_append, List.nil_append, nrmL, Cl.nrm, CK.nrm, map_Lb, map_Lib, map_Lii, map_Liii]
  rw [hN]
  clear hN
  generalize d0.i = x0
  generalize d1.i = x1
  generalize d2.i = x2
  generalize d3.i = x3
  generalize d4.i = x4
  generalize d5.i = x5
  generalize d6.i = x6
  generalize d7.i = x7
  generalize d8.i = x8
  generalize d9.i = x9
  generalize d10.i = x10
  generalize d11.i = x11
  generalize d12.i = x12
  generalize d13.i = x13
  generalize d14.i = x14
  generalize d15.i = x15
  generalize d16.i = x16
  generalize d17.i = x17
  generalize d18.i = x18
  generalize d19.i = x19
  generalize d20.i = x20
  generalize d21.l.map deciii = x21
  generalize d22.l.map decii = x22
  generalize d23.l.map DV.b = x23
  generalize d24.l.map decib = x24
  refine ⟨facts_nil _, ?_⟩
  unfold lkNextTree lkNextE
  simp only [Sat, clsOf, Sh.cls, List.append_nil, List.cons_append, List.nil_append, nrmL, Cl.nrm, CK.nrm, List.map_cons, List.map_nil, List.length_cons, List.length_nil, List.cons.injEq, DV.bool.injEq, DV.int.injEq, DV.list.injEq, DV.str.injEq, and_true, true_and]
  simp only [q_le, q_eq, q_eqs, q_eqb, q_and, q_or, q_not, q_bool, iff_true, iff_false, Bool.not_true, Bool.not_false, Bool.false_eq_true, Bool.true_eq_false, eq_self, Bool.not_not]
  simp only [Bool.not_true, Bool.not_false, Bool.true_eq_false, SE.den, evU, evT, ev_le, ev_eq, ev_eqs, ev_eqb, ev_slt, ev_and, ev_or, ev_add, ev_sub, ev_mul, ev_tdiv, ev_tmod, ev_band, ev_bor, ev_bxor, ev_bandn, ev_shl, ev_shr, ev_cat, ev_byte, ev_idx, ev_cons, ev_snoc, ev_app, ev_take, ev_drop, ev_stake, ev_sdrop, ev_rep, leB_q, eqB_q, eqsB_q, not_q, i_if, b_if, l_if, s_if, i_int, b_bool, s_str, l_list, envL, List.getElem?_cons_succ, List.getElem?_cons_zero, List.getElem?_nil, Option.getD_some, Option.getD_none, Int.toNat_natCast, Int.toNat_zero, Int.reduceToNat, List.length_map, get_Li, get_Lb, get_Ls, set_Li, inj_Li, inj_Lb, inj_Ls, rows_i, rows_b, rows_s, Int.zero_add, iff_true, iff_false, and_true, true_and, Bool.false_eq_true, eq_self, not_true_eq_false, not_false_eq_true, List.length_replicate, DV.int.injEq, DV.bool.injEq, DV.str.injEq, DV.list.injEq, List.cons.injEq, f_ib_0, rows_ib, inj_Lib, f_ib_1, rows_ib, inj_Lib, f_ii_0, rows_ii, inj_Lii, f_ii_1, rows_ii, inj_Lii, f_iii_0, rows_iii, inj_Liii, f_iii_1, rows_iii, inj_Liii, f_iii_2, rows_iii, inj_Liii, lkNextPhi, layWordF, layWordE, layValF, layValE, gi, gb, gs, gLi, gLu, gLb, gLs, dece_i, dece_b, dece_s, band1, shr1n, shl1n, bor1, nrm_nx]
  repeat' (first | apply And.intro | intro)
  all_goals first
    | (simp only [lkM, askN, doneN, Nx.ds, *]; simp; done)
    | (unfold lkM askN doneN; grind [Nx.ds])
    | trace_state
end Go.Proofs.Ytjkdenancggndaa
