/- WaitMatchesSpec: the law returns true for every input, and each argument reads afterwards as it read before. No condition. -/
import Derived.Test.YtolphdchkbcoeaaLSane21
import Derived.Test.YtolphdchkbcoeaaROfM
import Derived.Test.YtolphdchkbcoeaaTNext
import Derived.Test.YtolphdchkbcoeaaRTNext
import Derived.Test.YtolphdchkbcoeaaTRouse
import Derived.Test.YtolphdchkbcoeaaRTRouse
import Derived.Test.YtolphdchkbcoeaaRAccesses
import Derived.Test.YtolphdchkbcoeaaBd
import Derived.Test.YtolphdchkbcoeaaOpen
namespace Go.Proofs.Ytolphdchkbcoeaa
set_option linter.unusedVariables false
set_option linter.unusedSimpArgs false
set_option maxRecDepth 100000

theorem goN_congr (put : Bool) {chg chg' : Int → Int} (c me : Int) : ∀ (j : Nat) (l : List Tib), (∀ r ∈ l, chg r.1 = chg' r.1) → goN put chg c me j l = goN put chg' c me j l
  | j, [], h => rfl
  | j, [r], h => by unfold goN; rw [h r (by simp)]
  | j, r :: s :: rest, h => by
    unfold goN
    rw [goN_congr put c me (j + 2) rest fun x hx => h x (by simp [hx])]
theorem allN_congr (put : Bool) {chg chg' : Int → Int} (me : Int) {log : List Tib} (h : ∀ r ∈ log, chg r.1 = chg' r.1) : ∀ (wt : List Int) (j : Nat), allN put chg me log wt j = allN put chg' me log wt j
  | [], j => rfl
  | c :: cs, j => by
    unfold allN
    rw [goN_congr put c me j _ fun r hr => h r (List.mem_of_mem_drop hr)]
    split
    · rfl
    · exact allN_congr put me h cs _
theorem waitF_congr {chgW chgW' chgO chgO' : Int → Int} {wake st me kind : Int} {wt : List Int} {wd : List (Int × Int)} {log : List Tib} (h1 : ∀ r ∈ log, chgW r.1 = chgW' r.1) (h2 : ∀ r ∈ log, chgO r.1 = chgO' r.1) : waitF chgW chgO wake st me kind wt wd log = waitF chgW' chgO' wake st me kind wt wd log := by
  have e : ∀ a, watchT chgO me wt wd log a = watchT chgO' me wt wd log a := fun a => by
    cases a with
    | inl n => rfl
    | inr j =>
      simp only [watchT]
      generalize valN log wd j = b
      cases b with
      | inl n => rfl
      | inr p => obtain ⟨b, j⟩ := p; cases b <;> simp only [tailT]; rw [allN_congr false me h2]
  unfold waitF
  simp only [allN_congr true me h1, allN_congr false me h2, e]

def waitMatchesF (ds : List DV) : List DV := [.bool true]
/-- What the executor makes of it. -/
def waitMatchesTree : PT :=
(.br (.bin .eq (.bin .idx (.fn 128 (.bin .cons (.var 0) (.bin .cons (.var 1) (.bin .cons (.var 2) (.bin .cons (.var 3) (.bin .cons (.var 4) .nil)))))) (.int 13)) (.int 0))
 (.br (.un .not (.bin .and (.bin .and (.bin .eq (.bin .idx (.fn 128 (.bin .cons (.var 0) (.bin .cons (.var 1) (.bin .cons (.var 2) (.bin .cons (.var 3) (.bin .cons (.var 4) .nil)))))) (.int 0)) (.var 0)) (.bin .and (.bin .eq (.bin .idx (.fn 128 (.bin .cons (.var 0) (.bin .cons (.var 1) (.bin .cons (.var 2) (.bin .cons (.var 3) (.bin .cons (.var 4) .nil)))))) (.int 1)) (.var 1)) (.bin .and (.bin .eq (.bin .idx (.fn 128 (.bin .cons (.var 0) (.bin .cons (.var 1) (.bin .cons (.var 2) (.bin .cons (.var 3) (.bin .cons (.var 4) .nil)))))) (.int 2)) (.var 2)) (.bin .and (.bin .eq (.bin .idx (.fn 128 (.bin .cons (.var 0) (.bin .cons (.var 1) (.bin .cons (.var 2) (.bin .cons (.var 3) (.bin .cons (.var 4) .nil)))))) (.int 3)) (.var 3)) (.bin .eq (.bin .idx (.fn 128 (.bin .cons (.var 0) (.bin .cons (.var 1) (.bin .cons (.var 2) (.bin .cons (.var 3) (.bin .cons (.var 4) .nil)))))) (.int 4)) (.var 4)))))) (.bin .and (.bin .eq (.bin .idx (.fn 128 (.bin .cons (.var 0) (.bin .cons (.var 1) (.bin .cons (.var 2) (.bin .cons (.var 3) (.bin .cons (.var 4) .nil)))))) (.int 5)) (.var 5)) (.bin .and (.bin .eq (.bin .idx (.fn 128 (.bin .cons (.var 0) (.bin .cons (.var 1) (.bin .cons (.var 2) (.bin .cons (.var 3) (.bin .cons (.var 4) .nil)))))) (.int 6)) (.var 6)) (.bin .and (.bin .eq (.bin .idx (.fn 128 (.bin .cons (.var 0) (.bin .cons (.var 1) (.bin .cons (.var 2) (.bin .cons (.var 3) (.bin .cons (.var 4) .nil)))))) (.int 7)) (.var 7)) (.bin .and (.bin .eq (.bin .idx (.fn 128 (.bin .cons (.var 0) (.bin .cons (.var 1) (.bin .cons (.var 2) (.bin .cons (.var 3) (.bin .cons (.var 4) .nil)))))) (.int 8)) (.var 8)) (.bin .and (.bin .eq (.bin .idx (.fn 128 (.bin .cons (.var 0) (.bin .cons (.var 1) (.bin .cons (.var 2) (.bin .cons (.var 3) (.bin .cons (.var 4) .nil)))))) (.int 9)) (.var 9)) (.bin .and (.bin .eq (.bin .idx (.fn 128 (.bin .cons (.var 0) (.bin .cons (.var 1) (.bin .cons (.var 2) (.bin .cons (.var 3) (.bin .cons (.var 4) .nil)))))) (.int 10)) (.var 10)) (.bin .and (.bin .eq (.bin .idx (.fn 128 (.bin .cons (.var 0) (.bin .cons (.var 1) (.bin .cons (.var 2) (.bin .cons (.var 3) (.bin .cons (.var 4) .nil)))))) (.int 11)) (.var 11)) (.bin .eq (.bin .idx (.fn 128 (.bin .cons (.var 0) (.bin .cons (.var 1) (.bin .cons (.var 2) (.bin .cons (.var 3) (.bin .cons (.var 4) .nil)))))) (.int 12)) (.var 12)))))))))))
  (.leaf [(.bin .idx (.fn 126 .nil) (.int 0))])
  (.br (.un .not (.bin .le (.un .len (.var 24)) (.int 200)))
   (.leaf [(.bin .idx (.fn 126 .nil) (.int 0))])
   (.br (.un .not (.bin .le (.un .len (.var 21)) (.int 30)))
    (.leaf [(.bin .idx (.fn 126 .nil) (.int 0))])
    (.br (.bin .idx (.fn 126 .nil) (.int 0))
     (.br (.bin .and (.bin .eq (.bin .idx (.fn 106 (.bin .cons (.var 0) (.bin .cons (.var 1) (.bin .cons (.var 2) (.bin .cons (.var 3) (.bin .cons (.var 4) (.bin .cons (.var 5) (.bin .cons (.var 6) (.bin .cons (.var 7) (.bin .cons (.var 8) (.bin .cons (.var 9) (.bin .cons (.var 10) (.bin .cons (.var 11) (.bin .cons (.var 12) (.bin .cons (.var 13) (.bin .cons (.var 14) (.bin .cons (.var 15) (.bin .cons (.var 16) (.bin .cons (.var 17) (.bin .cons (.var 18) (.bin .cons (.var 19) (.bin .cons (.var 20) (.bin .cons (.var 21) (.bin .cons (.var 22) (.bin .cons (.var 23) (.bin .cons (.var 24) .nil)))))))))))))))))))))))))) (.int 0)) (.bin .idx (.fn 108 (.bin .cons (.var 0) (.bin .cons (.var 1) (.bin .cons (.var 2) (.bin .cons (.var 3) (.bin .cons (.var 4) (.bin .cons (.var 5) (.bin .cons (.var 6) (.bin .cons (.var 7) (.bin .cons (.var 8) (.bin .cons (.var 9) (.bin .cons (.var 10) (.bin .cons (.var 11) (.bin .cons (.var 12) (.bin .cons (.var 13) (.bin .cons (.var 14) (.bin .cons (.var 15) (.bin .cons (.var 16) (.bin .cons (.var 17) (.bin .cons (.var 18) (.bin .cons (.var 19) (.bin .cons (.var 20) (.bin .cons (.var 21) (.bin .cons (.var 22) (.bin .cons (.var 23) (.bin .cons (.var 24) .nil)))))))))))))))))))))))))) (.int 0))) (.bin .and (.bin .eq (.bin .idx (.fn 106 (.bin .cons (.var 0) (.bin .cons (.var 1) (.bin .cons (.var 2) (.bin .cons (.var 3) (.bin .cons (.var 4) (.bin .cons (.var 5) (.bin .cons (.var 6) (.bin .cons (.var 7) (.bin .cons (.var 8) (.bin .cons (.var 9) (.bin .cons (.var 10) (.bin .cons (.var 11) (.bin .cons (.var 12) (.bin .cons (.var 13) (.bin .cons (.var 14) (.bin .cons (.var 15) (.bin .cons (.var 16) (.bin .cons (.var 17) (.bin .cons (.var 18) (.bin .cons (.var 19) (.bin .cons (.var 20) (.bin .cons (.var 21) (.bin .cons (.var 22) (.bin .cons (.var 23) (.bin .cons (.var 24) .nil)))))))))))))))))))))))))) (.int 1)) (.bin .idx (.fn 108 (.bin .cons (.var 0) (.bin .cons (.var 1) (.bin .cons (.var 2) (.bin .cons (.var 3) (.bin .cons (.var 4) (.bin .cons (.var 5) (.bin .cons (.var 6) (.bin .cons (.var 7) (.bin .cons (.var 8) (.bin .cons (.var 9) (.bin .cons (.var 10) (.bin .cons (.var 11) (.bin .cons (.var 12) (.bin .cons (.var 13) (.bin .cons (.var 14) (.bin .cons (.var 15) (.bin .cons (.var 16) (.bin .cons (.var 17) (.bin .cons (.var 18) (.bin .cons (.var 19) (.bin .cons (.var 20) (.bin .cons (.var 21) (.bin .cons (.var 22) (.bin .cons (.var 23) (.bin .cons (.var 24) .nil)))))))))))))))))))))))))) (.int 1))) (.bin .and (.bin .eq (.bin .idx (.fn 106 (.bin .cons (.var 0) (.bin .cons (.var 1) (.bin .cons (.var 2) (.bin .cons (.var 3) (.bin .cons (.var 4) (.bin .cons (.var 5) (.bin .cons (.var 6) (.bin .cons (.var 7) (.bin .cons (.var 8) (.bin .cons (.var 9) (.bin .cons (.var 10) (.bin .cons (.var 11) (.bin .cons (.var 12) (.bin .cons (.var 13) (.bin .cons (.var 14) (.bin .cons (.var 15) (.bin .cons (.var 16) (.bin .cons (.var 17) (.bin .cons (.var 18) (.bin .cons (.var 19) (.bin .cons (.var 20) (.bin .cons (.var 21) (.bin .cons (.var 22) (.bin .cons (.var 23) (.bin .cons (.var 24) .nil)))))))))))))))))))))))))) (.int 2)) (.bin .idx (.fn 108 (.bin .cons (.var 0) (.bin .cons (.var 1) (.bin .cons (.var 2) (.bin .cons (.var 3) (.bin .cons (.var 4) (.bin .cons (.var 5) (.bin .cons (.var 6) (.bin .cons (.var 7) (.bin .cons (.var 8) (.bin .cons (.var 9) (.bin .cons (.var 10) (.bin .cons (.var 11) (.bin .cons (.var 12) (.bin .cons (.var 13) (.bin .cons (.var 14) (.bin .cons (.var 15) (.bin .cons (.var 16) (.bin .cons (.var 17) (.bin .cons (.var 18) (.bin .cons (.var 19) (.bin .cons (.var 20) (.bin .cons (.var 21) (.bin .cons (.var 22) (.bin .cons (.var 23) (.bin .cons (.var 24) .nil)))))))))))))))))))))))))) (.int 2))) (.bin .and (.bin .eq (.bin .idx (.fn 106 (.bin .cons (.var 0) (.bin .cons (.var 1) (.bin .cons (.var 2) (.bin .cons (.var 3) (.bin .cons (.var 4) (.bin .cons (.var 5) (.bin .cons (.var 6) (.bin .cons (.var 7) (.bin .cons (.var 8) (.bin .cons (.var 9) (.bin .cons (.var 10) (.bin .cons (.var 11) (.bin .cons (.var 12) (.bin .cons (.var 13) (.bin .cons (.var 14) (.bin .cons (.var 15) (.bin .cons (.var 16) (.bin .cons (.var 17) (.bin .cons (.var 18) (.bin .cons (.var 19) (.bin .cons (.var 20) (.bin .cons (.var 21) (.bin .cons (.var 22) (.bin .cons (.var 23) (.bin .cons (.var 24) .nil)))))))))))))))))))))))))) (.int 3)) (.bin .idx (.fn 108 (.bin .cons (.var 0) (.bin .cons (.var 1) (.bin .cons (.var 2) (.bin .cons (.var 3) (.bin .cons (.var 4) (.bin .cons (.var 5) (.bin .cons (.var 6) (.bin .cons (.var 7) (.bin .cons (.var 8) (.bin .cons (.var 9) (.bin .cons (.var 10) (.bin .cons (.var 11) (.bin .cons (.var 12) (.bin .cons (.var 13) (.bin .cons (.var 14) (.bin .cons (.var 15) (.bin .cons (.var 16) (.bin .cons (.var 17) (.bin .cons (.var 18) (.bin .cons (.var 19) (.bin .cons (.var 20) (.bin .cons (.var 21) (.bin .cons (.var 22) (.bin .cons (.var 23) (.bin .cons (.var 24) .nil)))))))))))))))))))))))))) (.int 3))) (.bin .eqs (.bin .idx (.fn 106 (.bin .cons (.var 0) (.bin .cons (.var 1) (.bin .cons (.var 2) (.bin .cons (.var 3) (.bin .cons (.var 4) (.bin .cons (.var 5) (.bin .cons (.var 6) (.bin .cons (.var 7) (.bin .cons (.var 8) (.bin .cons (.var 9) (.bin .cons (.var 10) (.bin .cons (.var 11) (.bin .cons (.var 12) (.bin .cons (.var 13) (.bin .cons (.var 14) (.bin .cons (.var 15) (.bin .cons (.var 16) (.bin .cons (.var 17) (.bin .cons (.var 18) (.bin .cons (.var 19) (.bin .cons (.var 20) (.bin .cons (.var 21) (.bin .cons (.var 22) (.bin .cons (.var 23) (.bin .cons (.var 24) .nil)))))))))))))))))))))))))) (.int 4)) (.bin .idx (.fn 108 (.bin .cons (.var 0) (.bin .cons (.var 1) (.bin .cons (.var 2) (.bin .cons (.var 3) (.bin .cons (.var 4) (.bin .cons (.var 5) (.bin .cons (.var 6) (.bin .cons (.var 7) (.bin .cons (.var 8) (.bin .cons (.var 9) (.bin .cons (.var 10) (.bin .cons (.var 11) (.bin .cons (.var 12) (.bin .cons (.var 13) (.bin .cons (.var 14) (.bin .cons (.var 15) (.bin .cons (.var 16) (.bin .cons (.var 17) (.bin .cons (.var 18) (.bin .cons (.var 19) (.bin .cons (.var 20) (.bin .cons (.var 21) (.bin .cons (.var 22) (.bin .cons (.var 23) (.bin .cons (.var 24) .nil)))))))))))))))))))))))))) (.int 4)))))))
      (.br (.bin .and (.bin .eq (.bin .idx (.fn 106 (.bin .cons (.var 0) (.bin .cons (.var 1) (.bin .cons (.var 2) (.bin .cons (.var 3) (.bin .cons (.var 4) (.bin .cons (.var 5) (.bin .cons (.var 6) (.bin .cons (.var 7) (.bin .cons (.var 8) (.bin .cons (.var 9) (.bin .cons (.var 10) (.bin .cons (.var 11) (.bin .cons (.var 12) (.bin .cons (.var 13) (.bin .cons (.var 14) (.bin .cons (.var 15) (.bin .cons (.var 16) (.bin .cons (.var 17) (.bin .cons (.var 18) (.bin .cons (.var 19) (.bin .cons (.var 20) (.bin .cons (.var 21) (.bin .cons (.var 22) (.bin .cons (.var 23) (.bin .cons (.var 24) .nil)))))))))))))))))))))))))) (.int 5)) (.bin .idx (.fn 108 (.bin .cons (.var 0) (.bin .cons (.var 1) (.bin .cons (.var 2) (.bin .cons (.var 3) (.bin .cons (.var 4) (.bin .cons (.var 5) (.bin .cons (.var 6) (.bin .cons (.var 7) (.bin .cons (.var 8) (.bin .cons (.var 9) (.bin .cons (.var 10) (.bin .cons (.var 11) (.bin .cons (.var 12) (.bin .cons (.var 13) (.bin .cons (.var 14) (.bin .cons (.var 15) (.bin .cons (.var 16) (.bin .cons (.var 17) (.bin .cons (.var 18) (.bin .cons (.var 19) (.bin .cons (.var 20) (.bin .cons (.var 21) (.bin .cons (.var 22) (.bin .cons (.var 23) (.bin .cons (.var 24) .nil)))))))))))))))))))))))))) (.int 5))) (.bin .and (.bin .eq (.bin .idx (.fn 106 (.bin .cons (.var 0) (.bin .cons (.var 1) (.bin .cons (.var 2) (.bin .cons (.var 3) (.bin .cons (.var 4) (.bin .cons (.var 5) (.bin .cons (.var 6) (.bin .cons (.var 7) (.bin .cons (.var 8) (.bin .cons (.var 9) (.bin .cons (.var 10) (.bin .cons (.var 11) (.bin .cons (.var 12) (.bin .cons (.var 13) (.bin .cons (.var 14) (.bin .cons (.var 15) (.bin .cons (.var 16) (.bin .cons (.var 17) (.bin .cons (.var 18) (.bin .cons (.var 19) (.bin .cons (.var 20) (.bin .cons (.var 21) (.bin .cons (.var 22) (.bin .cons (.var 23) (.bin .cons (.var 24) .nil)))))))))))))))))))))))))) (.int 6)) (.bin .idx (.fn 108 (.bin .cons (.var 0) (.bin .cons (.var 1) (.bin .cons (.var 2) (.bin .cons (.var 3) (.bin .cons (.var 4) (.bin .cons (.var 5) (.bin .cons (.var 6) (.bin .cons (.var 7) (.bin .cons (.var 8) (.bin .cons (.var 9) (.bin .cons (.var 10) (.bin .cons (.var 11) (.bin .cons (.var 12) (.bin .cons (.var 13) (.bin .cons (.var 14) (.bin .cons (.var 15) (.bin .cons (.var 16) (.bin .cons (.var 17) (.bin .cons (.var 18) (.bin .cons (.var 19) (.bin .cons (.var 20) (.bin .cons (.var 21) (.bin .cons (.var 22) (.bin .cons (.var 23) (.bin .cons (.var 24) .nil)))))))))))))))))))))))))) (.int 6))) (.bin .and (.bin .eq (.bin .idx (.fn 106 (.bin .cons (.var 0) (.bin .cons (.var 1) (.bin .cons (.var 2) (.bin .cons (.var 3) (.bin .cons (.var 4) (.bin .cons (.var 5) (.bin .cons (.var 6) (.bin .cons (.var 7) (.bin .cons (.var 8) (.bin .cons (.var 9) (.bin .cons (.var 10) (.bin .cons (.var 11) (.bin .cons (.var 12) (.bin .cons (.var 13) (.bin .cons (.var 14) (.bin .cons (.var 15) (.bin .cons (.var 16) (.bin .cons (.var 17) (.bin .cons (.var 18) (.bin .cons (.var 19) (.bin .cons (.var 20) (.bin .cons (.var 21) (.bin .cons (.var 22) (.bin .cons (.var 23) (.bin .cons (.var 24) .nil)))))))))))))))))))))))))) (.int 7)) (.bin .idx (.fn 108 (.bin .cons (.var 0) (.bin .cons (.var 1) (.bin .cons (.var 2) (.bin .cons (.var 3) (.bin .cons (.var 4) (.bin .cons (.var 5) (.bin .cons (.var 6) (.bin .cons (.var 7) (.bin .cons (.var 8) (.bin .cons (.var 9) (.bin .cons (.var 10) (.bin .cons (.var 11) (.bin .cons (.var 12) (.bin .cons (.var 13) (.bin .cons (.var 14) (.bin .cons (.var 15) (.bin .cons (.var 16) (.bin .cons (.var 17) (.bin .cons (.var 18) (.bin .cons (.var 19) (.bin .cons (.var 20) (.bin .cons (.var 21) (.bin .cons (.var 22) (.bin .cons (.var 23) (.bin .cons (.var 24) .nil)))))))))))))))))))))))))) (.int 7))) (.bin .and (.bin .eq (.bin .idx (.fn 106 (.bin .cons (.var 0) (.bin .cons (.var 1) (.bin .cons (.var 2) (.bin .cons (.var 3) (.bin .cons (.var 4) (.bin .cons (.var 5) (.bin .cons (.var 6) (.bin .cons (.var 7) (.bin .cons (.var 8) (.bin .cons (.var 9) (.bin .cons (.var 10) (.bin .cons (.var 11) (.bin .cons (.var 12) (.bin .cons (.var 13) (.bin .cons (.var 14) (.bin .cons (.var 15) (.bin .cons (.var 16) (.bin .cons (.var 17) (.bin .cons (.var 18) (.bin .cons (.var 19) (.bin .cons (.var 20) (.bin .cons (.var 21) (.bin .cons (.var 22) (.bin .cons (.var 23) (.bin .cons (.var 24) .nil)))))))))))))))))))))))))) (.int 8)) (.bin .idx (.fn 108 (.bin .cons (.var 0) (.bin .cons (.var 1) (.bin .cons (.var 2) (.bin .cons (.var 3) (.bin .cons (.var 4) (.bin .cons (.var 5) (.bin .cons (.var 6) (.bin .cons (.var 7) (.bin .cons (.var 8) (.bin .cons (.var 9) (.bin .cons (.var 10) (.bin .cons (.var 11) (.bin .cons (.var 12) (.bin .cons (.var 13) (.bin .cons (.var 14) (.bin .cons (.var 15) (.bin .cons (.var 16) (.bin .cons (.var 17) (.bin .cons (.var 18) (.bin .cons (.var 19) (.bin .cons (.var 20) (.bin .cons (.var 21) (.bin .cons (.var 22) (.bin .cons (.var 23) (.bin .cons (.var 24) .nil)))))))))))))))))))))))))) (.int 8))) (.bin .and (.bin .eqb (.bin .idx (.fn 106 (.bin .cons (.var 0) (.bin .cons (.var 1) (.bin .cons (.var 2) (.bin .cons (.var 3) (.bin .cons (.var 4) (.bin .cons (.var 5) (.bin .cons (.var 6) (.bin .cons (.var 7) (.bin .cons (.var 8) (.bin .cons (.var 9) (.bin .cons (.var 10) (.bin .cons (.var 11) (.bin .cons (.var 12) (.bin .cons (.var 13) (.bin .cons (.var 14) (.bin .cons (.var 15) (.bin .cons (.var 16) (.bin .cons (.var 17) (.bin .cons (.var 18) (.bin .cons (.var 19) (.bin .cons (.var 20) (.bin .cons (.var 21) (.bin .cons (.var 22) (.bin .cons (.var 23) (.bin .cons (.var 24) .nil)))))))))))))))))))))))))) (.int 9)) (.bin .idx (.fn 108 (.bin .cons (.var 0) (.bin .cons (.var 1) (.bin .cons (.var 2) (.bin .cons (.var 3) (.bin .cons (.var 4) (.bin .cons (.var 5) (.bin .cons (.var 6) (.bin .cons (.var 7) (.bin .cons (.var 8) (.bin .cons (.var 9) (.bin .cons (.var 10) (.bin .cons (.var 11) (.bin .cons (.var 12) (.bin .cons (.var 13) (.bin .cons (.var 14) (.bin .cons (.var 15) (.bin .cons (.var 16) (.bin .cons (.var 17) (.bin .cons (.var 18) (.bin .cons (.var 19) (.bin .cons (.var 20) (.bin .cons (.var 21) (.bin .cons (.var 22) (.bin .cons (.var 23) (.bin .cons (.var 24) .nil)))))))))))))))))))))))))) (.int 9))) (.bin .and (.bin .eqb (.bin .idx (.fn 106 (.bin .cons (.var 0) (.bin .cons (.var 1) (.bin .cons (.var 2) (.bin .cons (.var 3) (.bin .cons (.var 4) (.bin .cons (.var 5) (.bin .cons (.var 6) (.bin .cons (.var 7) (.bin .cons (.var 8) (.bin .cons (.var 9) (.bin .cons (.var 10) (.bin .cons (.var 11) (.bin .cons (.var 12) (.bin .cons (.var 13) (.bin .cons (.var 14) (.bin .cons (.var 15) (.bin .cons (.var 16) (.bin .cons (.var 17) (.bin .cons (.var 18) (.bin .cons (.var 19) (.bin .cons (.var 20) (.bin .cons (.var 21) (.bin .cons (.var 22) (.bin .cons (.var 23) (.bin .cons (.var 24) .nil)))))))))))))))))))))))))) (.int 10)) (.bin .idx (.fn 108 (.bin .cons (.var 0) (.bin .cons (.var 1) (.bin .cons (.var 2) (.bin .cons (.var 3) (.bin .cons (.var 4) (.bin .cons (.var 5) (.bin .cons (.var 6) (.bin .cons (.var 7) (.bin .cons (.var 8) (.bin .cons (.var 9) (.bin .cons (.var 10) (.bin .cons (.var 11) (.bin .cons (.var 12) (.bin .cons (.var 13) (.bin .cons (.var 14) (.bin .cons (.var 15) (.bin .cons (.var 16) (.bin .cons (.var 17) (.bin .cons (.var 18) (.bin .cons (.var 19) (.bin .cons (.var 20) (.bin .cons (.var 21) (.bin .cons (.var 22) (.bin .cons (.var 23) (.bin .cons (.var 24) .nil)))))))))))))))))))))))))) (.int 10))) (.bin .eq (.bin .idx (.fn 106 (.bin .cons (.var 0) (.bin .cons (.var 1) (.bin .cons (.var 2) (.bin .cons (.var 3) (.bin .cons (.var 4) (.bin .cons (.var 5) (.bin .cons (.var 6) (.bin .cons (.var 7) (.bin .cons (.var 8) (.bin .cons (.var 9) (.bin .cons (.var 10) (.bin .cons (.var 11) (.bin .cons (.var 12) (.bin .cons (.var 13) (.bin .cons (.var 14) (.bin .cons (.var 15) (.bin .cons (.var 16) (.bin .cons (.var 17) (.bin .cons (.var 18) (.bin .cons (.var 19) (.bin .cons (.var 20) (.bin .cons (.var 21) (.bin .cons (.var 22) (.bin .cons (.var 23) (.bin .cons (.var 24) .nil)))))))))))))))))))))))))) (.int 11)) (.bin .idx (.fn 108 (.bin .cons (.var 0) (.bin .cons (.var 1) (.bin .cons (.var 2) (.bin .cons (.var 3) (.bin .cons (.var 4) (.bin .cons (.var 5) (.bin .cons (.var 6) (.bin .cons (.var 7) (.bin .cons (.var 8) (.bin .cons (.var 9) (.bin .cons (.var 10) (.bin .cons (.var 11) (.bin .cons (.var 12) (.bin .cons (.var 13) (.bin .cons (.var 14) (.bin .cons (.var 15) (.bin .cons (.var 16) (.bin .cons (.var 17) (.bin .cons (.var 18) (.bin .cons (.var 19) (.bin .cons (.var 20) (.bin .cons (.var 21) (.bin .cons (.var 22) (.bin .cons (.var 23) (.bin .cons (.var 24) .nil)))))))))))))))))))))))))) (.int 11)))))))))
       (.br (.bin .eqb (.bin .idx (.fn 106 (.bin .cons (.var 0) (.bin .cons (.var 1) (.bin .cons (.var 2) (.bin .cons (.var 3) (.bin .cons (.var 4) (.bin .cons (.var 5) (.bin .cons (.var 6) (.bin .cons (.var 7) (.bin .cons (.var 8) (.bin .cons (.var 9) (.bin .cons (.var 10) (.bin .cons (.var 11) (.bin .cons (.var 12) (.bin .cons (.var 13) (.bin .cons (.var 14) (.bin .cons (.var 15) (.bin .cons (.var 16) (.bin .cons (.var 17) (.bin .cons (.var 18) (.bin .cons (.var 19) (.bin .cons (.var 20) (.bin .cons (.var 21) (.bin .cons (.var 22) (.bin .cons (.var 23) (.bin .cons (.var 24) .nil)))))))))))))))))))))))))) (.int 12)) (.bin .idx (.fn 108 (.bin .cons (.var 0) (.bin .cons (.var 1) (.bin .cons (.var 2) (.bin .cons (.var 3) (.bin .cons (.var 4) (.bin .cons (.var 5) (.bin .cons (.var 6) (.bin .cons (.var 7) (.bin .cons (.var 8) (.bin .cons (.var 9) (.bin .cons (.var 10) (.bin .cons (.var 11) (.bin .cons (.var 12) (.bin .cons (.var 13) (.bin .cons (.var 14) (.bin .cons (.var 15) (.bin .cons (.var 16) (.bin .cons (.var 17) (.bin .cons (.var 18) (.bin .cons (.var 19) (.bin .cons (.var 20) (.bin .cons (.var 21) (.bin .cons (.var 22) (.bin .cons (.var 23) (.bin .cons (.var 24) .nil)))))))))))))))))))))))))) (.int 12)))
        (.asrt (.bin .le (.var 0) (.int 1000000))
         (.asrt (.bin .le (.un .len (.bin .idx (.fn 109 (.bin .cons (.var 0) (.bin .cons (.var 1) (.bin .cons (.var 2) (.bin .cons (.var 3) (.bin .cons (.var 4) (.bin .cons (.var 5) (.bin .cons (.var 6) (.bin .cons (.var 7) (.bin .cons (.var 8) (.bin .cons (.var 9) (.bin .cons (.var 10) (.bin .cons (.var 11) (.bin .cons (.var 12) (.bin .cons (.var 15) .nil))))))))))))))) (.int 0))) (.int 1000000))
          (.asrt (.bin .le (.un .len (.bin .idx (.fn 111 (.bin .cons (.var 0) (.bin .cons (.var 1) (.bin .cons (.var 2) (.bin .cons (.var 3) (.bin .cons (.var 4) (.bin .cons (.var 5) (.bin .cons (.var 6) (.bin .cons (.var 7) (.bin .cons (.var 8) (.bin .cons (.var 9) (.bin .cons (.var 10) (.bin .cons (.var 11) (.bin .cons (.var 12) (.bin .cons (.var 15) .nil))))))))))))))) (.int 0))) (.int 1000000))
           (.leaf [(.bin .idx (.fn 26 (.bin .cons (.bin .idx (.fn 109 (.bin .cons (.var 0) (.bin .cons (.var 1) (.bin .cons (.var 2) (.bin .cons (.var 3) (.bin .cons (.var 4) (.bin .cons (.var 5) (.bin .cons (.var 6) (.bin .cons (.var 7) (.bin .cons (.var 8) (.bin .cons (.var 9) (.bin .cons (.var 10) (.bin .cons (.var 11) (.bin .cons (.var 12) (.bin .cons (.var 15) .nil))))))))))))))) (.int 0)) (.bin .cons (.bin .idx (.fn 111 (.bin .cons (.var 0) (.bin .cons (.var 1) (.bin .cons (.var 2) (.bin .cons (.var 3) (.bin .cons (.var 4) (.bin .cons (.var 5) (.bin .cons (.var 6) (.bin .cons (.var 7) (.bin .cons (.var 8) (.bin .cons (.var 9) (.bin .cons (.var 10) (.bin .cons (.var 11) (.bin .cons (.var 12) (.bin .cons (.var 15) .nil))))))))))))))) (.int 0)) .nil))) (.int 0))]))))
        (.leaf [(.bool false)]))
       (.leaf [(.bool false)]))
      (.leaf [(.bool false)]))
     (.leaf [(.bool false)])))))
 (.leaf [(.bin .idx (.fn 126 .nil) (.int 0))]))

def waitMatchesSm : List (Nat × Smy) := [(8, ⟨126, [], [.one (.pl .bool)], fun _ => [], none⟩), (25, ⟨128, [.agg [.pl (.int .i64), .pl (.int .i64), .pl (.int .i64), .pl (.int .i64), .pl (.int .i64)]], [.agg [.pl (.int .i64), .pl (.int .i64), .pl (.int .i64), .pl (.int .i64), .pl (.int .i64), .pl (.int .i64), .pl (.int .i64), .pl (.int .i64), .pl (.int .i64), .pl (.int .i64), .pl (.int .i64), .pl (.int .i64), .pl (.int .i64)], .one (.pl (.int .i64))], fun _ => [], none⟩), (10, ⟨106, [.agg [.pl (.int .i64), .pl (.int .i64), .pl (.int .i64), .pl (.int .i64), .pl (.int .i64), .pl (.int .i64), .pl (.int .i64), .pl (.int .i64), .pl (.int .i64), .pl (.int .i64), .pl (.int .i64), .pl (.int .i64), .pl (.int .i64)], .one (.pl (.int .i64)), .agg [.pl (.int .i64), .pl (.int .i64), .pl (.int .i64), .pl (.int .i64), .pl (.int .i64), .pl (.int .i64), .pl (.int .i64), .rows false [.int .i64, .int .i64, .int .i64], .rows false [.int .i64, .int .i64], .rows false [.bool]], .one (.rows false [.int .i64, .bool])], [.agg [.pl (.int .i64), .pl (.int .i64), .pl (.int .i64), .pl (.int .i64), .pl .str], .agg [.pl (.int .i64), .pl (.int .i64), .pl (.int .i64), .pl (.int .i64), .pl .bool, .pl .bool, .pl (.int .i64)], .one (.pl .bool)], lenC [(21, 1000000), (24, 1000000)], none⟩), (11, ⟨108, [.agg [.pl (.int .i64), .pl (.int .i64), .pl (.int .i64), .pl (.int .i64), .pl (.int .i64), .pl (.int .i64), .pl (.int .i64), .pl (.int .i64), .pl (.int .i64), .pl (.int .i64), .pl (.int .i64), .pl (.int .i64), .pl (.int .i64)], .one (.pl (.int .i64)), .agg [.pl (.int .i64), .pl (.int .i64), .pl (.int .i64), .pl (.int .i64), .pl (.int .i64), .pl (.int .i64), .pl (.int .i64), .rows false [.int .i64, .int .i64, .int .i64], .rows false [.int .i64, .int .i64], .rows false [.bool]], .one (.rows false [.int .i64, .bool])], [.agg [.pl (.int .i64), .pl (.int .i64), .pl (.int .i64), .pl (.int .i64), .pl .str], .agg [.pl (.int .i64), .pl (.int .i64), .pl (.int .i64), .pl (.int .i64), .pl .bool, .pl .bool, .pl (.int .i64)], .one (.pl .bool)], lenC [(21, 1000000), (24, 1000000)], none⟩), (13, ⟨109, [.agg [.pl (.int .i64), .pl (.int .i64), .pl (.int .i64), .pl (.int .i64), .pl (.int .i64), .pl (.int .i64), .pl (.int .i64), .pl (.int .i64), .pl (.int .i64), .pl (.int .i64), .pl (.int .i64), .pl (.int .i64), .pl (.int .i64)], .one (.pl (.int .i64))], [.one (.rows true [.int .i64, .int .i64, .int .i64, .int .i64, .str])], fun es => lenC [] es ++ rgeC [(0, -9223372036854775808, 1000000)] es, none⟩), (14, ⟨111, [.agg [.pl (.int .i64), .pl (.int .i64), .pl (.int .i64), .pl (.int .i64), .pl (.int .i64), .pl (.int .i64), .pl (.int .i64), .pl (.int .i64), .pl (.int .i64), .pl (.int .i64), .pl (.int .i64), .pl (.int .i64), .pl (.int .i64)], .one (.pl (.int .i64))], [.one (.rows true [.int .i64, .int .i64, .int .i64, .int .i64, .str])], fun es => lenC [] es ++ rgeC [(0, -9223372036854775808, 1000000)] es, none⟩), (12, ⟨26, [.one (.rows false [.int .i64, .int .i64, .int .i64, .int .i64, .str]), .one (.rows false [.int .i64, .int .i64, .int .i64, .int .i64, .str])], [.one (.pl .bool)], lenC [(0, 1000000), (1, 1000000)], none⟩)]
def waitMatchesLa : List (LK × LA) := []
def waitMatchesPhi : Fs := ⟨fun n d => match n with
  | 126 => .list (lSane21F d.l)
  | 128 => .list (rOfMF d.l)
  | 106 => .list (tNextF d.l)
  | 108 => .list (rTNextF d.l)
  | 109 => .list (tRouseF d.l)
  | 111 => .list (rTRouseF d.l)
  | 26 => .list (rAccessesF d.l)
  | _ => d, 115⟩
theorem waitMatchesS : SmyOk true Try.prog waitMatchesPhi waitMatchesSm := (smy_cons (fun _ => True) lSane21F lSane21_pure (fun _ _ _ _ => trivial) (fun _ => rfl) (fun _ h => by cases h) (smy_cons (fun _ => True) rOfMF rOfM_pure (fun _ _ _ _ => trivial) (fun _ => rfl) (fun _ h => by cases h) (smy_cons (lenP [(21, 1000000), (24, 1000000)]) tNextF tNext_pure (len_hp [(21, 1000000), (24, 1000000)]) (fun _ => rfl) (fun _ h => by cases h) (smy_cons (lenP [(21, 1000000), (24, 1000000)]) rTNextF rTNext_pure (len_hp [(21, 1000000), (24, 1000000)]) (fun _ => rfl) (fun _ h => by cases h) (smy_cons (fun ds => lenP [] ds ∧ rgeP [(0, -9223372036854775808, 1000000)] ds) tRouseF tRouse_pure (both_hp [] [(0, -9223372036854775808, 1000000)]) (fun _ => rfl) (fun _ h => by cases h) (smy_cons (fun ds => lenP [] ds ∧ rgeP [(0, -9223372036854775808, 1000000)] ds) rTRouseF rTRouse_pure (both_hp [] [(0, -9223372036854775808, 1000000)]) (fun _ => rfl) (fun _ h => by cases h) (smy_cons (lenP [(0, 1000000), (1, 1000000)]) rAccessesF rAccesses_pure (len_hp [(0, 1000000), (1, 1000000)]) (fun _ => rfl) (fun _ h => by cases h) smy_nil)))))))
theorem waitMatchesT : treeOk ⟨Try.prog, waitMatchesSm, waitMatchesLa, true⟩ 4000 3 [.agg [.pl (.int .i64), .pl (.int .i64), .pl (.int .i64), .pl (.int .i64), .pl (.int .i64), .pl (.int .i64), .pl (.int .i64), .pl (.int .i64), .pl (.int .i64), .pl (.int .i64), .pl (.int .i64), .pl (.int .i64), .pl (.int .i64), .pl (.int .i64), .pl (.int .i64), .pl (.int .i64), .pl (.int .i64), .pl (.int .i64), .pl (.int .i64), .pl (.int .i64), .pl (.int .i64), .rows false [.int .i64, .int .i64, .int .i64], .rows false [.int .i64, .int .i64], .rows false [.bool], .rows false [.int .i64, .bool]]] [.one (.pl .bool)] (rng (-9223372036854775808) 9223372036854775807 (.var 0) ++ (rng 0 9223372036854775807 (.un .len (.var 21)) ++ (rng 0 9223372036854775807 (.un .len (.var 24)) ++ ([])))) waitMatchesTree = true := by decide +kernel
set_option maxHeartbeats 1000000 in
theorem waitMatches_pure : PureE true Try.prog 3 [.agg [.pl (.int .i64), .pl (.int .i64), .pl (.int .i64), .pl (.int .i64), .pl (.int .i64), .pl (.int .i64), .pl (.int .i64), .pl (.int .i64), .pl (.int .i64), .pl (.int .i64), .pl (.int .i64), .pl (.int .i64), .pl (.int .i64), .pl (.int .i64), .pl (.int .i64), .pl (.int .i64), .pl (.int .i64), .pl (.int .i64), .pl (.int .i64), .pl (.int .i64), .pl (.int .i64), .rows false [.int .i64, .int .i64, .int .i64], .rows false [.int .i64, .int .i64], .rows false [.bool], .rows false [.int .i64, .bool]]] [.one (.pl .bool)] (Wts (clsOf [.agg [.pl (.int .i64), .pl (.int .i64), .pl (.int .i64), .pl (.int .i64), .pl (.int .i64), .pl (.int .i64), .pl (.int .i64), .pl (.int .i64), .pl (.int .i64), .pl (.int .i64), .pl (.int .i64), .pl (.int .i64), .pl (.int .i64), .pl (.int .i64), .pl (.int .i64), .pl (.int .i64), .pl (.int .i64), .pl (.int .i64), .pl (.int .i64), .pl (.int .i64), .pl (.int .i64), .rows false [.int .i64, .int .i64, .int .i64], .rows false [.int .i64, .int .i64], .rows false [.bool], .rows false [.int .i64, .bool]]])) waitMatchesF := by
  refine pure_tree (X := ⟨Try.prog, waitMatchesSm, waitMatchesLa, true⟩) (by decide +kernel) (Checked.mixed Try.checked) waitMatchesS (by decide +kernel) (by decide +kernel) waitMatchesT (by decide +kernel) ?_
  intro ds hl hp
  obtain ⟨d0, d1, d2, d3, d4, d5, d6, d7, d8, d9, d10, d11, d12, d13, d14, d15, d16, d17, d18, d19, d20, d21, d22, d23, d24, rfl⟩ := len25 hl
  obtain ⟨_, _, he, w0, hp⟩ := hp
  cases he
  have r0 : -9223372036854775808 ≤ d0.i ∧ d0.i ≤ 9223372036854775807 := wt_i w0 rfl rfl
  clear w0
  obtain ⟨_, _, he, w1, hp⟩ := hp
  cases he
  have r1 : -9223372036854775808 ≤ d1.i ∧ d1.i ≤ 9223372036854775807 := wt_i w1 rfl rfl
  clear w1
  obtain ⟨_, _, he, w2, hp⟩ := hp
  cases he
  have r2 : -9223372036854775808 ≤ d2.i ∧ d2.i ≤ 9223372036854775807 := wt_i w2 rfl rfl
  clear w2
  obtain ⟨_, _, he, w3, hp⟩ := hp
  cases he
  have r3 : -9223372036854775808 ≤ d3.i ∧ d3.i ≤ 9223372036854775807 := wt_i w3 rfl rfl
  clear w3
  obtain ⟨_, _, he, w4, hp⟩ := hp
  cases he
  have r4 : -9223372036854775808 ≤ d4.i ∧ d4.i ≤ 9223372036854775807 := wt_i w4 rfl rfl
  clear w4
  obtain ⟨_, _, he, w5, hp⟩ := hp
  cases he
  have r5 : -9223372036854775808 ≤ d5.i ∧ d5.i ≤ 9223372036854775807 := wt_i w5 rfl rfl
  clear w5
  obtain ⟨_, _, he, w6, hp⟩ := hp
  cases he
  have r6 : -9223372036854775808 ≤ d6.i ∧ d6.i ≤ 9223372036854775807 := wt_i w6 rfl rfl
  clear w6
  obtain ⟨_, _, he, w7, hp⟩ := hp
  cases he
  have r7 : -9223372036854775808 ≤ d7.i ∧ d7.i ≤ 9223372036854775807 := wt_i w7 rfl rfl
  clear w7
  obtain ⟨_, _, he, w8, hp⟩ := hp
  cases he
  have r8 : -9223372036854775808 ≤ d8.i ∧ d8.i ≤ 9223372036854775807 := wt_i w8 rfl rfl
  clear w8
  obtain ⟨_, _, he, w9, hp⟩ := hp
  cases he
  have r9 : -9223372036854775808 ≤ d9.i ∧ d9.i ≤ 9223372036854775807 := wt_i w9 rfl rfl
  clear w9
  obtain ⟨_, _, he, w10, hp⟩ := hp
  cases he
  have r10 : -9223372036854775808 ≤ d10.i ∧ d10.i ≤ 9223372036854775807 := wt_i w10 rfl rfl
  clear w10
  obtain ⟨_, _, he, w11, hp⟩ := hp
  cases he
  have r11 : -9223372036854775808 ≤ d11.i ∧ d11.i ≤ 9223372036854775807 := wt_i w11 rfl rfl
  clear w11
  obtain ⟨_, _, he, w12, hp⟩ := hp
  cases he
  have r12 : -9223372036854775808 ≤ d12.i ∧ d12.i ≤ 9223372036854775807 := wt_i w12 rfl rfl
  clear w12
  obtain ⟨_, _, he, w13, hp⟩ := hp
  cases he
  have r13 : -9223372036854775808 ≤ d13.i ∧ d13.i ≤ 9223372036854775807 := wt_i w13 rfl rfl
  clear w13
  obtain ⟨_, _, he, w14, hp⟩ := hp
  cases he
  have r14 : -9223372036854775808 ≤ d14.i ∧ d14.i ≤ 9223372036854775807 := wt_i w14 rfl rfl
  clear w14
  obtain ⟨_, _, he, w15, hp⟩ := hp
  cases he
  have r15 : -9223372036854775808 ≤ d15.i ∧ d15.i ≤ 9223372036854775807 := wt_i w15 rfl rfl
  clear w15
  obtain ⟨_, _, he, w16, hp⟩ := hp
  cases he
  have r16 : -9223372036854775808 ≤ d16.i ∧ d16.i ≤ 9223372036854775807 := wt_i w16 rfl rfl
  clear w16
  obtain ⟨_, _, he, w17, hp⟩ := hp
  cases he
  have r17 : -9223372036854775808 ≤ d17.i ∧ d17.i ≤ 9223372036854775807 := wt_i w17 rfl rfl
  clear w17
  obtain ⟨_, _, he, w18, hp⟩ := hp
  cases he
  have r18 : -9223372036854775808 ≤ d18.i ∧ d18.i ≤ 9223372036854775807 := wt_i w18 rfl rfl
  clear w18
  obtain ⟨_, _, he, w19, hp⟩ := hp
  cases he
  have r19 : -9223372036854775808 ≤ d19.i ∧ d19.i ≤ 9223372036854775807 := wt_i w19 rfl rfl
  clear w19
  obtain ⟨_, _, he, w20, hp⟩ := hp
  cases he
  have r20 : -9223372036854775808 ≤ d20.i ∧ d20.i ≤ 9223372036854775807 := wt_i w20 rfl rfl
  clear w20
  obtain ⟨_, _, he, w21, hp⟩ := hp
  cases he
  have b21 : ((d21.l.map deciii).length : Int) ≤ 9223372036854775807 := by rw [List.length_map]; exact wt_len w21
  have v21 := wt_iii w21
  clear w21
  obtain ⟨_, _, he, w22, hp⟩ := hp
  cases he
  have b22 : ((d22.l.map decii).length : Int) ≤ 9223372036854775807 := by rw [List.length_map]; exact wt_len w22
  have v22 := wt_ii w22
  clear w22
  obtain ⟨_, _, he, w23, hp⟩ := hp
  cases he
  have b23 : ((d23.l.map DV.b).length : Int) ≤ 9223372036854775807 := by rw [List.length_map]; exact wt_len w23
  clear w23
  obtain ⟨_, _, he, w24, hp⟩ := hp
  cases he
  have b24 : ((d24.l.map decib).length : Int) ≤ 9223372036854775807 := by rw [List.length_map]; exact wt_len w24
  have v24 := wt_ib w24
  clear w24
  have hN : nrmL (clsOf [.agg [.pl (.int .i64), .pl (.int .i64), .pl (.int .i64), .pl (.int .i64), .pl (.int .i64), .pl (.int .i64), .pl (.int .i64), .pl (.int .i64), .pl (.int .i64), .pl (.int .i64), .pl (.int .i64), .pl (.int .i64), .pl (.int .i64), .pl (.int .i64), .pl (.int .i64), .pl (.int .i64), .pl (.int .i64), .pl (.int .i64), .pl (.int .i64), .pl (.int .i64), .pl (.int .i64), .rows false [.int .i64, .int .i64, .int .i64], .rows false [.int .i64, .int .i64], .rows false [.bool], .rows false [.int .i64, .bool]]]) [d0, d1, d2, d3, d4, d5, d6, d7, d8, d9, d10, d11, d12, d13, d14, d15, d16, d17, d18, d19, d20, d21, d22, d23, d24] = [.int d0.i, .int d1.i, .int d2.i, .int d3.i, .int d4.i, .int d5.i, .int d6.i, .int d7.i, .int d8.i, .int d9.i, .int d10.i, .int d11.i, .int d12.i, .int d13.i, .int d14.i, .int d15.i, .int d16.i, .int d17.i, .int d18.i, .int d19.i, .int d20.i, .list ((d21.l.map deciii).map enciii), .list ((d22.l.map decii).map encii), .list ((d23.l.map DV.b).map DV.bool), .list ((d24.l.map decib).map encib)] := by
    simp only [clsOf, Sh.cls, List.append_nil, List.cons_append, List.nil_append, nrmL, Cl.nrm, CK.nrm, map_Lb, map_Lib, map_Lii, map_Liii]
  have hF : waitMatchesF [d0, d1, d2, d3, d4, d5, d6, d7, d8, d9, d10, d11, d12, d13, d14, d15, d16, d17, d18, d19, d20, d21, d22, d23, d24] = [.bool true] := rfl
  rw [hN, hF]
  clear hN hp hl hF
  generalize d0.i = x0 at r0 ⊢
  generalize d1.i = x1 at r1 ⊢
  generalize d2.i = x2 at r2 ⊢
  generalize d3.i = x3 at r3 ⊢
  generalize d4.i = x4 at r4 ⊢
  generalize d5.i = x5 at r5 ⊢
  generalize d6.i = x6 at r6 ⊢
  generalize d7.i = x7 at r7 ⊢
  generalize d8.i = x8 at r8 ⊢
  generalize d9.i = x9 at r9 ⊢
  generalize d10.i = x10 at r10 ⊢
  generalize d11.i = x11 at r11 ⊢
  generalize d12.i = x12 at r12 ⊢
  generalize d13.i = x13 at r13 ⊢
  generalize d14.i = x14 at r14 ⊢
  generalize d15.i = x15 at r15 ⊢
  generalize d16.i = x16 at r16 ⊢
  generalize d17.i = x17 at r17 ⊢
  generalize d18.i = x18 at r18 ⊢
  generalize d19.i = x19 at r19 ⊢
  generalize d20.i = x20 at r20 ⊢
  generalize d21.l.map deciii = x21 at b21 v21 ⊢
  generalize d22.l.map decii = x22 at b22 v22 ⊢
  generalize d23.l.map DV.b = x23 at b23 ⊢
  generalize d24.l.map decib = x24 at b24 v24 ⊢
  refine ⟨(rng_ok (e := .var 0) r0.1 r0.2 (rng_ok (e := .un .len (.var 21)) (Int.natCast_nonneg _) (by show ((x21.map _).length : Int) ≤ _; rw [List.length_map]; exact b21) (rng_ok (e := .un .len (.var 24)) (Int.natCast_nonneg _) (by show ((x24.map _).length : Int) ≤ _; rw [List.length_map]; exact b24) (facts_nil _)))), ?_⟩
  unfold waitMatchesTree
  simp only [Sat, clsOf, Sh.cls, List.append_nil, List.cons_append, List.nil_append, nrmL, Cl.nrm, CK.nrm, List.map_cons, List.map_nil, List.length_cons, List.length_nil, List.cons.injEq, DV.bool.injEq, DV.int.injEq, DV.list.injEq, DV.str.injEq, and_true, true_and]
  simp only [q_le, q_eq, q_eqs, q_eqb, q_and, q_or, q_not, q_bool, iff_true, iff_false, Bool.not_true, Bool.not_false, Bool.false_eq_true, Bool.true_eq_false, eq_self, Bool.not_not]
  simp only [Bool.not_true, Bool.not_false, Bool.true_eq_false, SE.den, evU, evT, ev_le, ev_eq, ev_eqs, ev_eqb, ev_slt, ev_and, ev_or, ev_add, ev_sub, ev_mul, ev_tdiv, ev_tmod, ev_band, ev_bor, ev_bxor, ev_bandn, ev_shl, ev_shr, ev_cat, ev_byte, ev_idx, ev_cons, ev_snoc, ev_app, ev_take, ev_drop, ev_stake, ev_sdrop, ev_rep, leB_q, eqB_q, eqsB_q, not_q, i_if, b_if, l_if, s_if, i_int, b_bool, s_str, l_list, envL, List.getElem?_cons_succ, List.getElem?_cons_zero, List.getElem?_nil, Option.getD_some, Option.getD_none, Int.toNat_natCast, Int.toNat_zero, Int.reduceToNat, List.length_map, get_Li, get_Lb, get_Ls, set_Li, inj_Li, inj_Lb, inj_Ls, rows_i, rows_b, rows_s, Int.zero_add, iff_true, iff_false, and_true, true_and, Bool.false_eq_true, eq_self, not_true_eq_false, not_false_eq_true, List.length_replicate, DV.int.injEq, DV.bool.injEq, DV.str.injEq, DV.list.injEq, List.cons.injEq, f_ib_0, rows_ib, inj_Lib, f_ib_1, rows_ib, inj_Lib, f_ii_0, rows_ii, inj_Lii, f_ii_1, rows_ii, inj_Lii, f_iii_0, rows_iii, inj_Liii, f_iii_1, rows_iii, inj_Liii, f_iii_2, rows_iii, inj_Liii, f_iiiis_0, rows_iiiis, inj_Liiiis, f_iiiis_1, rows_iiiis, inj_Liiiis, f_iiiis_2, rows_iiiis, inj_Liiiis, f_iiiis_3, rows_iiiis, inj_Liiiis, f_iiiis_4, rows_iiiis, inj_Liiiis, waitMatchesPhi, lSane21F, lSane21E, rOfMF, rOfME, tNextF, tNextE, rTNextF, rTNextE, tRouseF, tRouseE, rTRouseF, rTRouseE, rAccessesF, rAccessesE, gi, gb, gs, gLi, gLu, gLb, gLs, dece_i, dece_b, dece_s, gLib, deces_ib, gLii, deces_ii, gLiii, deces_iii, gLiiiis, deces_iiiis]
  have hc : ∀ wake st me kind wt wd, waitF (fun m => IntKind.i64.wrap (withM m me)) (fun m => IntKind.i64.wrap (offM m me)) wake st me kind wt wd x24 = waitF (fun m => rwithM m me) (fun m => roffM m me) wake st me kind wt wd x24 := fun wake st me kind wt wd =>
    waitF_congr (fun r hr => by
        have := v24 r hr
        unfold withM rwithM
        split
        · exact w64 this.1 this.2
        · rfl) (fun r hr => by
        have := v24 r hr
        unfold offM roffM
        split
        · rfl
        · exact w64 this.1 this.2)
  simp only [hc]
  clear v21 v22 v24 hc
  refine ⟨fun h13 => ⟨fun _ => trivial, fun heq => ⟨fun _ => trivial, fun _ => ⟨fun _ => trivial, fun _ => ?_⟩⟩⟩, fun _ => trivial⟩
  have h0 : x0 ≤ 1000000 := by
    unfold layOfE at h13
    by_cases hm : mayM x0 x1 x2 x3 x4 = true
    · unfold mayM at hm
      simp only [decide_eq_true_eq] at hm
      omega
    · rw [if_neg hm] at h13
      simp [DV.i] at h13
  have hl := rouseM_le x0 x9 x15 x0.toNat
  have h1 : ((rouseM x0 x9 x15 x0.toNat).length : Int) ≤ 1000000 := by omega
  clear b21 b22 b23 b24 heq h13
  simp [h0, h1]
namespace row
open Go.ChangeShapes Go.WideShapes Go.ChangeAt Go.RowKit Go.Joins Go.Deep Go.Proofs.Ytolphdchkbcoeaa
theorem lifted (os : Os) (started : os.Started) (H : Type) (enc : TypeId × Value → H) :
    ReturnsInHanded {} Try.checked os 3 .any (Rows.waitMatchesSpecSpec.pre6 enc Try.prog Try.f3 Rows.waitMatchesSpecRow.domain false) (Rows.waitMatchesSpecSpec.post enc Try.prog Try.f3 false true false false) := by
  refine returnsInHanded_of_change (C := Try.checked) own started (by kernel_rfl) Try.func3
    (ChangeSpec.witness6 (enc := enc) (C := Try.checked) false ⟨#[], #[.agg #[.int .i64 0, .int .i64 0, .int .i64 0, .int .i64 0, .int .i64 0, .int .i64 0, .int .i64 0, .int .i64 0, .int .i64 0, .int .i64 0, .int .i64 0, .int .i64 0, .int .i64 0, .int .i64 0, .int .i64 0, .int .i64 0, .int .i64 0, .int .i64 0, .int .i64 0, .int .i64 0, .int .i64 0, .slice none 0 0, .slice none 0 0, .slice none 0 0, .slice none 0 0]], []⟩ 8 (by kernel_rfl) (by kernel_rfl) (by kernel_rfl) (by kernel_rfl)) ?_
  intro W base args ds gs before hval0 hW hcnd _
  have hval : ∀ (j : Nat) t v, Try.f3.params[j]? = some t → args[j]? = some v → Value.okWide Try.prog W .any base t v := hval0
  have hW' := hW
  obtain ⟨p, q, hA0, hV, rfl, hfz, hnd⟩ := hW
  have hA : DataW.TrodAll enc Try.prog W 0 (fun _ => true) true Try.f3.params.toList args.toList ds p := hA0
  have hval2 : ∀ (j : Nat) t v, Try.f3.params.toList[j]? = some t → args.toList[j]? = some v → Value.okWide Try.prog W .any base t v := fun j t v a b => hval j t v (by simpa using a) (by simpa using b)
  have hcall := law_of waitMatches_pure (fun _ h => h) (by rw [Try.params3]; kernel_rfl) hA hval2
  rw [Try.params3] at hA
  obtain ⟨v0, vs0, d0, ds0, p0, q0, hargs, rfl, rfl, h0, r0⟩ := trodAll_cons hA
  obtain ⟨rfl, rfl, rfl⟩ := trodAll_nil r0
  obtain rfl : args = #[v0] := by cases args; simp_all
  obtain ⟨rfl, rfl⟩ := trodVars_none hV
  have lt0 : ∀ x ∈ p0, x.block < W.heap.size := by obtain ⟨m, hm⟩ := h0; exact DataW.trod_lt m _ _ _ hm
  clear hA0 hval0 hval2
  refine Calls.mono hcall fun e W' ⟨he, bel⟩ => ?_
  subst he
  exact ⟨_, rfl, _, _, _, [], _, [], hW', trodAll_mk1 (shut_bool Try.underlying4 _), (trodAll_cons_mk (Below.trod laidOut (by kernel_rfl) (of_decide_eq_true (by kernel_rfl)) h0 bel lt0) trodAll_mk0), rfl, bel.frame _, fun h => by cases h⟩
theorem over : Rows.waitMatchesSpecRow.holds Try.pinned (OpenSpec.ofChange Rows.waitMatchesSpecSpec) :=
  OpenClaim.holds_of_wide 3 Try.f3 rfl rfl rfl rfl rfl rfl rfl ⟨rfl, rfl, rfl, rfl, rfl⟩ rfl rfl rfl rfl rfl (by kernel_rfl) Try.func3 (by kernel_rfl)
    (of_decide_eq_true (by kernel_rfl)) (by unfold Func.isWrapper; first | (rw [if_pos (by decide +kernel)]; kernel_rfl) | (rw [if_neg (by decide +kernel)]; exact ⟨rfl, rfl⟩))
    (fun os started H enc _ => lifted os started H enc)
end row
theorem waitMatches_proved : Rows.WaitMatchesSpecSaid := row.over
end Go.Proofs.Ytolphdchkbcoeaa
