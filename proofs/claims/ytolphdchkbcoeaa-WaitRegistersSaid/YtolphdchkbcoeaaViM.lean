/- A thread's bit set or cleared in a mask, access by access. No program in sight. -/
import Derived.Test.YtolphdchkbcoeaaNx
namespace Go.Proofs.Ytolphdchkbcoeaa
/-- The same, as the reference has it. -/
def rwithM (m t : Int) : Int := if hasM m t = true then m else IntKind.i64.wrap (m + oneM t)
def roffM (m t : Int) : Int := if hasM m t = true then IntKind.i64.wrap (m - oneM t) else m
/-- The rounds of a change of a mask. -/
def viM (put : Bool) (chg : Int → Int) (cell me : Int) : List Tib → Nx
  | [] => askN 1 cell 0 0
  | [r] => if hasM r.1 me = put then doneN 0 0 false 0 else askN 3 cell r.1 (chg r.1)
  | r :: c :: rest => if hasM r.1 me = put then doneN 0 0 false 0 else if c.2 = true then doneN 0 0 true 0 else viM put chg cell me rest
theorem viM_congr {put : Bool} {chg chg' : Int → Int} {cell me : Int} : ∀ {log : List Tib}, (∀ r ∈ log, chg r.1 = chg' r.1) → viM put chg cell me log = viM put chg' cell me log
  | [], _ => rfl
  | [r], h => by unfold viM; rw [h r (by simp)]
  | r :: c :: rest, h => by unfold viM; rw [viM_congr (log := rest) fun r hr => h r (by simp [hr])]
/-- An operation on a mask: cr and cw are the cells of the two masks, st the cell of the thread. -/
def viTopM (wth off : Int → Int) (cr cw st me k : Int) (log : List Tib) : Nx :=
  if 1 ≤ k ∧ k ≤ 4 ∧ 0 ≤ (if k ≤ 2 then cr else cw) ∧ 0 ≤ st then
    (if k % 2 = 1 then viM true wth (if k ≤ 2 then cr else cw) me log else viM false off (if k ≤ 2 then cr else cw) me log)
  else doneN 0 0 false 1
theorem viM_at (put : Bool) (chg : Int → Int) (cell me : Int) (log : List Tib) (i : Nat) : viM put chg cell me (log.drop i) = if log.length ≤ i then askN 1 cell 0 0 else if hasM (log[i]?.getD dib).1 me = put then doneN 0 0 false 0 else if log.length ≤ i + 1 then askN 3 cell (log[i]?.getD dib).1 (chg (log[i]?.getD dib).1) else if (log[i + 1]?.getD dib).2 = true then doneN 0 0 true 0 else viM put chg cell me (log.drop (i + 2)) := by
  by_cases h1 : log.length ≤ i
  · rw [if_pos h1, List.drop_eq_nil_of_le h1]; rfl
  · rw [if_neg h1, List.drop_eq_getElem_cons (by omega)]
    have e1 : log[i]?.getD dib = log[i] := by rw [List.getElem?_eq_getElem (by omega)]; rfl
    by_cases h2 : log.length ≤ i + 1
    · rw [List.drop_eq_nil_of_le h2, if_pos h2, e1]; rfl
    · rw [if_neg h2, List.drop_eq_getElem_cons (by omega)]
      have e2 : log[i + 1]?.getD dib = log[i + 1] := by rw [List.getElem?_eq_getElem (by omega)]; rfl
      rw [e1, e2]; rfl
theorem viTop_at {wth off : Int → Int → Int} {cr cw st me k : Int} {log : List Tib} (h : 1 ≤ k ∧ k ≤ 4 ∧ 0 ≤ (if k ≤ 2 then cr else cw) ∧ 0 ≤ st) (i : Nat) : viTopM (wth me) (off me) cr cw st me k (log.drop i) =
    if log.length ≤ i then askN 1 (if k ≤ 2 then cr else cw) 0 0 else if hasM (log[i]?.getD dib).1 me = decide (k % 2 = 1) then doneN 0 0 false 0 else if log.length ≤ i + 1 then askN 3 (if k ≤ 2 then cr else cw) (log[i]?.getD dib).1 (if k % 2 = 1 then wth me (log[i]?.getD dib).1 else off me (log[i]?.getD dib).1)
    else if (log[i + 1]?.getD dib).2 = true then doneN 0 0 true 0 else viTopM (wth me) (off me) cr cw st me k (log.drop (i + 2)) := by
  unfold viTopM
  rw [if_pos h, if_pos h]
  by_cases hk : k % 2 = 1
  · simp only [hk, if_true, decide_true]
    exact viM_at _ _ _ _ _ _
  · simp only [hk, if_false, decide_false]
    exact viM_at _ _ _ _ _ _
end Go.Proofs.Ytolphdchkbcoeaa
