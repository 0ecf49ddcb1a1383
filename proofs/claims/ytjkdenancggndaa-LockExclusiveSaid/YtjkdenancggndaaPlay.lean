/- Plays on one lock: a thread's turn, and what stays true. No program in sight. -/
import Derived.Test.YtjkdenancggndaaLkNext
import Derived.Test.YtjkdenancggndaaMemDo
namespace Go.Proofs.Ytjkdenancggndaa
set_option linter.unusedVariables false
set_option linter.unusedSimpArgs false
set_option maxRecDepth 100000
section
variable {m : List Int} {c : Int} (h0 : 0 ≤ c) (h1 : c < m.length)
include h0 h1
theorem pdo_load : doM m 1 c 0 0 [] = (m, (m[c.toNat]?.getD 0, true), 0) := by
  have hs : m.set c.toNat (m[c.toNat]?.getD 0) = m := set_same _ _ _ (by omega)
  have hr : rightM 1 c 0 0 [] = true := by simp [rightM, h0]
  unfold doM
  rw [if_pos hr, if_pos h1]
  simp [nextM, hs]
theorem pdo_store (n : Int) : doM m 2 c 0 n [] = (m.set c.toNat n, (m[c.toNat]?.getD 0, true), 0) := by
  have hr : rightM 2 c 0 n [] = true := by simp [rightM, h0]
  unfold doM
  rw [if_pos hr, if_pos h1]
  simp [nextM]
theorem pdo_cas {o : Int} (n : Int) (ho : m[c.toNat]?.getD 0 = o) : doM m 3 c o n [] = (m.set c.toNat n, (o, true), 0) := by
  have hr : rightM 3 c o n [] = true := by simp [rightM, h0]
  unfold doM
  rw [if_pos hr, if_pos h1, ho]
  simp [nextM]
theorem pdo_cas_no {o w : Int} (n : Int) (hw : m[c.toNat]?.getD 0 = w) (ho : w ≠ o) : doM m 3 c o n [] = (m, (w, false), 0) := by
  have hs : m.set c.toNat (m[c.toNat]?.getD 0) = m := set_same _ _ _ (by omega)
  have hr : rightM 3 c o n [] = true := by simp [rightM, h0]
  unfold doM
  rw [if_pos hr, if_pos h1]
  rw [hw] at hs ⊢
  simp [nextM, ho, hs]
end
structure Seat where
  nx : Int
  st : Int
  log : List Tib
  ver : Int
structure Tab where
  m : List Int
  held : Int
  vals : List Int
  bad : Bool
def wr (n : Int) : Int := IntKind.i64.wrap n
def lkP (me k b : Int) (log : List Tib) : Nx := lkM (· / 2) (placeM 16 2 0 4 0) (placeM 16 2 0 4 1) me k b log
/-- An access of a memory. -/
def acM (m : List Int) (a : Nx) : List Int × Tib × Int := doM m a.k a.c a.o a.n a.s
/-- A thread's turn. -/
def turnM (me : Int) (want : List Int) (t : Tab) (x : Seat) : Tab × Seat :=
  if (want.length : Int) ≤ x.nx then (t, x) else if t.bad = true then (t, x) else
  if (want[x.nx.toNat]?.getD 0).tmod 3 = 0 then
    (if (lkP me 4 0 x.log).done = true then
      ({ t with bad := if (lkP me 4 0 x.log).is = true then (if 0 ≤ (lkP me 4 0 x.log).ver then (if (t.vals.length : Int) ≤ (lkP me 4 0 x.log).ver then true else (if (lkP me 4 0 x.log).val = (t.vals[(lkP me 4 0 x.log).ver.toNat]?.getD 0) then false else true)) else true) else false }, ⟨wr (x.nx + 1), x.st, [], x.ver⟩)
    else ({ t with m := (acM t.m (lkP me 4 0 x.log)).1, bad := decide (¬ (acM t.m (lkP me 4 0 x.log)).2.2 = 0) }, { x with log := x.log ++ [(acM t.m (lkP me 4 0 x.log)).2.1] }))
  else if x.st = 1 then
    ({ t with m := (doM t.m 2 (placeM 16 2 0 4 1) 0 (wr (wr (wr (1000 * me) + wr (10 * x.nx)) + 5)) []).1, vals := t.vals ++ [wr (wr (wr (1000 * me) + wr (10 * x.nx)) + 5)], bad := decide (¬ (doM t.m 2 (placeM 16 2 0 4 1) 0 (wr (wr (wr (1000 * me) + wr (10 * x.nx)) + 5)) []).2.2 = 0) }, { x with st := 2 })
  else if x.st = 0 then
    (if (lkP me 1 0 x.log).done = true then
      (if (lkP me 1 0 x.log).is = true then ({ t with bad := decide (¬ (lkP me 1 0 x.log).ver = wr ((t.vals.length : Int) - 1)) }, ⟨x.nx, 1, [], (lkP me 1 0 x.log).ver⟩) else (t, { x with log := [] }))
    else if (lkP me 1 0 x.log).k = 3 ∧ (acM t.m (lkP me 1 0 x.log)).2.1.2 = true then
      ({ t with m := (acM t.m (lkP me 1 0 x.log)).1, held := wr (t.held + 1), bad := if (acM t.m (lkP me 1 0 x.log)).2.2 = 0 then decide (¬ wr (t.held + 1) = 1) else true }, { x with log := x.log ++ [(acM t.m (lkP me 1 0 x.log)).2.1] })
    else ({ t with m := (acM t.m (lkP me 1 0 x.log)).1, bad := decide (¬ (acM t.m (lkP me 1 0 x.log)).2.2 = 0) }, { x with log := x.log ++ [(acM t.m (lkP me 1 0 x.log)).2.1] }))
  else
    (if (lkP me 2 (wr (x.ver + 1)) x.log).done = true then (t, ⟨wr (x.nx + 1), 0, [], 0⟩)
    else ({ t with m := (acM t.m (lkP me 2 (wr (x.ver + 1)) x.log)).1, held := if x.st = 2 then wr (t.held - 1) else t.held, bad := decide (¬ (acM t.m (lkP me 2 (wr (x.ver + 1)) x.log)).2.2 = 0) }, { x with log := x.log ++ [(acM t.m (lkP me 2 (wr (x.ver + 1)) x.log)).2.1] }))
theorem pl_w : placeM 16 2 0 4 0 = 16 := by decide
theorem pl_v : placeM 16 2 0 4 1 = 17 := by decide
/-! What the lock's operations ask and answer, log by log. -/
section
variable {me b : Int} {r r1 r2 : Tib}
theorem rd_0 : lkP me 4 0 [] = askN 1 16 0 0 := by unfold lkP lkM; rw [pl_w, pl_v]; simp
theorem rd_1 : lkP me 4 0 [r] = if r.1 % 2 = 1 then doneN (r.1 / 2) (-1) false 0 else askN 1 17 0 0 := by unfold lkP lkM; rw [pl_w, pl_v]; simp
theorem rd_2 (h : ¬ r.1 % 2 = 1) : lkP me 4 0 [r, r1] = askN 1 16 0 0 := by unfold lkP lkM; rw [pl_w, pl_v]; simp [h]
theorem rd_3 (h : ¬ r.1 % 2 = 1) : lkP me 4 0 [r, r1, r2] = if r2.1 ≠ r.1 then doneN (-1) (-1) false 0 else doneN r1.1 (r.1 / 2) true 0 := by unfold lkP lkM; rw [pl_w, pl_v]; simp [h]
theorem tk_0 : lkP me 1 0 [] = askN 1 16 0 0 := by unfold lkP lkM; rw [pl_w, pl_v]; simp
theorem tk_1 : lkP me 1 0 [r] = if r.1 % 2 = 1 then doneN (r.1 / 2) 0 false 0 else askN 3 16 r.1 (wr (wr (2 * me) + 1)) := by unfold lkP lkM wr; rw [pl_w, pl_v]; simp
theorem tk_2 (h : ¬ r.1 % 2 = 1) : lkP me 1 0 [r, r1] = if r1.2 = true then doneN 0 (r.1 / 2) true 0 else doneN (-1) 0 false 0 := by unfold lkP lkM; rw [pl_w, pl_v]; simp [h]
theorem gv_0 : lkP me 2 b [] = askN 2 16 0 (wr (2 * b)) := by unfold lkP lkM wr; rw [pl_w, pl_v]; simp
theorem gv_1 : lkP me 2 b [r] = doneN 0 0 true 0 := by unfold lkP lkM; rw [pl_w, pl_v]; simp
end
section
variable {m : List Int} (h : m.length = 24)
include h
theorem ac_ld {c : Int} (h0 : 0 ≤ c) (h1 : c < 24) : acM m (askN 1 c 0 0) = (m, (m[c.toNat]?.getD 0, true), 0) := pdo_load h0 (by rw [h]; exact h1)
theorem ac_st {c n : Int} (h0 : 0 ≤ c) (h1 : c < 24) : acM m (askN 2 c 0 n) = (m.set c.toNat n, (m[c.toNat]?.getD 0, true), 0) := pdo_store h0 (by rw [h]; exact h1) n
theorem ac_cas {c o n : Int} (h0 : 0 ≤ c) (h1 : c < 24) : acM m (askN 3 c o n) = if m[c.toNat]?.getD 0 = o then (m.set c.toNat n, (o, true), 0) else (m, (m[c.toNat]?.getD 0, false), 0) := by
  split
  · rename_i e; exact pdo_cas h0 (by rw [h]; exact h1) n e
  · rename_i e; exact pdo_cas_no h0 (by rw [h]; exact h1) n rfl e
end
/-! What stays true. -/
/-- A read that is under way, of a thread: n numbers of versions, cur the last one that was let go. -/
def RdOk (word : Int) (vals : List Int) (cur : Int) : List Tib → Prop
  | [] => True
  | [r] => r.1 % 2 = 1 ∨ (0 ≤ r.1 ∧ r.1 % 2 = 0 ∧ r.1 / 2 ≤ cur)
  | [r, r1] => 0 ≤ r.1 ∧ r.1 % 2 = 0 ∧ r.1 / 2 ≤ cur ∧ (word = r.1 → r1.1 = vals[(r.1 / 2).toNat]?.getD 0)
  | [r, r1, r2] => 0 ≤ r.1 ∧ r.1 % 2 = 0 ∧ r.1 / 2 ≤ cur ∧ (r2.1 = r.1 → r1.1 = vals[(r.1 / 2).toNat]?.getD 0)
  | _ => False
/-- A thread's state: hd, whether it holds the lock. -/
inductive SOk (W : List Int) (word : Int) (vals : List Int) (cur : Int) : Bool → Seat → Prop
  | idle (nx ver : Int) (h0 : 0 ≤ nx) (h1 : nx ≤ W.length) : SOk W word vals cur false ⟨nx, 0, [], ver⟩
  | read (nx ver : Int) (log : List Tib) (h0 : 0 ≤ nx) (h1 : nx < W.length) (hw : (W[nx.toNat]?.getD 0).tmod 3 = 0) (hr : RdOk word vals cur log) : SOk W word vals cur false ⟨nx, 0, log, ver⟩
  | take1 (nx ver : Int) (r : Tib) (h0 : 0 ≤ nx) (h1 : nx < W.length) (hw : ¬ (W[nx.toNat]?.getD 0).tmod 3 = 0) : SOk W word vals cur false ⟨nx, 0, [r], ver⟩
  | take2 (nx ver : Int) (r c : Tib) (h0 : 0 ≤ nx) (h1 : nx < W.length) (hw : ¬ (W[nx.toNat]?.getD 0).tmod 3 = 0) (he : ¬ r.1 % 2 = 1) (hc : c.2 = false) : SOk W word vals cur false ⟨nx, 0, [r, c], ver⟩
  | got (nx ver : Int) (r c : Tib) (h0 : 0 ≤ nx) (h1 : nx < W.length) (hw : ¬ (W[nx.toNat]?.getD 0).tmod 3 = 0) (he : r.1 = 2 * cur) (hn : (vals.length : Int) = cur + 1) (hc : c.2 = true) : SOk W word vals cur true ⟨nx, 0, [r, c], ver⟩
  | sto (nx : Int) (h0 : 0 ≤ nx) (h1 : nx < W.length) (hw : ¬ (W[nx.toNat]?.getD 0).tmod 3 = 0) (hn : (vals.length : Int) = cur + 1) : SOk W word vals cur true ⟨nx, 1, [], cur⟩
  | giv (nx : Int) (h0 : 0 ≤ nx) (h1 : nx < W.length) (hw : ¬ (W[nx.toNat]?.getD 0).tmod 3 = 0) (hn : (vals.length : Int) = cur + 2) : SOk W word vals cur true ⟨nx, 2, [], cur⟩
  | gvn (nx ver : Int) (r : Tib) (h0 : 0 ≤ nx) (h1 : nx < W.length) (hw : ¬ (W[nx.toNat]?.getD 0).tmod 3 = 0) : SOk W word vals cur false ⟨nx, 2, [r], ver⟩
/-- A thread that does not hold the lock, when another has its turn. -/
theorem RdOk.mono {word word' cur cur' : Int} {vals vals' : List Int} {log : List Tib} (h : RdOk word vals cur log) (hl : cur < vals.length) (hc : cur ≤ cur') (hv : ∀ k : Nat, k < vals.length → vals'[k]?.getD 0 = vals[k]?.getD 0)
    (hw : word' = word ∨ word' % 2 = 1 ∨ (word' = 2 * cur' ∧ cur < cur')) : RdOk word' vals' cur' log := by
  match log, h with
  | [], _ => trivial
  | [r], h => rcases h with h | h
              · exact .inl h
              · exact .inr ⟨h.1, h.2.1, by omega⟩
  | [r, r1], ⟨a, b, c, d⟩ =>
    refine ⟨a, b, by omega, fun e => ?_⟩
    rw [hv _ (by omega)]
    exact d (by omega)
  | [r, r1, r2], ⟨a, b, c, d⟩ =>
    refine ⟨a, b, by omega, fun e => ?_⟩
    rw [hv _ (by omega)]
    exact d e
theorem SOk.mono {W : List Int} {word word' cur cur' : Int} {vals vals' : List Int} {x : Seat} (h : SOk W word vals cur false x) (hl : cur < vals.length) (hc : cur ≤ cur') (hv : ∀ k : Nat, k < vals.length → vals'[k]?.getD 0 = vals[k]?.getD 0)
    (hw : word' = word ∨ word' % 2 = 1 ∨ (word' = 2 * cur' ∧ cur < cur')) : SOk W word' vals' cur' false x := by
  cases h with
  | idle nx ver h0 h1 => exact .idle _ _ h0 h1
  | read nx ver log h0 h1 hww hr => exact .read _ _ _ h0 h1 hww (hr.mono hl hc hv hw)
  | take1 nx ver r h0 h1 hww => exact .take1 _ _ _ h0 h1 hww
  | take2 nx ver r c h0 h1 hww he hcc => exact .take2 _ _ _ _ h0 h1 hww he hcc
  | gvn nx ver r h0 h1 hww => exact .gvn _ _ _ h0 h1 hww
/-- How many requests of the first k acquire the lock. -/
def cntM (W : List Int) : Nat → Nat
  | 0 => 0
  | k + 1 => cntM W k + (if (W[k]?.getD 0).tmod 3 = 0 then 0 else 1)
theorem cnt_le (W : List Int) : ∀ k, cntM W k ≤ k
  | 0 => Nat.le_refl _
  | k + 1 => by have := cnt_le W k; unfold cntM; split <;> omega
/-- A thread's share of the versions. -/
def shr (W : List Int) (x : Seat) : Nat := cntM W x.nx.toNat + (if x.st = 2 then 1 else 0)
structure Inv (W : Nat → List Int) (t : Tab) (s : Nat → Seat) (cur : Int) (hd : Nat → Bool) : Prop where
  ml : t.m.length = 24
  nb : t.bad = false
  wl : ∀ j, j < 3 → (W j).length ≤ 8
  cnt : t.vals.length = 1 + (shr (W 0) (s 0) + shr (W 1) (s 1) + shr (W 2) (s 2))
  val : t.m[17]?.getD 0 = t.vals[t.vals.length - 1]?.getD 0
  c0 : 0 ≤ cur
  c1 : cur < t.vals.length
  sk : ∀ j, j < 3 → SOk (W j) (t.m[16]?.getD 0) t.vals cur (hd j) (s j)
  lk : ((∀ j, hd j = false) ∧ t.held = 0 ∧ t.m[16]?.getD 0 = 2 * cur ∧ (t.vals.length : Int) = cur + 1) ∨
     (∃ h, h < 3 ∧ hd h = true ∧ (∀ j, j ≠ h → hd j = false) ∧ t.held = 1 ∧ t.m[16]?.getD 0 = 2 * (h : Int) + 1)
theorem ask_done (k c o n : Int) : (askN k c o n).done = false := rfl
theorem ask_k (k c o n : Int) : (askN k c o n).k = k := rfl
theorem dn_done (v r : Int) (i : Bool) (e : Int) : (doneN v r i e).done = true := rfl
theorem dn_is (v r : Int) (i : Bool) (e : Int) : (doneN v r i e).is = i := rfl
theorem dn_ver (v r : Int) (i : Bool) (e : Int) : (doneN v r i e).ver = r := rfl
theorem dn_val (v r : Int) (i : Bool) (e : Int) : (doneN v r i e).val = v := rfl
/-- How far a request has come; what is left to do. -/
def pgM (w : List Int) (word : Int) (x : Seat) : Nat :=
  if x.st = 0 then (match x.log with
    | [] => 2
    | r :: l => if (w[x.nx.toNat]?.getD 0).tmod 3 = 0 then 3 + l.length else (match l with
      | [] => if r.1 = word ∧ r.1 % 2 = 0 then 3 else 0
      | c :: _ => if c.2 = true then 4 else 1))
  else if x.st = 1 then 5 else if x.log = [] then 6 else 7
def rkM (w : List Int) (word : Int) (x : Seat) : Nat := if (w.length : Int) ≤ x.nx then 0 else 10 * (w.length - x.nx.toNat) + 10 - pgM w word x
theorem rk_next {w : List Int} {word word' nx : Int} {x : Seat} {st ver : Int} (hx : x.nx = nx) (h0 : 0 ≤ nx) (h1 : nx < w.length) (hp : pgM w word x ≤ 9) : rkM w word' ⟨nx + 1, 0, [], ver⟩ < rkM w word x := by
  unfold rkM
  rw [hx, if_neg (show ¬ (w.length : Int) ≤ nx by omega)]
  simp only
  split
  · omega
  · have : pgM w word' ⟨nx + 1, 0, [], ver⟩ = 2 := rfl
    rw [this]
    omega
theorem rk_lt {w : List Int} {word word' nx : Int} {x x' : Seat} (hx : x.nx = nx) (hx' : x'.nx = nx) (h1 : nx < w.length) (hp : pgM w word x < pgM w word' x') (h9 : pgM w word' x' ≤ 9) : rkM w word' x' < rkM w word x := by
  unfold rkM
  rw [hx, hx', if_neg (show ¬ (w.length : Int) ≤ nx by omega), if_neg (show ¬ (w.length : Int) ≤ nx by omega)]
  omega
def upd (s : Nat → Seat) (me : Nat) (x : Seat) : Nat → Seat := fun j => if j = me then x else s j
theorem inv_step {W : Nat → List Int} {t t' : Tab} {s : Nat → Seat} {cur : Int} {hd : Nat → Bool} (hI : Inv W t s cur hd) {me : Nat} (hm : me < 3) {x' : Seat} {cur' : Int} {hd' : Nat → Bool} (ml' : t'.m.length = 24) (nb' : t'.bad = false)
    (cnt' : t'.vals.length + shr (W me) (s me) = t.vals.length + shr (W me) x') (val' : t'.m[17]?.getD 0 = t'.vals[t'.vals.length - 1]?.getD 0) (hcc : cur ≤ cur') (c0 : 0 ≤ cur') (c1 : cur' < t'.vals.length)
    (hx : SOk (W me) (t'.m[16]?.getD 0) t'.vals cur' (hd' me) x') (ho : ∀ j, j < 3 → j ≠ me → SOk (W j) (t'.m[16]?.getD 0) t'.vals cur' (hd' j) (s j))
    (hl : ((∀ j, hd' j = false) ∧ t'.held = 0 ∧ t'.m[16]?.getD 0 = 2 * cur' ∧ (t'.vals.length : Int) = cur' + 1) ∨
     (∃ h, h < 3 ∧ hd' h = true ∧ (∀ j, j ≠ h → hd' j = false) ∧ t'.held = 1 ∧ t'.m[16]?.getD 0 = 2 * (h : Int) + 1)) : ∃ c h, cur ≤ c ∧ Inv W t' (upd s me x') c h := by
  refine ⟨cur', hd', hcc, ml', nb', hI.wl, ?_, val', c0, c1, fun j hj => ?_, hl⟩
  · have hc := hI.cnt
    have : me = 0 ∨ me = 1 ∨ me = 2 := by omega
    rcases this with rfl | rfl | rfl <;> simp [upd] <;> omega
  · unfold upd
    by_cases e : j = me
    · subst e; rw [if_pos rfl]; exact hx
    · rw [if_neg e]; exact ho j hj e
theorem wr_id {n : Int} (h0 : -9223372036854775808 ≤ n) (h1 : n ≤ 9223372036854775807) : wr n = n := w64 h0 h1
theorem cnt_succ (W : List Int) {nx : Int} (h : 0 ≤ nx) : cntM W (nx + 1).toNat = cntM W nx.toNat + (if (W[nx.toNat]?.getD 0).tmod 3 = 0 then 0 else 1) := by
  have e : (nx + 1).toNat = nx.toNat + 1 := by omega
  rw [e]; rfl
/-- A turn keeps what is true. -/
theorem turn_inv {W : Nat → List Int} {t : Tab} {s : Nat → Seat} {cur : Int} {hd : Nat → Bool} (hI : Inv W t s cur hd) {me : Nat} (hm : me < 3) : ∃ c h, cur ≤ c ∧ Inv W (turnM me (W me) t (s me)).1 (upd s me (turnM me (W me) t (s me)).2) c h := by
  have hI0 := hI
  obtain ⟨ml, nb, wl, cnt, val, c0, c1, hok, hl⟩ := hI
  have hx := hok me hm
  have hoth : ∀ j, j < 3 → j ≠ me → SOk (W j) (t.m[16]?.getD 0) t.vals cur (hd j) (s j) := fun j hj _ => hok j hj
  have hlen := wl me hm
  have hn : t.vals.length ≤ 28 := by
    have h0 := cnt_le (W 0) (s 0).nx.toNat
    have h1 := cnt_le (W 1) (s 1).nx.toNat
    have h2 := cnt_le (W 2) (s 2).nx.toNat
    have b : ∀ j, j < 3 → (s j).nx.toNat ≤ 8 := fun j hj => by
      have := wl j hj
      have hs := hok j hj
      generalize s j = y at hs ⊢
      generalize hd j = b at hs
      cases hs <;> simp only <;> omega
    have := b 0 (by omega)
    have := b 1 (by omega)
    have := b 2 (by omega)
    unfold shr at cnt
    split at cnt <;> split at cnt <;> split at cnt <;> omega
  obtain ⟨m, held, vals, bad⟩ := t
  simp only at ml nb cnt val c1 hok hl hx hoth hn
  subst nb
  generalize hxs : s me = x at hx
  generalize hhd : hd me = hb at hx
  -- the table as it was, the seat in a state of the same kind
  have stay : ∀ x', SOk (W me) (m[16]?.getD 0) vals cur hb x' → shr (W me) x' = shr (W me) x → ∃ c h, cur ≤ c ∧ Inv W ⟨m, held, vals, false⟩ (upd s me x') c h := fun x' h1 h2 =>
    inv_step hI0 hm ml rfl (by rw [hxs, h2]) val (Int.le_refl _) c0 c1 (by rw [hhd]; exact h1) hoth hl
  generalize hWm : W me = w at hx stay hlen ⊢
  have l16 : acM m (askN 1 16 0 0) = (m, (m[16]?.getD 0, true), 0) := ac_ld ml (by omega) (by omega)
  have l17 : acM m (askN 1 17 0 0) = (m, (m[17]?.getD 0, true), 0) := ac_ld ml (by omega) (by omega)
  have hword : m[16]?.getD 0 % 2 = 1 ∨ (m[16]?.getD 0 = 2 * cur ∧ (vals.length : Int) = cur + 1) := by
    rcases hl with ⟨_, _, h1, h2⟩ | ⟨h, _, _, _, _, h1⟩
    · exact .inr ⟨h1, h2⟩
    · exact .inl (by omega)
  cases hx with
  | idle nx ver h0 h1 =>
    by_cases hf : (w.length : Int) ≤ nx
    · have e : turnM me w ⟨m, held, vals, false⟩ ⟨nx, 0, [], ver⟩ = (⟨m, held, vals, false⟩, ⟨nx, 0, [], ver⟩) := by unfold turnM; rw [if_pos hf]
      rw [e]
      exact stay _ (.idle _ _ h0 h1) rfl
    · by_cases hw : (w[nx.toNat]?.getD 0).tmod 3 = 0
      · have e : turnM me w ⟨m, held, vals, false⟩ ⟨nx, 0, [], ver⟩ = (⟨m, held, vals, false⟩, ⟨nx, 0, [(m[16]?.getD 0, true)], ver⟩) := by
          unfold turnM; simp [hf, hw, rd_0, l16, ask_done]
        rw [e]
        refine stay _ (.read _ _ _ h0 (by omega) hw ?_) rfl
        rcases hword with h | ⟨h, _⟩
        · exact .inl h
        · exact .inr ⟨by simp only; omega, by simp only; omega, by simp only; omega⟩
      · have e : turnM me w ⟨m, held, vals, false⟩ ⟨nx, 0, [], ver⟩ = (⟨m, held, vals, false⟩, ⟨nx, 0, [(m[16]?.getD 0, true)], ver⟩) := by
          unfold turnM; simp [hf, hw, tk_0, l16, ask_done, ask_k]
        rw [e]
        exact stay _ (.take1 _ _ _ h0 (by omega) hw) rfl
  | read nx ver log h0 h1 hw hr =>
    have hf : ¬ (w.length : Int) ≤ nx := by omega
    have hnx : wr (nx + 1) = nx + 1 := wr_id (by omega) (by omega)
    have fin : ∀ (x' : Seat), x' = ⟨nx + 1, 0, [], ver⟩ → ∃ c h, cur ≤ c ∧ Inv W ⟨m, held, vals, false⟩ (upd s me x') c h := fun x' hx' => by
      subst hx'
      refine stay _ (.idle _ _ (by omega) (by omega)) ?_
      unfold shr
      rw [cnt_succ w h0, if_pos hw]
      rfl
    match log, hr with
    | [], _ =>
      have e : turnM me w ⟨m, held, vals, false⟩ ⟨nx, 0, [], ver⟩ = (⟨m, held, vals, false⟩, ⟨nx, 0, [(m[16]?.getD 0, true)], ver⟩) := by
        unfold turnM; simp [hf, hw, rd_0, l16, ask_done]
      rw [e]
      refine stay _ (.read _ _ _ h0 (by omega) hw ?_) rfl
      rcases hword with h | ⟨h, _⟩
      · exact .inl h
      · exact .inr ⟨by simp only; omega, by simp only; omega, by simp only; omega⟩
    | [r], hr =>
      by_cases ho : r.1 % 2 = 1
      · have e : turnM me w ⟨m, held, vals, false⟩ ⟨nx, 0, [r], ver⟩ = (⟨m, held, vals, false⟩, ⟨nx + 1, 0, [], ver⟩) := by
          unfold turnM; simp [hf, hw, rd_1, ho, dn_done, dn_is, hnx]
        rw [e]
        exact fin _ rfl
      · have e : turnM me w ⟨m, held, vals, false⟩ ⟨nx, 0, [r], ver⟩ = (⟨m, held, vals, false⟩, ⟨nx, 0, [r, (m[17]?.getD 0, true)], ver⟩) := by
          unfold turnM; simp [hf, hw, rd_1, ho, l17, ask_done]
        rw [e]
        refine stay _ (.read _ _ _ h0 (by omega) hw ?_) rfl
        rcases hr with hr | ⟨a, b, c⟩
        · exact absurd hr ho
        · refine ⟨a, b, c, fun hwd => ?_⟩
          show m[17]?.getD 0 = _
          rw [val]
          congr 2
          rcases hword with h | ⟨h, h2⟩ <;> omega
    | [r, r1], ⟨a, b, c, d⟩ =>
      have ho : ¬ r.1 % 2 = 1 := by omega
      have e : turnM me w ⟨m, held, vals, false⟩ ⟨nx, 0, [r, r1], ver⟩ = (⟨m, held, vals, false⟩, ⟨nx, 0, [r, r1, (m[16]?.getD 0, true)], ver⟩) := by
        unfold turnM; simp [hf, hw, rd_2 ho, l16, ask_done]
      rw [e]
      exact stay _ (.read _ _ _ h0 (by omega) hw ⟨a, b, c, fun h => d h⟩) rfl
    | [r, r1, r2], ⟨a, b, c, d⟩ =>
      have ho : ¬ r.1 % 2 = 1 := by omega
      by_cases h2 : r2.1 = r.1
      · have k1 : 0 ≤ r.1 / 2 := by omega
        have k2 : ¬ (vals.length : Int) ≤ r.1 / 2 := by omega
        have e : turnM me w ⟨m, held, vals, false⟩ ⟨nx, 0, [r, r1, r2], ver⟩ = (⟨m, held, vals, false⟩, ⟨nx + 1, 0, [], ver⟩) := by
          unfold turnM; simp [hf, hw, rd_3 ho, h2, dn_done, dn_is, dn_ver, dn_val, hnx, k1, k2, d h2]
        rw [e]
        exact fin _ rfl
      · have e : turnM me w ⟨m, held, vals, false⟩ ⟨nx, 0, [r, r1, r2], ver⟩ = (⟨m, held, vals, false⟩, ⟨nx + 1, 0, [], ver⟩) := by
          unfold turnM; simp [hf, hw, rd_3 ho, h2, dn_done, dn_is, hnx]
        rw [e]
        exact fin _ rfl
  | take1 nx ver r h0 h1 hw =>
    have hf : ¬ (w.length : Int) ≤ nx := by omega
    by_cases ho : r.1 % 2 = 1
    · have e : turnM me w ⟨m, held, vals, false⟩ ⟨nx, 0, [r], ver⟩ = (⟨m, held, vals, false⟩, ⟨nx, 0, [], ver⟩) := by
        unfold turnM; simp [hf, hw, tk_1, ho, dn_done, dn_is]
      rw [e]
      exact stay _ (.idle _ _ h0 (by omega)) rfl
    · have hb : wr (wr (2 * (me : Int)) + 1) = 2 * me + 1 := by rw [wr_id (n := 2 * (me : Int)) (by omega) (by omega), wr_id (by omega) (by omega)]
      by_cases hc : m[16]?.getD 0 = r.1
      · -- the lock is free, and taken
        rcases hword with h | ⟨hcur, hvl⟩
        · omega
        rcases hl with ⟨hall, hheld, hw1, hw2⟩ | ⟨h, _, _, _, _, hw1⟩
        · subst hheld
          have lc : acM m (askN 3 16 r.1 (2 * (me : Int) + 1)) = (m.set 16 (2 * (me : Int) + 1), (r.1, true), 0) := by rw [ac_cas ml (by omega) (by omega)]; exact if_pos hc
          have hw01 : wr 1 = 1 := rfl
          have e : turnM me w ⟨m, 0, vals, false⟩ ⟨nx, 0, [r], ver⟩ = (⟨m.set 16 (2 * (me : Int) + 1), 1, vals, false⟩, ⟨nx, 0, [r, (r.1, true)], ver⟩) := by
            unfold turnM; simp [hf, hw, tk_1, ho, hb, lc, ask_done, ask_k, hw01]
          rw [e]
          have g16 : (m.set 16 (2 * (me : Int) + 1))[16]?.getD 0 = 2 * (me : Int) + 1 := by rw [List.getElem?_set_self (by omega)]; rfl
          have g17 : (m.set 16 (2 * (me : Int) + 1))[17]?.getD 0 = m[17]?.getD 0 := by rw [List.getElem?_set_ne (by omega)]
          refine inv_step (cur' := cur) (hd' := fun j => decide (j = me)) hI0 hm (by simp [ml]) rfl (by rw [hxs, hWm]; rfl) (by simp only; rw [g17]; exact val) (Int.le_refl _) c0 c1 ?_ (fun j hj hne => ?_) (.inr ⟨me, hm, by simp, fun j hj => by simp [hj], rfl, g16⟩)
          · simp only [g16, hWm, decide_true]
            exact .got _ _ _ _ h0 h1 hw (by omega) hvl rfl
          · simp only [g16, hne, decide_false]
            have := hoth j hj hne
            rw [hall j] at this
            exact this.mono c1 (Int.le_refl _) (fun _ _ => rfl) (.inr (.inl (by omega)))
        · omega
      · have lc : acM m (askN 3 16 r.1 (2 * (me : Int) + 1)) = (m, (m[16]?.getD 0, false), 0) := by rw [ac_cas ml (by omega) (by omega)]; exact if_neg hc
        have e : turnM me w ⟨m, held, vals, false⟩ ⟨nx, 0, [r], ver⟩ = (⟨m, held, vals, false⟩, ⟨nx, 0, [r, (m[16]?.getD 0, false)], ver⟩) := by
          unfold turnM; simp [hf, hw, tk_1, ho, hb, lc, ask_done, ask_k]
        rw [e]
        exact stay _ (.take2 _ _ _ _ h0 h1 hw ho rfl) rfl
  | take2 nx ver r c h0 h1 hw he hc =>
    have hf : ¬ (w.length : Int) ≤ nx := by omega
    have e : turnM me w ⟨m, held, vals, false⟩ ⟨nx, 0, [r, c], ver⟩ = (⟨m, held, vals, false⟩, ⟨nx, 0, [], ver⟩) := by
      unfold turnM; simp [hf, hw, tk_2 he, hc, dn_done, dn_is]
    rw [e]
    exact stay _ (.idle _ _ h0 (by omega)) rfl
  | got nx ver r c h0 h1 hw he hn2 hc =>
    have hf : ¬ (w.length : Int) ≤ nx := by omega
    have hb : wr ((vals.length : Int) - 1) = cur := by rw [wr_id (by omega) (by omega)]; omega
    have ho : ¬ r.1 % 2 = 1 := by omega
    have hr2 : r.1 / 2 = cur := by omega
    have e : turnM me w ⟨m, held, vals, false⟩ ⟨nx, 0, [r, c], ver⟩ = (⟨m, held, vals, false⟩, ⟨nx, 1, [], cur⟩) := by
      unfold turnM; simp [hf, hw, tk_2 ho, hc, dn_done, dn_is, dn_ver, hb, hr2]
    rw [e]
    exact stay _ (.sto _ h0 h1 hw hn2) rfl
  | sto nx h0 h1 hw hn2 =>
    have hf : ¬ (w.length : Int) ≤ nx := by omega
    generalize hv : wr (wr (wr (1000 * (me : Int)) + wr (10 * nx)) + 5) = v
    have ls : doM m 2 17 0 v [] = (m.set 17 v, (m[17]?.getD 0, true), 0) := pdo_store (by omega) (by omega) v
    have e : turnM me w ⟨m, held, vals, false⟩ ⟨nx, 1, [], cur⟩ = (⟨m.set 17 v, held, vals ++ [v], false⟩, ⟨nx, 2, [], cur⟩) := by
      unfold turnM; simp [hf, hw, hv, pl_v, ls]
    rw [e]
    have g16 : (m.set 17 v)[16]?.getD 0 = m[16]?.getD 0 := by rw [List.getElem?_set_ne (by omega)]
    have g17 : (m.set 17 v)[17]?.getD 0 = v := by rw [List.getElem?_set_self (by omega)]; rfl
    have hpre : ∀ k : Nat, k < vals.length → (vals ++ [v])[k]?.getD 0 = vals[k]?.getD 0 := fun k hk => by rw [List.getElem?_append_left hk]
    refine inv_step (cur' := cur) (hd' := hd) hI0 hm (by simp [ml]) rfl ?_ ?_ (Int.le_refl _) c0 (by simp; omega) ?_ (fun j hj hne => ?_) ?_
    · rw [hxs, hWm]; unfold shr; simp; omega
    · simp only [g17]; simp
    · simp only [g16, hWm, hhd]
      exact .giv _ h0 h1 hw (by simp; omega)
    · simp only [g16]
      have := hoth j hj hne
      rcases hl with ⟨hall, _⟩ | ⟨h, hh3, hh, hall, _, _⟩
      · rw [hall me] at hhd; cases hhd
      · have hmh : me = h := by
          apply Classical.byContradiction
          intro hne'
          rw [hall me hne'] at hhd; cases hhd
        rw [hall j (by omega)] at this ⊢
        exact this.mono c1 (Int.le_refl _) hpre (.inl rfl)
    · simp only [g16]
      rcases hl with ⟨hall, _⟩ | h
      · rw [hall me] at hhd; cases hhd
      · exact .inr h
  | giv nx h0 h1 hw hn2 =>
    have hf : ¬ (w.length : Int) ≤ nx := by omega
    have hb : wr (2 * wr (cur + 1)) = 2 * (cur + 1) := by rw [wr_id (n := cur + 1) (by omega) (by omega), wr_id (by omega) (by omega)]
    have ls : acM m (askN 2 16 0 (2 * (cur + 1))) = (m.set 16 (2 * (cur + 1)), (m[16]?.getD 0, true), 0) := ac_st ml (by omega) (by omega)
    rcases hl with ⟨hall, _⟩ | ⟨h, hh3, hh, hall, hheld, hw1⟩
    · rw [hall me] at hhd; cases hhd
    · have hmh : me = h := by
        apply Classical.byContradiction
        intro hne'
        rw [hall me hne'] at hhd; cases hhd
      subst hmh
      subst hheld
      have hw01 : wr 0 = 0 := rfl
      have e : turnM me w ⟨m, 1, vals, false⟩ ⟨nx, 2, [], cur⟩ = (⟨m.set 16 (2 * (cur + 1)), 0, vals, false⟩, ⟨nx, 2, [(m[16]?.getD 0, true)], cur⟩) := by
        unfold turnM; simp [hf, hw, gv_0, hb, ls, ask_done, hw01]
      rw [e]
      have g16 : (m.set 16 (2 * (cur + 1)))[16]?.getD 0 = 2 * (cur + 1) := by rw [List.getElem?_set_self (by omega)]; rfl
      have g17 : (m.set 16 (2 * (cur + 1)))[17]?.getD 0 = m[17]?.getD 0 := by rw [List.getElem?_set_ne (by omega)]
      refine inv_step (cur' := cur + 1) (hd' := fun _ => false) hI0 hm (by simp [ml]) rfl (by rw [hxs, hWm]; rfl) (by simp only; rw [g17]; exact val) (by omega) (by omega) (by simp only; omega) ?_ (fun j hj hne => ?_) (.inl ⟨fun _ => rfl, rfl, g16, by simp only; omega⟩)
      · simp only [hWm]
        exact .gvn _ _ _ h0 h1 hw
      · simp only [g16]
        have := hoth j hj hne
        rw [hall j hne] at this
        exact this.mono c1 (by omega) (fun _ _ => rfl) (.inr (.inr ⟨rfl, by omega⟩))
  | gvn nx ver r h0 h1 hw =>
    have hf : ¬ (w.length : Int) ≤ nx := by omega
    have hnx : wr (nx + 1) = nx + 1 := wr_id (by omega) (by omega)
    have e : turnM me w ⟨m, held, vals, false⟩ ⟨nx, 2, [r], ver⟩ = (⟨m, held, vals, false⟩, ⟨nx + 1, 0, [], 0⟩) := by
      unfold turnM; simp [hf, hw, gv_1, dn_done, hnx]
    rw [e]
    refine stay _ (.idle _ _ (by omega) (by omega)) ?_
    unfold shr
    simp only
    rw [cnt_succ w h0, if_neg hw]
    simp
theorem Inv.small {W : Nat → List Int} {t : Tab} {s : Nat → Seat} {cur : Int} {hd : Nat → Bool} (hI : Inv W t s cur hd) : t.vals.length ≤ 28 ∧ ∀ j, j < 3 → (s j).log.length ≤ 3 ∧ 0 ≤ (s j).nx ∧ (s j).nx ≤ 8 := by
  have b : ∀ j, j < 3 → (s j).log.length ≤ 3 ∧ 0 ≤ (s j).nx ∧ (s j).nx ≤ 8 := fun j hj => by
    have := hI.wl j hj
    have hs := hI.sk j hj
    generalize s j = y at hs ⊢
    generalize hd j = b at hs
    cases hs with
    | read nx ver log h0 h1 hw hr =>
      refine ⟨?_, by simp only; omega, by simp only; omega⟩
      match log, hr with
      | [], _ => simp
      | [_], _ => simp
      | [_, _], _ => simp
      | [_, _, _], _ => simp
    | _ => exact ⟨by simp, by simp only; omega, by simp only; omega⟩
  refine ⟨?_, b⟩
  have cnt := hI.cnt
  have h0 := cnt_le (W 0) (s 0).nx.toNat
  have h1 := cnt_le (W 1) (s 1).nx.toNat
  have h2 := cnt_le (W 2) (s 2).nx.toNat
  have := b 0 (by omega)
  have := b 1 (by omega)
  have := b 2 (by omega)
  unfold shr at cnt
  split at cnt <;> split at cnt <;> split at cnt <;> omega
/-- What a turn does to a log. -/
theorem turn_head {me : Int} {w : List Int} {t : Tab} {x : Seat} (ml : t.m.length = 24) : ((turnM me w t x).2.log = x.log ∧ (turnM me w t x).2.nx = x.nx) ∨ (turnM me w t x).2.log = [] ∨ ((turnM me w t x).2.nx = x.nx ∧
    ((∃ r rest c, x.log = r :: rest ∧ (turnM me w t x).2.log = r :: (rest ++ [c])) ∨ (x.log = [] ∧ ((w[x.nx.toNat]?.getD 0).tmod 3 = 0 → (turnM me w t x).2.log = [(t.m[16]?.getD 0, true)])))) := by
  have l16 : acM t.m (askN 1 16 0 0) = (t.m, (t.m[16]?.getD 0, true), 0) := ac_ld ml (by omega) (by omega)
  obtain ⟨nx, st, log, ver⟩ := x
  unfold turnM
  by_cases h1 : (w.length : Int) ≤ nx
  · rw [if_pos h1]; exact .inl ⟨rfl, rfl⟩
  rw [if_neg h1]
  by_cases h2 : t.bad = true
  · rw [if_pos h2]; exact .inl ⟨rfl, rfl⟩
  rw [if_neg h2]
  by_cases hw : (w[nx.toNat]?.getD 0).tmod 3 = 0
  · rw [if_pos hw]
    by_cases h3 : (lkP me 4 0 log).done = true
    · rw [if_pos h3]; exact .inr (.inl rfl)
    · rw [if_neg h3]
      refine .inr (.inr ⟨rfl, ?_⟩)
      cases log with
      | nil => exact .inr ⟨rfl, fun _ => by simp only [rd_0, l16, List.nil_append]⟩
      | cons r rest => exact .inl ⟨r, rest, _, rfl, rfl⟩
  rw [if_neg hw]
  have app : ∀ c : Tib, (∃ r rest c', log = r :: rest ∧ log ++ [c] = r :: (rest ++ [c'])) ∨ (log = [] ∧ ((w[nx.toNat]?.getD 0).tmod 3 = 0 → log ++ [c] = [(t.m[16]?.getD 0, true)])) := fun c => by
    cases log with
    | nil => exact .inr ⟨rfl, fun h => absurd h hw⟩
    | cons r rest => exact .inl ⟨r, rest, c, rfl, rfl⟩
  by_cases h3 : st = 1
  · rw [if_pos h3]; exact .inl ⟨rfl, rfl⟩
  rw [if_neg h3]
  by_cases h4 : st = 0
  · rw [if_pos h4]
    by_cases h5 : (lkP me 1 0 log).done = true
    · rw [if_pos h5]
      by_cases h6 : (lkP me 1 0 log).is = true
      · rw [if_pos h6]; exact .inr (.inl rfl)
      · rw [if_neg h6]; exact .inr (.inl rfl)
    · rw [if_neg h5]
      by_cases h6 : (lkP me 1 0 log).k = 3 ∧ (acM t.m (lkP me 1 0 log)).2.1.2 = true
      · rw [if_pos h6]; exact .inr (.inr ⟨rfl, app _⟩)
      · rw [if_neg h6]; exact .inr (.inr ⟨rfl, app _⟩)
  rw [if_neg h4]
  by_cases h5 : (lkP me 2 (wr (ver + 1)) log).done = true
  · rw [if_pos h5]; exact .inr (.inl rfl)
  · rw [if_neg h5]; exact .inr (.inr ⟨rfl, app _⟩)
end Go.Proofs.Ytjkdenancggndaa
