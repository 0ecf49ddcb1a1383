/- Parts of the main law: slots, maps by key, results, what a piece of code reaches. No program in sight. -/
import Derived.Test.YtbnbljeegghgiaaSndn
import Derived.Recover
import Derived.LoopN
namespace Go.Proofs.Ytbnbljeegghgiaa
open Go.RowKit
set_option linter.unusedVariables false
set_option linter.unusedSimpArgs false

section
variable {P : Program} {ρ : Env} {G G' : Gh} {Q : Lf → Prop}

theorem put_get {F : Fr} {d : Option Tmp} {v : AV} {k : Fr → T} (h : (F.put d v k).sat Q ρ) : ∃ F2, (k F2).sat Q ρ ∧ F2.n = F.n ∧ F2.df = F.df ∧ (∀ t, F2.tm.get t = if d = some t then some v else F.tm.get t) ∧ ∀ t, d = some t → t < F.n := by
  unfold Fr.put at h
  cases d with
  | none => exact ⟨F, h, rfl, rfl, fun t => by rw [if_neg (by simp)], fun t ht => by cases ht⟩
  | some d =>
    simp only at h
    cases hb : Nat.blt d F.n with
    | false => rw [hb] at h; exact h.elim
    | true =>
      rw [hb] at h
      simp only [cond_true] at h
      have hlt : d < F.n := Nat.le_of_ble_eq_true hb
      split at h
      · rename_i tm htm
        refine ⟨_, h, rfl, rfl, fun t => ?_, fun t ht => by cases ht; exact hlt⟩
        rw [Tr.get_set _ _ _ _ _ htm]
        by_cases e : t = d
        · rw [if_pos e, if_pos (by rw [e])]
        · rw [if_neg e, if_neg (fun h => e (by cases h; rfl))]
      · exact h.elim
theorem put_getD {a : Act} {d : Option Tmp} {u : Value} {t : Nat} (h : d ≠ some t) : (a.put d u).tmps.getD t undef = a.tmps.getD t undef := by
  cases d with
  | none => rfl
  | some d =>
    simp only [Act.put, Array.getD_eq_getD_getElem?]
    rw [Array.getElem?_setIfInBounds, if_neg (fun e => h (by rw [e]))]
theorem put_self {a : Act} {d : Nat} {u : Value} (h : d < a.tmps.size) : (a.put (some d) u).tmps.getD d undef = u := by
  simp only [Act.put, Array.getD_eq_getD_getElem?]
  rw [Array.getElem?_setIfInBounds, if_pos rfl, if_pos h]
  rfl
theorem put_size (a : Act) (d : Option Tmp) (u : Value) : (a.put d u).tmps.size = a.tmps.size := by cases d <;> simp [Act.put]
theorem put_defers (a : Act) (d : Option Tmp) (u : Value) : (a.put d u).defers = a.defers := by cases d <;> rfl
theorem undef_ok : VR ρ G undefA undef := .tup _ _ rfl (fun i a v h => by simp at h)

theorem findA_sat {kk k0 : IntKind} {e : SE} : ∀ (es : List (AV × AV)) (en : List MapEntry) (i : Nat) {M : Me} {yes : AV → Me → T} {no : Me → T}, (findA M e es yes no).sat Q ρ → holdsAll ρ M.pc →
    es.all (keyIs kk) = true → en.length = es.length →
    (∀ (j : Nat) (p : AV × AV) (m : MapEntry), es[j]? = some p → en[j]? = some m → VR ρ G p.1 m.key ∧ VR ρ G p.2 m.val) →
    ∃ p, holdsAll ρ p ∧ ((∃ v j u, (yes v { M with pc := p }).sat Q ρ ∧ Instr.findNow (.int k0) (.int kk (e.den ρ).i) en i = some (some (j, u)) ∧ VR ρ G v u) ∨ ((no { M with pc := p }).sat Q ρ ∧ Instr.findNow (.int k0) (.int kk (e.den ρ).i) en i = some none))
  | [], en, i, M, yes, no, h, hpc, _, hl, _ => by
    cases en with
    | nil => exact ⟨M.pc, hpc, .inr ⟨h, rfl⟩⟩
    | cons m r => simp at hl
  | (x, v) :: es, en, i, M, yes, no, h, hpc, hall, hl, hv => by
    cases en with
    | nil => simp at hl
    | cons m r =>
      simp only [List.all_cons, Bool.and_eq_true] at hall
      obtain ⟨hx, hall⟩ := hall
      unfold keyIs at hx
      obtain ⟨hk, hval⟩ := hv 0 _ m rfl rfl
      cases x with
      | int kk' q =>
        simp only [decide_eq_true_eq] at hx
        subst hx
        have hk := hk.int_inv
        unfold findA at h
        obtain ⟨p, h1, h2⟩ := test_pc h hpc
        rw [eq_b] at h1
        by_cases he : (e.den ρ).i = (q.den ρ).i
        · rw [if_pos (by simpa using he)] at h1
          refine ⟨p, h2, .inl ⟨v, i, m.val, h1, ?_, hval⟩⟩
          unfold Instr.findNow
          rw [hk]
          have : Instr.sameNow (.int k0) (.int kk (e.den ρ).i) (.int kk (q.den ρ).i) = some true := by simp [Instr.sameNow, he]
          rw [this]
        · rw [if_neg (by simpa using he)] at h1
          obtain ⟨p', h3, h4⟩ := findA_sat (kk := kk) (k0 := k0) es r (i + 1) h1 h2 hall (by simpa using hl) (fun j p m' hp hm => hv (j + 1) p m' hp hm)
          refine ⟨p', h3, ?_⟩
          have : Instr.sameNow (.int k0) (.int kk (e.den ρ).i) (.int kk (q.den ρ).i) = some false := by simp [Instr.sameNow, he]
          unfold Instr.findNow
          rw [hk, this]
          exact h4
      | _ => exact absurd hx (by simp)

def resV (tmps : Array Value) : ResultVar → Sem Value
  | .tmp t => pure (tmps.getD t undef)
  | .cell a t => do loadVar t (← asAddr (tmps.getD a undef))
theorem results_sat {F : Fr} {tmps : Array Value} {w : World} : ∀ (rs : List ResultVar) {M : Me} {k : List AV → Me → T}, (resultsA P F M rs k).sat Q ρ → MR ρ G M w → (∀ t, VR ρ G ((F.tm.get t).getD .any) (tmps.getD t undef)) →
    ∃ (vs : List AV) (us : List Value) (p : PC), (k vs { M with pc := p }).sat Q ρ ∧ holdsAll ρ p ∧ VRs ρ G vs us.toArray ∧ (rs.mapM (resV tmps)).run P w = .ok us w
  | [], M, k, h, hM, ht => ⟨[], [], M.pc, h, hM.pc, ⟨rfl, fun i a v h => by simp at h⟩, rfl⟩
  | .tmp t :: r, M, k, h, hM, ht => by
    obtain ⟨vs, us, p, h1, h2, h3, h4⟩ := results_sat r h hM ht
    refine ⟨_, tmps.getD t undef :: us, p, h1, h2, ?_, ?_⟩
    · refine ⟨by simpa using h3.1, fun i a v ha hv => ?_⟩
      cases i with
      | zero => simp only [List.getElem?_cons_zero, Option.some.injEq] at ha; simp at hv; subst ha; subst hv; simpa using ht t
      | succ i => exact h3.2 i a v (by simpa using ha) (by simpa using hv)
    · rw [List.mapM_cons]
      simp only [resV, Sem.run_bind, Sem.run_pure, Result.andThen_ok, h4]
  | .cell x t :: r, M, k, h, hM, ht => by
    unfold resultsA at h
    split at h
    · rename_i v cs hv
      obtain ⟨hcs, p, h1, h2⟩ := needs_pc cs h hM.pc
      obtain ⟨vs, us, p', h3, h4, h5, h6⟩ := results_sat r h1 (hM.pcs h2) ht
      obtain ⟨z, hz, hzr⟩ := read_ok (w := w) hM.ob hv hcs (ht x)
      refine ⟨_, z :: us, p', h3, h4, ?_, ?_⟩
      · refine ⟨by simpa using h5.1, fun i a v ha hv => ?_⟩
        cases i with
        | zero => simp at ha; simp at hv; subst ha; subst hv; exact hzr
        | succ i => exact h5.2 i a v (by simpa using ha) (by simpa using hv)
      · have hp : ∃ a, tmps.getD x undef = .pointer (some a) := by
          have hx := ht x
          revert hv
          generalize (F.tm.get x).getD .any = y at hx
          generalize tmps.getD x undef = u at hx
          intro hv
          unfold readA at hv
          cases hx with
          | ptr b o g a hg ha => exact ⟨a, rfl⟩
          | elt b s i j g a hg ha => exact ⟨a, rfl⟩
          | _ => split at hv <;> cases hv
        obtain ⟨a, ha⟩ := hp
        rw [List.mapM_cons]
        rw [ha] at hz
        have hz' : (loadVar t a).run P w = .ok z w := hz
        simp only [resV, Sem.run_bind, Sem.run_pure, Result.andThen_ok, h6, ha, asAddr, hz']
    · exact h.elim

theorem argsTm_get : ∀ (f i : Nat) (t t' : Tr) (l : List AV), argsTm f i t l = some t' → ∀ m, t'.get m = if i ≤ m ∧ m < i + l.length then l[m - i]? else t.get m
  | f, i, t, t', [], h, m => by
    have : t' = t := by cases f <;> (unfold argsTm at h; cases h; rfl)
    subst this
    rw [if_neg (by simp)]
  | 0, i, t, t', v :: r, h, m => by unfold argsTm at h; cases h
  | f + 1, i, t, t', v :: r, h, m => by
    unfold argsTm at h
    split at h
    · rename_i t1 h1
      rw [argsTm_get f (i + 1) t1 t' r h m]
      by_cases hm : m = i
      · subst hm
        rw [if_neg (by omega), Tr.get_set _ _ _ _ _ h1, if_pos rfl, if_pos (by simp)]
        simp
      · by_cases hr : i + 1 ≤ m ∧ m < i + 1 + r.length
        · rw [if_pos hr, if_pos (by simp; omega)]
          obtain ⟨j, rfl⟩ : ∃ j, m = i + 1 + j := ⟨m - (i + 1), by omega⟩
          rw [show i + 1 + j - (i + 1) = j by omega, show i + 1 + j - i = j + 1 by omega]
          simp
        · rw [if_neg hr, if_neg (by simp; omega), Tr.get_set _ _ _ _ _ h1, if_neg hm]
    · cases h
/-- The frame of a call. -/
theorem enter_ok {as : List AV} {us : Array Value} {n : Nat} {t0 tm : Tr} (h0 : argsTm 400 as.length .lf (List.replicate (n - as.length) undefA) = some t0) (h1 : argsTm 200 0 t0 as = some tm) (hn : as.length ≤ n) (hv : VRs ρ G as us) :
    FR ρ G ⟨tm, n, []⟩ { tmps := us ++ Array.replicate (n - us.size) undef, defers := [] } := by
  refine ⟨by simp; have := hv.1; omega, fun t v ht => ?_, trivial⟩
  rw [argsTm_get _ _ _ _ _ h1] at ht
  have hs := hv.1
  rw [Array.getD_eq_getD_getElem?]
  split at ht
  · rename_i hlt
    simp only [Nat.sub_zero] at ht
    have hlt' : t < us.size := by omega
    rw [Array.getElem?_append, if_pos hlt', Array.getElem?_eq_getElem hlt']
    exact hv.2 t v _ ht (Array.getElem?_eq_getElem hlt')
  · rename_i hge
    rw [argsTm_get _ _ _ _ _ h0] at ht
    split at ht
    · rename_i hlt
      rw [List.getElem?_replicate] at ht
      split at ht
      · cases ht
        rw [Array.getElem?_append, if_neg (by omega), Array.getElem?_replicate]
        split <;> exact undef_ok
      · cases ht
    · rw [Tr.get_lf] at ht; cases ht

/-! What code reaches. -/
def XR (ρ : Env) (G : Gh) : XK → Exit → Prop
  | .norm, .normal => True
  | .exit i, .exit j => i = j
  | .goto i, .goto j => i = j
  | .ret, .ret => True
  | .panic v, .panic ch => ∃ u, ch = [{ v := u, recovered := false }] ∧ VR ρ G v u
  | _, _ => False
def Reach (ρ : Env) (Q : Lf → Prop) (k : Lf → T) (G : Gh) (M : Me) (w : World) (e : Exit) (a' : Act) (w' : World) : Prop :=
  ∃ x F' G' M', XR ρ G' x e ∧ FR ρ G' F' a' ∧ MR ρ G' M' w' ∧ Stp ρ G M w G' M' w' ∧ (k (.code x F' M')).sat Q ρ
theorem Reach.from {k : Lf → T} {G1 : Gh} {M M1 : Me} {w w1 : World} {e : Exit} {a' : Act} {w' : World} (h : Reach ρ Q k G1 M1 w1 e a' w') (s : Stp ρ G M w G1 M1 w1) : Reach ρ Q k G M w e a' w' := by
  obtain ⟨x, F', G', M', h1, h2, h3, h4, h5⟩ := h
  exact ⟨x, F', G', M', h1, h2, h3, s.trans h4, h5⟩
def CReach (ρ : Env) (Q : Lf → Prop) (k : Lf → T) (G : Gh) (M : Me) (w : World) (e : Ending) (w' : World) : Prop :=
  ∃ G' M', MR ρ G' M' w' ∧ Stp ρ G M w G' M' w' ∧ match e with
    | .returned u => ∃ v, VR ρ G' v u ∧ (k (.val v M')).sat Q ρ
    | .panicked ch => ∃ v u, ch = [{ v := u, recovered := false }] ∧ VR ρ G' v u ∧ (k (.pan v M')).sat Q ρ
    | .outgrown => False

end
/-! The main law's parts, one for each task. -/
section
variable (X : Cx) (ρ : Env) (Q : Lf → Prop) (n : Nat)
def SCode : Prop := ∀ (c : Code) (F : Fr) (M : Me) (k : Lf → T) (G : Gh) (a : Act) (w : World) (R : Exit → Act → World → Prop), (run n X (.code c) F M k).sat Q ρ → MR ρ G M w → FR ρ G F a → (∀ e a' w', Reach ρ Q k G M w e a' w' → R e a' w') → c.wp X.P R a w
def SLoop : Prop := ∀ (c : Code) (F : Fr) (M : Me) (k : Lf → T) (G : Gh) (a : Act) (w : World) (R : Exit → Act → World → Prop), (run n X (.loop c) F M k).sat Q ρ → MR ρ G M w → FR ρ G F a → (∀ e a' w', Reach ρ Q k G M w e a' w' → R e a' w') → Code.rounds X.P c R n a w
def SOps : Prop := ∀ (ops : Array Oper) (l : List Oper) (F : Fr) (M : Me) (k : Lf → T) (G : Gh) (a : Act) (w : World) (R : Exit → Act → World → Prop), (run n X (.ops ops l) F M k).sat Q ρ → MR ρ G M w → FR ρ G F a →
  (∀ e a' w', Reach ρ Q k G M w e a' w' → (∀ d, (∀ o ∈ l, o.dst ≠ some d) → a'.tmps.getD d undef = a.tmps.getD d undef) → R e a' w') → wpList X.P ops R l a w
def SCall : Prop := ∀ (fid : FuncId) (first cap args : List AV) (F : Fr) (M : Me) (k : Lf → T) (G : Gh) (w : World) (vf vc va : Array Value) (R : Ending → World → Prop), (run n X (.call (.func (.func fid) first cap) args) F M k).sat Q ρ → MR ρ G M w → VRs ρ G first vf → VRs ρ G cap vc → VRs ρ G args va →
  (∀ e w', CReach ρ Q k G M w e w' → R e w') → (∃ fn, X.P.funcs[fid]? = some fn ∧ fn.body.isNone = false) ∧ Calls X.P fid (vf ++ va ++ vc) w R
def SDefers : Prop := ∀ (fn : Func) (ds : List (AV × List AV)) (pn : Option AV) (F : Fr) (M : Me) (k : Lf → T) (G : Gh) (w : World) (tmps : Array Value) (cs : List Deferred) (u : FrameMode) (R : Ending → World → Prop), (run n X (.defers fn ds pn) F M k).sat Q ρ → MR ρ G M w →
  (∀ t, VR ρ G ((F.tm.get t).getD .any) (tmps.getD t undef)) → DfR ρ G ds cs → (match pn with | none => u = .returning | some v => ∃ x, u = .panicking [{ v := x, recovered := false }] ∧ VR ρ G v x) → (∀ e w', CReach ρ Q k G M w e w' → R e w') → Leaves X.P fn tmps R cs u w
def SDraw : Prop := ∀ (id : Nat) (ops : Array Oper) (l : List Nat) (tm : Tr) (F : Fr) (M : Me) (k : Lf → T) (G : Gh) (a : Act) (w : World) (R : Exit → Act → World → Prop), tidy ops (Region.before ops) = true → validB ops (Region.before ops) (2 ^ ops.size - 1) l = true →
  blank F.tm (dsts ops fun _ => true) = some tm → (run n X (.draw ⟨ops, Region.before ops, M.nb⟩ l) { F with tm } { M with nb := M.nb + ops.size } k).sat Q ρ → MR ρ G M w → FR ρ G F a → (∀ e a' w', Reach ρ Q k G M w e a' w' → R e a' w') → (Code.region id ops true).wp X.P R a w
end
end Go.Proofs.Ytbnbljeegghgiaa
