/- Regions that draw their own order: what holds between the order of the executor and the order that is drawn. No program in sight. -/
import Derived.Test.YtbnbljeegghgiaaSndq
namespace Go.Proofs.Ytbnbljeegghgiaa
open Go.RowKit
set_option linter.unusedVariables false
set_option linter.unusedSimpArgs false

theorem hget_filter (f : Nat → Bool) (hp : List (Nat × Ob)) (b : Nat) : hget (hp.filter fun p => f p.1) b = if f b = true then hget hp b else none := by
  induction hp with
  | nil => simp [hget]
  | cons p r ih =>
    obtain ⟨c, o⟩ := p
    simp only [List.filter_cons]
    by_cases hc : f c = true
    · rw [if_pos hc]
      simp only [hget, beq_iff]
      by_cases hcb : c = b
      · subst hcb; rw [if_pos rfl, if_pos hc, if_pos rfl]
      · rw [if_neg hcb, if_neg hcb, ih]
    · rw [if_neg hc]
      simp only [hget, beq_iff]
      by_cases hcb : c = b
      · subst hcb; rw [ih, if_neg hc, if_neg hc]
      · rw [if_neg hcb, ih]
theorem hget_append (x y : List (Nat × Ob)) (b : Nat) : hget (x ++ y) b = match hget x b with | some o => some o | none => hget y b := by
  induction x with
  | nil => rfl
  | cons p r ih =>
    obtain ⟨c, o⟩ := p
    simp only [List.cons_append, hget]
    split
    · rfl
    · exact ih
theorem blank_get : ∀ (ds : List Tmp) (t t' : Tr), blank t ds = some t' → ∀ m, t'.get m = if m ∈ ds then some .any else t.get m
  | [], t, t', h, m => by cases h; simp
  | d :: r, t, t', h, m => by
    unfold blank at h
    split at h
    · rename_i t1 h1
      rw [blank_get r t1 t' h m]
      by_cases hr : m ∈ r
      · rw [if_pos hr, if_pos (List.mem_cons_of_mem _ hr)]
      · rw [if_neg hr, Tr.get_set _ _ _ _ _ h1]
        by_cases hm : m = d
        · rw [if_pos hm, if_pos (by rw [hm]; exact List.mem_cons_self ..)]
        · rw [if_neg hm, if_neg (by simp [hm, hr])]
    · cases h
theorem mem_dsts {ops : Array Oper} {p : Nat → Bool} {d : Tmp} : d ∈ dsts ops p ↔ ∃ i o, ops[i]? = some o ∧ p i = true ∧ o.dst = some d := by
  unfold dsts
  simp only [List.mem_filterMap, List.mem_filter]
  constructor
  · rintro ⟨⟨o, i⟩, ⟨h1, h2⟩, h3⟩
    rw [List.mem_zipIdx_iff_getElem?] at h1
    exact ⟨i, o, by simpa using h1, h2, h3⟩
  · rintro ⟨i, o, h1, h2, h3⟩
    exact ⟨(o, i), ⟨by rw [List.mem_zipIdx_iff_getElem?]; simpa using h1, h2⟩, h3⟩

/-! What the checks give. -/
structure Tidy (ops : Array Oper) (b : Array Nat) : Prop where
  uniq : ∀ (i j : Nat) (oi oj : Oper) (d : Tmp), ops[i]? = some oi → ops[j]? = some oj → oi.dst = some d → oj.dst = some d → i = j
  side : ∀ (i j : Nat) (oi oj : Oper) (d : Tmp), ops[i]? = some oi → ops[j]? = some oj → oj.dst = some d → d ∈ tmpsOf ops oi → (b.getD i 0).testBit j = true ∨ (b.getD j 0).testBit i = true
  sideL : ∀ (i j : Nat) (oi oj : Oper) (d : Tmp), ops[i]? = some oi → ops[j]? = some oj → oj.dst = some d → d ∈ tmpsOf ops oi → kindOf oi = .l → (b.getD i 0).testBit j = true
  ready : ∀ (i : Nat) (o : Oper), ops[i]? = some o → ∀ (S : Nat → Bool), (∀ j, S j = true → ∀ k, (b.getD j 0).testBit k = true → S k = true) → (∀ e ∈ o.after.toList, Region.binds .any e = true → S e.on = true) → ∀ k, (b.getD i 0).testBit k = true → S k = true
  back : ∀ (i : Nat) (o : Oper), ops[i]? = some o → ∀ e ∈ o.after.toList, Region.binds .any e = true → e.on < i
theorem fold_bits (b : Array Nat) (S : Nat → Bool) (hS : ∀ j, S j = true → ∀ k, (b.getD j 0).testBit k = true → S k = true) : ∀ (es : List Edge) (u : Nat), (∀ e ∈ es, Region.binds .any e = true → S e.on = true) → (∀ k, u.testBit k = true → S k = true) →
    ∀ k, (es.foldl (fun u e => bif Region.binds .any e then Nat.lor u (Nat.lor (2 ^ e.on) (b.getD e.on 0)) else u) u).testBit k = true → S k = true
  | [], u, h, hu => hu
  | e :: r, u, h, hu => by
    rw [List.foldl_cons]
    refine fold_bits b S hS r _ (fun e' he' => h e' (List.mem_cons_of_mem _ he')) fun k hk => ?_
    cases hb : Region.binds .any e with
    | false => rw [hb] at hk; exact hu k hk
    | true =>
      rw [hb] at hk
      simp only [cond_true] at hk
      have hk' : (u ||| (2 ^ e.on ||| b.getD e.on 0)).testBit k = true := hk
      rw [Nat.testBit_or, Nat.testBit_or, Nat.testBit_two_pow] at hk'
      have hon := h e (List.mem_cons_self ..) hb
      simp only [Bool.or_eq_true, decide_eq_true_eq] at hk'
      rcases hk' with h1 | h1 | h1
      · exact hu k h1
      · rw [← h1]; exact hon
      · exact hS _ hon k h1
theorem tidy_ok {ops : Array Oper} {b : Array Nat} (h : tidy ops b = true) : Tidy ops b := by
  unfold tidy at h
  split at h
  · rename_i W hW
    unfold tidyB at h
    have at' : ∀ i o, ops[i]? = some o → (match o.dst with | none => true | some d => (match W.get d with | some (.ptr j _) => Nat.beq i j | _ => false)) = true ∧
        ((tmpsOf ops o).all fun t => match W.get t with | none => true | some (.ptr j _) => (b.getD i 0).testBit j || (!decide (kindOf o = .l) && (b.getD j 0).testBit i) | _ => false) = true ∧
        b.getD i 0 = (o.after.toList.foldl (fun u e => bif Region.binds .any e then Nat.lor u (Nat.lor (2 ^ e.on) (b.getD e.on 0)) else u) 0) ∧
        ∀ e ∈ o.after.toList, (!Region.binds .any e || Nat.blt e.on i) = true := by
      intro i o hi
      have := List.all_eq_true.1 h (o, i) (by rw [List.mem_zipIdx_iff_getElem?]; simpa using hi)
      simp only [Bool.and_eq_true, beq_iff] at this
      exact ⟨this.1.1.1, this.1.1.2, this.1.2, List.all_eq_true.1 this.2⟩
    have hW : ∀ i o d, ops[i]? = some o → o.dst = some d → ∃ x, W.get d = some (.ptr i x) := by
      intro i o d hi hd
      have h1 := (at' i o hi).1
      rw [hd] at h1
      simp only at h1
      split at h1
      · rename_i j x hj
        rw [(beq_iff _ _).1 h1]
        exact ⟨x, hj⟩
      · cases h1
    refine ⟨fun i j oi oj d h1 h2 h3 h4 => ?_, fun i j oi oj d h1 h2 h3 h4 => ?_, fun i j oi oj d h1 h2 h3 h4 hl => ?_, fun i o hi S hS he k hk => ?_, fun i o hi e he hb => ?_⟩
    · obtain ⟨x, hx⟩ := hW i oi d h1 h3
      obtain ⟨y, hy⟩ := hW j oj d h2 h4
      rw [hx] at hy; cases hy; rfl
    · obtain ⟨y, hy⟩ := hW j oj d h2 h3
      have := List.all_eq_true.1 (at' i oi h1).2.1 d h4
      rw [hy] at this
      simp only [Bool.or_eq_true, Bool.and_eq_true] at this
      exact this.imp id (·.2)
    · obtain ⟨y, hy⟩ := hW j oj d h2 h3
      have := List.all_eq_true.1 (at' i oi h1).2.1 d h4
      rw [hy] at this
      simpa [hl] using this
    · rw [(at' i o hi).2.2.1] at hk
      exact fold_bits b S hS o.after.toList 0 he (fun k hk => by simp at hk) k hk
    · have := (at' i o hi).2.2.2 e he
      rw [hb] at this
      simp only [Bool.not_true, Bool.false_or] at this
      exact Nat.le_of_ble_eq_true this
  · cases h
def Valid (ops : Array Oper) (b : Array Nat) : List Nat → Prop
  | [] => True
  | i :: r => (∀ j ∈ i :: r, (b.getD i 0).testBit j = false) ∧ i ∉ r ∧ (isH ops i = true → ∀ j ∈ r, (b.getD j 0).testBit i = true) ∧ Valid ops b r
theorem validB_ok (ops : Array Oper) (b : Array Nat) : ∀ (l : List Nat) (rem : Nat), validB ops b rem l = true → Valid ops b l ∧ ∀ j, rem.testBit j = true ↔ j ∈ l
  | [], rem, h => by
    have : rem = 0 := (beq_iff _ _).1 h
    subst this
    exact ⟨trivial, fun j => by simp⟩
  | i :: r, rem, h => by
    simp only [validB, Bool.and_eq_true, beq_iff] at h
    obtain ⟨⟨⟨h1, h2⟩, h4⟩, h3⟩ := h
    obtain ⟨v, m⟩ := validB_ok ops b r _ h3
    have m' : ∀ j, (rem.testBit j ^^ decide (i = j)) = true ↔ j ∈ r := fun j => by
      rw [← m j]
      have : (rem ^^^ 2 ^ i).testBit j = (rem.testBit j ^^ (2 ^ i).testBit j) := Nat.testBit_xor ..
      rw [show Nat.xor rem (2 ^ i) = rem ^^^ 2 ^ i from rfl, this, Nat.testBit_two_pow]
    have hir : i ∉ r := fun hr => by
      have := (m' i).2 hr
      rw [h2] at this
      simp at this
    have mm : ∀ j, rem.testBit j = true ↔ j ∈ i :: r := fun j => by
      rw [List.mem_cons]
      by_cases hj : i = j
      · subst hj; simp [h2]
      · rw [← m' j]
        simp [hj, Ne.symm hj]
    refine ⟨⟨fun j hj => ?_, hir, fun hh j hj => ?_, v⟩, mm⟩
    · have : (b.getD i 0 &&& rem).testBit j = false := by rw [show b.getD i 0 &&& rem = Nat.land (b.getD i 0) rem from rfl, h1]; simp
      rw [Nat.testBit_and, (mm j).2 hj] at this
      simpa using this
    · rw [hh] at h4
      simp only [Bool.not_true, Bool.false_or] at h4
      exact List.all_eq_true.1 h4 j hj

section
variable {P : Program} {ρ : Env} {G G' G0 : Gh} {M M0 : Me} {w w0 : World}
theorem MR.hpc {hp : List (Nat × Ob)} {p : PC} (h : MR ρ G M w) (hh : ∀ b, hget hp b = hget M.hp b) (hp' : holdsAll ρ p) : MR ρ G { M with hp, pc := p } w :=
  ⟨hp', h.fresh, fun b o hb => h.ob b o (by rw [← hh]; exact hb), fun b o c p g y hb hc => h.apart b o c p g y (by rw [← hh]; exact hb) (by rw [← hh]; exact hc)⟩
theorem Stp.hpc {hp : List (Nat × Ob)} {p : PC} (h : Stp ρ G0 M0 w0 G M w) (hh : ∀ b, hget hp b = hget M.hp b) : Stp ρ G0 M0 w0 G { M with hp, pc := p } w :=
  ⟨h.gh, h.os, h.tape, h.output, h.size, h.keep, fun k ⟨b, o, g, h1, h2⟩ hk => h.mine k ⟨b, o, g, by rw [← hh]; exact h1, h2⟩ hk, h.nb, h.old, fun b ks e hb => h.ro b ks e (by rw [← hh]; exact hb)⟩

/-- The blocks without those that are kept for operations not in S. -/
def inS (D : Dr) (S : Nat → Bool) (b : Nat) : Bool := Nat.blt b D.q || Nat.ble (D.q + D.ops.size) b || S (b - D.q)
def live (D : Dr) (S : Nat → Bool) (hp : List (Nat × Ob)) : List (Nat × Ob) := hp.filter fun p => inS D S p.1
theorem hget_live (D : Dr) (S : Nat → Bool) (hp : List (Nat × Ob)) (b : Nat) : hget (live D S hp) b = if inS D S b = true then hget hp b else none := hget_filter (inS D S) hp b
theorem inS_at {D : Dr} {S : Nat → Bool} {i : Nat} (hi : i < D.ops.size) : inS D S (D.q + i) = S i := by
  have h1 : Nat.blt (D.q + i) D.q = false := by
    cases h : Nat.blt (D.q + i) D.q with
    | false => rfl
    | true => have := Nat.le_of_ble_eq_true h; omega
  have h2 : Nat.ble (D.q + D.ops.size) (D.q + i) = false := by
    cases h : Nat.ble (D.q + D.ops.size) (D.q + i) with
    | false => rfl
    | true => have := Nat.le_of_ble_eq_true h; omega
  unfold inS
  rw [h1, h2, Nat.add_sub_cancel_left]
  simp
theorem inS_out {D : Dr} {S : Nat → Bool} {b : Nat} (h : inS D S b = false) : ∃ i, i < D.ops.size ∧ b = D.q + i ∧ S i = false := by
  unfold inS at h
  simp only [Bool.or_eq_false_iff] at h
  obtain ⟨⟨h1, h2⟩, h3⟩ := h
  have a1 : ¬ b < D.q := fun hh => by
    have : Nat.blt b D.q = true := Nat.ble_eq_true_of_le hh
    rw [this] at h1; cases h1
  have a2 : ¬ D.q + D.ops.size ≤ b := fun hh => by
    have : Nat.ble (D.q + D.ops.size) b = true := Nat.ble_eq_true_of_le hh
    rw [this] at h2; cases h2
  exact ⟨b - D.q, by omega, by omega, h3⟩

/-- A light operation that the executor has passed and the drawn order has not. -/
def Pend (P : Program) (ρ : Env) (D : Dr) (F : Fr) (hp : List (Nat × Ob)) (i : Nat) (o : Oper) : Prop :=
  ∃ (Fi : Fr) (v : AV) (ob : Option Ob), (∀ t ∈ tmpsOf D.ops o, (Fi.tm.get t).getD .any = .any ∨ (Fi.tm.get t = F.tm.get t ∧ ∀ j oj, D.ops[j]? = some oj → oj.dst = some t → (D.b.getD i 0).testBit j = true)) ∧
    ((Guards ρ D.ops Fi o false ∧ v = undefA ∧ ob = none) ∨ (Guards ρ D.ops Fi o true ∧ Lit P ρ Fi (hpOf o hp) o (D.q + i) v ob)) ∧
    (∀ d, o.dst = some d → F.tm.get d = some v ∧ d < F.n) ∧ hget hp (D.q + i) = ob ∧ (kindOf o = .l → ob = none)
structure DI (P : Program) (ρ : Env) (D : Dr) (todo : List Nat) (F : Fr) (M : Me) (S : Nat → Bool) (G : Gh) (a : Act) (w : World) (G0 : Gh) (M0 : Me) (w0 : World) : Prop where
  valid : Valid D.ops D.b todo
  lt : ∀ i ∈ todo, i < D.ops.size
  SN : ∀ i, S i = true → i < D.ops.size
  downS : ∀ i, S i = true → ∀ j, (D.b.getD i 0).testBit j = true → S j = true
  downD : ∀ i, i < D.ops.size → i ∉ todo → ∀ j, (D.b.getD i 0).testBit j = true → j ∉ todo
  SD : ∀ i ∈ todo, S i = false
  heavyS : ∀ i, i < D.ops.size → i ∉ todo → isH D.ops i = true → S i = true
  pend : ∀ i o, D.ops[i]? = some o → i ∉ todo → S i = false → Pend P ρ D F M.hp i o
  unk : ∀ i ∈ todo, ∀ o d, D.ops[i]? = some o → o.dst = some d → (F.tm.get d).getD .any = .any
  lay : ∀ i ∈ todo, hget M.hp (D.q + i) = none
  size : a.tmps.size = F.n
  df : DfR ρ G F.df a.defers
  slot : ∀ t, (∀ i o, D.ops[i]? = some o → o.dst = some t → S i = true ∨ i ∈ todo) → VR ρ G ((F.tm.get t).getD .any) (a.tmps.getD t undef)
  mem : MR ρ G { M with hp := live D S M.hp } w
  noG : ∀ i, i < D.ops.size → S i = false → G (D.q + i) = none
  nbq : D.q + D.ops.size ≤ M.nb
  q0 : M0.nb ≤ D.q
  base : Stp ρ G0 M0 w0 G { M with hp := live D S M.hp } w

variable {D : Dr} {todo : List Nat} {F : Fr} {S : Nat → Bool} {a : Act}
theorem oper_lt {D : Dr} {i : Nat} {o : Oper} (h : D.ops[i]? = some o) : i < D.ops.size := (Array.getElem?_eq_some_iff.1 h).1

/-- A pending operation keeps, whatever the operations still to come write. -/
theorem Pend.keep {F2 : Fr} {hp hp2 : List (Nat × Ob)} {i : Nat} {o : Oper} (h : Pend P ρ D F hp i o) (hi : D.ops[i]? = some o) (hn : F2.n = F.n) (hit : i ∉ todo) (hd : ∀ j, (D.b.getD i 0).testBit j = true → j ∉ todo) (T : Tidy D.ops D.b)
    (hF : ∀ t, F2.tm.get t = F.tm.get t ∨ ∃ j ∈ todo, ∃ oj, D.ops[j]? = some oj ∧ oj.dst = some t) (hlit : ∀ Fi v ob, Lit P ρ Fi (hpOf o hp) o (D.q + i) v ob → Lit P ρ Fi (hpOf o hp2) o (D.q + i) v ob) (hlay : hget hp2 (D.q + i) = hget hp (D.q + i)) : Pend P ρ D F2 hp2 i o := by
  obtain ⟨Fi, v, ob, h1, h2, h3, h4, h5⟩ := h
  have hdst : ∀ d, o.dst = some d → F2.tm.get d = F.tm.get d := fun d hd' => by
    rcases hF d with h | ⟨j, hj, oj, hoj, hdj⟩
    · exact h
    · exact absurd (T.uniq i j o oj d hi hoj hd' hdj ▸ hj) hit
  refine ⟨Fi, v, ob, fun t ht => ?_, h2.imp id (fun h => ⟨h.1, hlit _ _ _ h.2⟩), fun d hd' => by rw [hdst d hd', hn]; exact h3 d hd', hlay.trans h4, h5⟩
  rcases h1 t ht with h | ⟨h, hw⟩
  · exact .inl h
  · rcases hF t with h' | ⟨j, hj, oj, hoj, hdj⟩
    · exact .inr ⟨h.trans h'.symm, hw⟩
    · exact absurd hj (hd j (hw j oj hoj hdj))

/-- The executor passes a light operation. -/
theorem DI.pass {i : Nat} {r : List Nat} {o : Oper} {F2 : Fr} {v : AV} {ob : Option Ob} {p : PC} (h : DI P ρ D (i :: r) F M S G a w G0 M0 w0) (T : Tidy D.ops D.b) (hi : D.ops[i]? = some o) (hk : kindOf o ≠ .h)
    (hn : F2.n = F.n) (hdf : F2.df = F.df) (ht : ∀ t, F2.tm.get t = if o.dst = some t then some v else F.tm.get t) (hlt : ∀ t, o.dst = some t → t < F.n) (hp : holdsAll ρ p)
    (hold : (Guards ρ D.ops F o false ∧ v = undefA ∧ ob = none) ∨ (Guards ρ D.ops F o true ∧ Lit P ρ F (hpOf o M.hp) o (D.q + i) v ob ∧ (kindOf o = .l → ob = none))) :
    DI P ρ D r F2 { layA M (D.q + i) ob with pc := p } S G a w G0 M0 w0 := by
  obtain ⟨hv1, hir, _, hv2⟩ := h.valid
  have hiN := oper_lt hi
  have hSi := h.SD i (List.mem_cons_self ..)
  have hiL := h.lay i (List.mem_cons_self ..)
  have hhp : ∀ b, hget (layA M (D.q + i) ob).hp b = if b = D.q + i then ob else hget M.hp b := fun b => by
    cases ob with
    | none =>
      show hget M.hp b = _
      split
      · rename_i e; rw [e]; exact hiL
      · rfl
    | some x => exact hget_hset M.hp _ x b
  have hlive : ∀ b, hget (live D S (layA M (D.q + i) ob).hp) b = hget (live D S M.hp) b := fun b => by
    rw [hget_live, hget_live]
    split
    · rename_i hin
      rw [hhp, if_neg]
      intro e
      rw [e, inS_at hiN, hSi] at hin
      cases hin
    · rfl
  have hnb : (layA M (D.q + i) ob).nb = M.nb := by cases ob <;> rfl
  have hnv : (layA M (D.q + i) ob).nv = M.nv := by cases ob <;> rfl
  have hne : ∀ j ∈ r, j ≠ i := fun j hj e => hir (e ▸ hj)
  have hF : ∀ t, F2.tm.get t = F.tm.get t ∨ ∃ j ∈ i :: r, ∃ oj, D.ops[j]? = some oj ∧ oj.dst = some t := fun t => by
    rw [ht]
    split
    · rename_i e; exact .inr ⟨i, List.mem_cons_self .., o, hi, e⟩
    · exact .inl rfl
  refine ⟨hv2, fun j hj => h.lt j (List.mem_cons_of_mem _ hj), h.SN, h.downS, fun j hj hjr k hk => ?_, fun j hj => h.SD j (List.mem_cons_of_mem _ hj), fun j hj hjr hh => ?_, fun j oj hj hjr hSj => ?_, fun j hj oj d hoj hd => ?_, fun j hj => ?_, by rw [hn]; exact h.size, by rw [hdf]; exact h.df, fun t hc => ?_, ?_, h.noG, by show _ ≤ (layA M (D.q + i) ob).nb; rw [hnb]; exact h.nbq, h.q0, ?_⟩
  · by_cases hji : j = i
    · subst hji
      intro hkr
      rw [hv1 k (List.mem_cons_of_mem _ hkr)] at hk; cases hk
    · exact fun hkr => h.downD j hj (by simp [hji, hjr]) k hk (List.mem_cons_of_mem _ hkr)
  · by_cases hji : j = i
    · subst hji
      unfold isH at hh
      rw [hi] at hh
      simp only [decide_eq_true_eq] at hh
      exact absurd hh hk
    · exact h.heavyS j hj (by simp [hji, hjr]) hh
  · by_cases hji : j = i
    · subst hji
      rw [hi] at hj; cases hj
      refine ⟨F, v, ob, fun t htm => ?_, ?_, fun d hd => ⟨by rw [ht, if_pos hd], by rw [hn]; exact hlt d hd⟩, by show hget (layA M (D.q + j) ob).hp (D.q + j) = ob; rw [hhp, if_pos rfl], fun hkl => by rcases hold with ⟨_, _, h⟩ | ⟨_, _, h⟩; exact h; exact h hkl⟩
      · by_cases hany : (F.tm.get t).getD .any = .any
        · exact .inl hany
        · refine .inr ⟨?_, fun k ok hk' hd => ?_⟩
          · rw [ht, if_neg]
            intro e
            exact hany (h.unk j (List.mem_cons_self ..) o t hi e)
          · rcases T.side j k o ok t hi hk' hd htm with hb | hb
            · exact hb
            · exfalso
              by_cases hkt : k ∈ j :: r
              · exact hany (h.unk k hkt ok t hk' hd)
              · exact h.downD k (oper_lt hk') hkt j hb (List.mem_cons_self ..)
      · rcases hold with hs | ⟨g, hl, hkl⟩
        · exact .inl hs
        · refine .inr ⟨g, ?_⟩
          by_cases hkd : kindOf o = .l
          · have : ob = none := hkl hkd
            subst this
            exact hl
          · rw [hpOf, if_neg hkd] at hl ⊢
            exact hl
    · have hjt : j ∉ i :: r := by simp [hji, hjr]
      refine (h.pend j oj hj hjt hSj).keep (todo := i :: r) hj hn hjt (h.downD j (oper_lt hj) hjt) T hF (fun Fi v' ob' hl => ?_) ?_
      · refine hl.mono fun b x hb => ?_
        unfold hpOf at hb ⊢
        split at hb
        · rename_i hkd
          rw [if_pos hkd]
          show hget (layA M (D.q + i) ob).hp b = some x
          rw [hhp, if_neg]
          · exact hb
          · intro e; rw [e, hiL] at hb; cases hb
        · simp [hget] at hb
      · show hget (layA M (D.q + i) ob).hp _ = _
        rw [hhp, if_neg (by omega)]
  · rw [ht, if_neg]
    · exact h.unk j (List.mem_cons_of_mem _ hj) oj d hoj hd
    · intro e
      exact hne j hj (T.uniq j i oj o d hoj hi hd e)
  · show hget (layA M (D.q + i) ob).hp (D.q + j) = none
    rw [hhp, if_neg (by have := hne j hj; omega)]
    exact h.lay j (List.mem_cons_of_mem _ hj)
  · have hni : o.dst ≠ some t := fun e => by
      rcases hc i o hi e with h' | h'
      · rw [hSi] at h'; cases h'
      · exact hir h'
    rw [ht, if_neg hni]
    exact h.slot t fun k ok hk' hd => (hc k ok hk' hd).imp id (List.mem_cons_of_mem _)
  · have := h.mem.hpc (hp := live D S (layA M (D.q + i) ob).hp) hlive hp
    rw [show ({ layA M (D.q + i) ob with pc := p, hp := live D S (layA M (D.q + i) ob).hp } : Me) = { M with hp := live D S (layA M (D.q + i) ob).hp, pc := p } by cases ob <;> rfl]
    exact this
  · have := h.base.hpc (hp := live D S (layA M (D.q + i) ob).hp) (p := p) hlive
    rw [show ({ layA M (D.q + i) ob with pc := p, hp := live D S (layA M (D.q + i) ob).hp } : Me) = { M with hp := live D S (layA M (D.q + i) ob).hp, pc := p } by cases ob <;> rfl]
    exact this
end
end Go.Proofs.Ytbnbljeegghgiaa
