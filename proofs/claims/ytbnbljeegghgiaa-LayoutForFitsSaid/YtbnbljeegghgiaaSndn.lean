/- Operations that neither write nor call, under their guards, in any frame that knows their operands. No program in sight. -/
import Derived.Test.YtbnbljeegghgiaaSndm
import Derived.Orders
namespace Go.Proofs.Ytbnbljeegghgiaa
open Go.RowKit
set_option linter.unusedVariables false
set_option linter.unusedSimpArgs false

theorem same_list {f : Nat} (ih : ∀ x y, AV.same f x y = true → x = y) : ∀ (a b : List AV), (Nat.beq a.length b.length && (a.zip b).all fun p => AV.same f p.1 p.2) = true → a = b
  | [], [], _ => rfl
  | [], y :: b, h => by simp at h
  | x :: a, [], h => by simp at h
  | x :: a, y :: b, h => by
    simp only [List.zip_cons_cons, List.all_cons, Bool.and_eq_true, beq_iff, List.length_cons] at h
    rw [ih x y h.2.1, same_list ih a b (by simp only [Bool.and_eq_true, beq_iff]; exact ⟨by omega, h.2.2⟩)]
theorem same_eq : ∀ (f : Nat) (x y : AV), AV.same f x y = true → x = y
  | 0, x, y, h => by cases h
  | f + 1, x, y, h => by
    have ih := same_eq f
    have hl := same_list ih
    unfold AV.same at h
    simp only at h
    split at h <;> simp only [Bool.and_eq_true, decide_eq_true_eq, beq_iff] at h hl
    all_goals first
      | cases h; done
      | rfl
      | (obtain ⟨h1, h2⟩ := h; subst h1; subst h2; rfl)
      | (subst h; rfl)
      | (obtain ⟨⟨⟨h1, h2⟩, h3⟩, h4⟩ := h; subst h1; subst h2; subst h3; subst h4; rfl)
      | (obtain ⟨⟨⟨⟨h1, h2⟩, h3⟩, h4⟩, h5⟩ := h; subst h1; subst h2; subst h3; subst h4; subst h5; rfl)
      | (obtain ⟨⟨h1, h2⟩, h3⟩ := h; rw [h1, hl _ _ h2, hl _ _ h3])
      | (obtain ⟨h1, h2⟩ := h; rw [h1, ih _ _ h2])
      | (rw [hl _ _ h])

section
variable {P : Program} {ρ : Env} {G G' : Gh} {Q : Lf → Prop}

theorem opV_congr {o : Oper} {f g : Operand → AV} (h : ∀ x ∈ o.op.operands, f x = g x) : opV P o f = opV P o g := by
  obtain ⟨dst, op, type, pos, after, guard⟩ := o
  have pairs : ∀ ps : Array (Nat × Operand), (∀ x ∈ ps.map (·.2), f x = g x) → (ps.toList.map fun p => (p.1, f p.2)) = (ps.toList.map fun p => (p.1, g p.2)) := fun ps hp =>
    List.map_congr_left fun p hm => by rw [hp p.2 (Array.mem_map.2 ⟨p, Array.mem_toList_iff.1 hm, rfl⟩)]
  have lst : ∀ ps : Array Operand, (∀ x ∈ ps, f x = g x) → ps.toList.map f = ps.toList.map g := fun ps hp => List.map_congr_left fun x hx => hp x (Array.mem_toList_iff.1 hx)
  cases op <;> simp only [Op.operands] at h <;> simp only [opV]
  case build t ps => rw [pairs ps fun x hx => h x (by simpa using hx)]
  case makeFunc fn first captured => rw [lst first fun x hx => h x (by simp [hx]), lst captured fun x hx => h x (by simp [hx])]
  case slice t x lo hi mx => cases lo <;> cases hi <;> cases mx <;> simp_all
  case call c =>
    obtain ⟨callee, args, at'⟩ := c
    cases callee with
    | builtin b => simp only; rw [lst args fun x hx => h x (by simp [Call.operands, hx])]
    | _ => rfl
  all_goals (first | rfl | (simp_all; done))
theorem opA_congr {o : Oper} {f g : Operand → AV} (h : ∀ x ∈ o.op.operands, f x = g x) : opA P o f = opA P o g := by
  obtain ⟨dst, op, type, pos, after, guard⟩ := o
  have pairs : ∀ ps : Array (Nat × Operand), (∀ x ∈ ps.map (·.2), f x = g x) → (ps.toList.map fun p => (p.1, f p.2)) = (ps.toList.map fun p => (p.1, g p.2)) := fun ps hp =>
    List.map_congr_left fun p hm => by rw [hp p.2 (Array.mem_map.2 ⟨p, Array.mem_toList_iff.1 hm, rfl⟩)]
  cases op <;> simp only [Op.operands] at h <;> simp only [opA]
  case buildSlice t n ps => rw [pairs ps fun x hx => h x (by simpa using hx)]
  case makeMap t r => cases r <;> rfl
  all_goals (first | rfl | (simp_all; done))

/-! Conditions, with no memory in sight. -/
theorem test_pc {M : Me} {c : SE} {k : Bool → Me → T} (h : (test M c k).sat Q ρ) (hpc : holdsAll ρ M.pc) : ∃ p, (k (c.den ρ).b { M with pc := p }).sat Q ρ ∧ holdsAll ρ p := by
  unfold test at h
  split at h
  · rename_i b hb
    rw [known_den hpc hb]
    exact ⟨M.pc, h, hpc⟩
  · cases hc : (c.den ρ).b with
    | true => exact ⟨_, h.1 hc, lay_holds hpc hc⟩
    | false => exact ⟨_, h.2 hc, lay_holds hpc hc⟩
theorem needs_pc : ∀ (cs : List SE) {M : Me} {k : Me → T}, (needs M cs k).sat Q ρ → holdsAll ρ M.pc → (∀ c ∈ cs, (c.den ρ).b = true) ∧ ∃ p, (k { M with pc := p }).sat Q ρ ∧ holdsAll ρ p
  | [], M, k, h, hM => ⟨fun c hc => by simp at hc, M.pc, h, hM⟩
  | c :: r, M, k, h, hM => by
    have h1 : (c.den ρ).b = true ∧ ∃ p, (needs { M with pc := p } r k).sat Q ρ ∧ holdsAll ρ p := by
      unfold needs need at h
      split at h
      · rename_i hb; exact ⟨known_den hM hb, M.pc, h, hM⟩
      · exact h.elim
      · exact ⟨h.1, _, h.2, lay_holds hM h.1⟩
    obtain ⟨h1, p, h2, h3⟩ := h1
    obtain ⟨h4, p', h5, h6⟩ := needs_pc r h2 h3
    exact ⟨fun d hd => by rcases List.mem_cons.1 hd with rfl | hd; exact h1; exact h4 d hd, p', h5, h6⟩
theorem MR.pcs {M : Me} {w : World} (h : MR ρ G M w) {p : PC} (hp : holdsAll ρ p) : MR ρ G { M with pc := p } w := ⟨hp, h.fresh, h.ob, h.apart⟩

/-- The frame knows what the operation looks at. -/
def Knows (ρ : Env) (G : Gh) (F : Fr) (a : Act) (ops : Array Oper) (o : Oper) : Prop := ∀ t ∈ tmpsOf ops o, VR ρ G ((F.tm.get t).getD .any) (a.tmps.getD t undef)
theorem FR.knows {F : Fr} {a : Act} (h : FR ρ G F a) (ops : Array Oper) (o : Oper) : Knows ρ G F a ops o := fun t _ => h.slot t
theorem ev_ok {F : Fr} {a : Act} (x : Operand) (h : ∀ t, x = .tmp t → VR ρ G ((F.tm.get t).getD .any) (a.tmps.getD t undef)) : VR ρ G (ev F x) (a.eval x) := by
  cases x with
  | tmp t => exact h t rfl
  | const v => exact litV_ok v
  | global g => exact .any _
  | func f => exact .func _ _ _ _ _ rfl rfl (fun i a v h => by simp at h) (fun i a v h => by simp at h)
theorem Knows.ops {F : Fr} {a : Act} {ops : Array Oper} {o : Oper} (h : Knows ρ G F a ops o) : ∀ x ∈ o.op.operands, VR ρ G (ev F x) (a.eval x) := fun x hx => ev_ok x fun t ht => h t (by
  subst ht
  exact List.mem_append_right _ (List.mem_filterMap.2 ⟨.tmp t, Array.mem_toList_iff.2 hx, rfl⟩))
/-- Whether the operation is done. -/
def Guards (ρ : Env) (ops : Array Oper) (F : Fr) (o : Oper) (b : Bool) : Prop := ∀ G a, Knows ρ G F a ops o → Region.wanted o (yielded ops a.tmps) = b
theorem guard_sat {ops : Array Oper} {F : Fr} {o : Oper} {M : Me} {yes no : Me → T} (h : (guardA ops F o M yes no).sat Q ρ) (hpc : holdsAll ρ M.pc) :
    ∃ p, holdsAll ρ p ∧ (((yes { M with pc := p }).sat Q ρ ∧ Guards ρ ops F o true) ∨ ((no { M with pc := p }).sat Q ρ ∧ Guards ρ ops F o false)) := by
  unfold guardA at h
  split at h
  · rename_i hg
    exact ⟨M.pc, hpc, .inl ⟨h, fun G a _ => by simp [Region.wanted, hg]⟩⟩
  · rename_i j want hg
    split at h
    · rename_i d hd
      have hmem : d ∈ tmpsOf ops o := List.mem_append_left _ (by rw [hg]; simp only [hd, Option.toList_some, List.mem_singleton])
      have hy : ∀ (a : Act) (v : Value), a.tmps.getD d undef = v → yielded ops a.tmps j = (match v with | .bool b => if d < a.tmps.size then some b else none | _ => none) := by
        intro a v hv
        unfold yielded
        rw [hd]
        simp only [Option.bind_some]
        rw [← hv, Array.getD_eq_getD_getElem?]
        by_cases hlt : d < a.tmps.size
        · rw [Array.getElem?_eq_getElem hlt]
          simp only [Option.getD_some, if_pos hlt]
          generalize a.tmps[d] = x
          cases x <;> rfl
        · rw [Array.getElem?_eq_none (Nat.le_of_not_lt hlt)]
          rfl
      split at h
      · rename_i e he
        obtain ⟨p, h1, h2⟩ := test_pc h hpc
        have key : ∀ G a, Knows ρ G F a ops o → Region.wanted o (yielded ops a.tmps) = decide ((e.den ρ).b = want) := by
          intro G a hk
          have := hk d hmem
          rw [he] at this
          have hv := this.bool_inv
          have hlt : d < a.tmps.size := by
            rcases Nat.lt_or_ge d a.tmps.size with h | h
            · exact h
            · rw [Array.getD_eq_getD_getElem?, Array.getElem?_eq_none h] at hv; cases hv
          unfold Region.wanted
          rw [hg]
          simp only
          rw [hy a _ hv]
          simp only [if_pos hlt]
          cases (e.den ρ).b <;> cases want <;> rfl
        refine ⟨p, h2, ?_⟩
        by_cases hw : (e.den ρ).b = want
        · rw [if_pos hw] at h1; exact .inl ⟨h1, fun G a hk => by rw [key G a hk]; simp [hw]⟩
        · rw [if_neg hw] at h1; exact .inr ⟨h1, fun G a hk => by rw [key G a hk]; simp [hw]⟩
      · rename_i he
        refine ⟨M.pc, hpc, .inr ⟨h, fun G a hk => ?_⟩⟩
        have := hk d hmem
        rw [he] at this
        obtain ⟨vs, hv, hs⟩ := this.tup_inv
        unfold Region.wanted
        rw [hg]
        simp only
        rw [hy a _ hv]
        rfl
      · exact h.elim
    · exact h.elim

/-- What a light operation does, wherever its operands are known and its memory stands. -/
def Lit (P : Program) (ρ : Env) (F : Fr) (hp : List (Nat × Ob)) (o : Oper) (q : Nat) (v : AV) (ob : Option Ob) : Prop :=
  ∀ (G : Gh) (a : Act) (w : World), (∀ x ∈ o.op.operands, VR ρ G (ev F x) (a.eval x)) → (∀ b o g, hget hp b = some o → G b = some g → OR ρ G w g o) →
    match ob with
    | none => ∃ z, (execOp a.eval o).run P w = .ok (.value z) w ∧ VR ρ G v z
    | some ob => ∃ f, v = f q ∧ Lays P ρ G (execOp a.eval o) w ob f

theorem Lit.mono {F : Fr} {hp hp' : List (Nat × Ob)} {o : Oper} {q : Nat} {v : AV} {ob : Option Ob} (h : Lit P ρ F hp o q v ob) (hs : ∀ b x, hget hp b = some x → hget hp' b = some x) : Lit P ρ F hp' o q v ob := fun G a w hx hm => h G a w hx fun b x g hb hg => hm b x g (hs b x hb) hg
/-- The blocks that matter to a light operation: a read's alone. -/
def hpOf (o : Oper) (hp : List (Nat × Ob)) : List (Nat × Ob) := if kindOf o = .l then hp else []
theorem hpOf_sub (o : Oper) (hp : List (Nat × Ob)) : ∀ b x, hget (hpOf o hp) b = some x → hget hp b = some x := fun b x h => by
  unfold hpOf at h
  split at h
  · exact h
  · simp [hget] at h
/-- A heap in which only the blocks that have a place are left. -/
theorem only_hp (G : Gh) (hp : List (Nat × Ob)) : ∃ hp', ∀ b, hget hp' b = if (G b).isSome then hget hp b else none := by
  refine ⟨hp.filter fun p => (G p.1).isSome, fun b => ?_⟩
  induction hp with
  | nil => simp [hget]
  | cons p r ih =>
    obtain ⟨c, o⟩ := p
    simp only [List.filter_cons]
    by_cases hc : (G c).isSome = true
    · rw [if_pos hc]
      simp only [hget, beq_iff]
      by_cases hcb : c = b
      · subst hcb; rw [if_pos rfl, if_pos hc, if_pos rfl]
      · rw [if_neg hcb, if_neg hcb, ih]
    · rw [if_neg hc]
      simp only [hget, beq_iff]
      by_cases hcb : c = b
      · subst hcb; rw [ih, if_neg hc, if_neg hc]
      · rw [if_neg hcb, ih]
theorem readA_hp {hp hp' : List (Nat × Ob)} {t : TypeId} {a : AV} {u : Value} (hb : ∀ b g, G b = some g → hget hp' b = hget hp b) (ha : VR ρ G a u) : readA P hp' t a = readA P hp t a := by
  unfold readA
  cases ha with
  | ptr b o g u hg => simp only [hb b g hg]
  | elt b s i j g u h1 h2 => simp only [hb b g h1]
  | _ => rfl
theorem lit_ops {F : Fr} {a : Act} {o : Oper} (h : ∀ x ∈ o.op.operands, VR ρ G (ev F x) (a.eval x)) : ∃ f : Operand → AV, (∀ x ∈ o.op.operands, ev F x = f x) ∧ ∀ x, VR ρ G (f x) (a.eval x) := by
  classical
  refine ⟨fun x => if x ∈ o.op.operands then ev F x else .any, fun x hx => by simp [hx], fun x => ?_⟩
  by_cases hx : x ∈ o.op.operands
  · simp only [hx, if_true]; exact h x hx
  · simp only [hx, if_false]; exact .any _
theorem light_sat {F : Fr} {o : Oper} {q : Nat} {M : Me} {k : AV → Option Ob → Me → T} (h : (lightA P F o q M k).sat Q ρ) (hpc : holdsAll ρ M.pc) :
    ∃ v ob p, (k v ob { M with pc := p }).sat Q ρ ∧ holdsAll ρ p ∧ Lit P ρ F (hpOf o M.hp) o q v ob ∧ (kindOf o = .l → ob = none) := by
  unfold lightA at h
  split at h
  · rename_i hkd
    rw [hpOf, if_neg (by rw [hkd]; simp)]
    split at h
    · rename_i c a b hop
      split at h
      · rename_i e he
        obtain ⟨p, h1, h2⟩ := test_pc h hpc
        refine ⟨_, _, p, h1, h2, fun G act w hx hm => ?_, fun _ => rfl⟩
        have hc := hx c (by rw [hop]; simp [Op.operands])
        rw [he] at hc
        have hca := hx a (by rw [hop]; simp [Op.operands])
        have hcb := hx b (by rw [hop]; simp [Op.operands])
        unfold execOp
        rw [hop]
        simp only [hc.bool_inv]
        cases (e.den ρ).b
        · exact ⟨_, rfl, hcb⟩
        · exact ⟨_, rfl, hca⟩
      · exact h.elim
    · split at h
      · rename_i v cs hv
        obtain ⟨hcs, p, h1, h2⟩ := needs_pc cs h hpc
        refine ⟨_, _, p, h1, h2, fun G act w hx hm => ?_, fun _ => rfl⟩
        obtain ⟨f, hf, hfx⟩ := lit_ops hx
        rw [opV_congr hf] at hv
        exact opV_ok w hfx hv hcs
      · exact h.elim
  · rename_i hkd
    rw [hpOf, if_pos hkd]
    split at h
    · rename_i v cs hv
      obtain ⟨hcs, p, h1, h2⟩ := needs_pc cs h hpc
      refine ⟨_, _, p, h1, h2, fun G act w hx hm => ?_, fun _ => rfl⟩
      unfold opL at hv
      split at hv
      · rename_i t x hop
        have hxx := hx x (by rw [hop]; simp [Op.operands])
        obtain ⟨hp', hhp⟩ := only_hp G M.hp
        rw [← readA_hp (hp' := hp') (fun b g hg => by rw [hhp, hg]; rfl) hxx] at hv
        obtain ⟨z, hz, hr⟩ := read_ok (M := { M with hp := hp' }) (w := w) (fun b o hb => by
          simp only at hb
          rw [hhp] at hb
          cases hg : G b with
          | none => rw [hg] at hb; simp at hb
          | some g => rw [hg] at hb; exact ⟨g, rfl, hm b o g hb hg⟩) hv hcs hxx
        refine ⟨z, ?_, hr⟩
        unfold execOp
        rw [hop]
        simp only
        exact lift_ok hz
      · cases hv
    · exact h.elim
  · rename_i hkd
    rw [hpOf, if_neg (by rw [hkd]; simp)]
    split at h
    · rename_i ob f cs hv
      obtain ⟨hcs, p, h1, h2⟩ := needs_pc cs h hpc
      refine ⟨_, _, p, h1, h2, fun G act w hx hm => ?_, fun hk => by rw [hkd] at hk; cases hk⟩
      obtain ⟨f', hf, hfx⟩ := lit_ops hx
      rw [opA_congr hf] at hv
      exact ⟨f, rfl, opA_ok w hfx hv hcs⟩
    · exact h.elim
  · exact h.elim
end
end Go.Proofs.Ytbnbljeegghgiaa
