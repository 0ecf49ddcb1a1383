/- Regions that draw their own order: each step. No program in sight. -/
import Derived.Test.YtbnbljeegghgiaaSndr
namespace Go.Proofs.Ytbnbljeegghgiaa
open Go.RowKit
set_option linter.unusedVariables false
set_option linter.unusedSimpArgs false

section
variable {P : Program} {X : Cx} {ρ : Env} {Q : Lf → Prop} {G G' G0 : Gh} {M M0 : Me} {w w0 : World} {D : Dr} {todo : List Nat} {F : Fr} {S : Nat → Bool} {a : Act}

def Rest (D : Dr) (todo : List Nat) : Prop := todo = [] ∨ ∃ h r, todo = h :: r ∧ isH D.ops h = true
theorem pass_all (Td : Tidy D.ops D.b) {k : Lf → T} : ∀ (todo : List Nat) (m : Nat) (F : Fr) (M : Me), (run m X (.draw D todo) F M k).sat Q ρ → DI X.P ρ D todo F M S G a w G0 M0 w0 →
    ∃ m' todo' F' M', m' ≤ m ∧ (run m' X (.draw D todo') F' M' k).sat Q ρ ∧ DI X.P ρ D todo' F' M' S G a w G0 M0 w0 ∧ Rest D todo'
  | [], m, F, M, h, d => ⟨m, [], F, M, Nat.le_refl _, h, d, .inl rfl⟩
  | i :: r, 0, F, M, h, d => by unfold run at h; exact h.elim
  | i :: r, m + 1, F, M, h, d => by
    cases hh : isH D.ops i with
    | true => exact ⟨m + 1, i :: r, F, M, Nat.le_refl _, h, d, .inr ⟨i, r, rfl, hh⟩⟩
    | false =>
      have hlt := d.lt i (List.mem_cons_self ..)
      obtain ⟨o, ho⟩ : ∃ o, D.ops[i]? = some o := ⟨_, Array.getElem?_eq_getElem hlt⟩
      have hk : kindOf o ≠ .h := fun e => by
        unfold isH at hh
        rw [ho] at hh
        simp [e] at hh
      unfold run at h
      simp only at h
      rw [ho] at h
      simp only at h
      have key : (guardA D.ops F o M
            (fun M => lightA X.P F o (D.q + i) M fun v ob M => F.put o.dst v fun F => run m X (.draw D r) F (layA M (D.q + i) ob) k)
            (fun M => F.put o.dst undefA fun F => run m X (.draw D r) F M k)).sat Q ρ → ∃ m' todo' F' M', m' ≤ m + 1 ∧ (run m' X (.draw D todo') F' M' k).sat Q ρ ∧ DI X.P ρ D todo' F' M' S G a w G0 M0 w0 ∧ Rest D todo' := by
        intro h
        obtain ⟨p, hp, hg⟩ := guard_sat h d.mem.pc
        have fin : ∀ (v : AV) (ob : Option Ob) (p : PC), holdsAll ρ p → (F.put o.dst v fun F => run m X (.draw D r) F { layA M (D.q + i) ob with pc := p } k).sat Q ρ → ((Guards ρ D.ops F o false ∧ v = undefA ∧ ob = none) ∨ (Guards ρ D.ops F o true ∧ Lit X.P ρ F (hpOf o M.hp) o (D.q + i) v ob ∧ (kindOf o = .l → ob = none))) →
            ∃ m' todo' F' M', m' ≤ m + 1 ∧ (run m' X (.draw D todo') F' M' k).sat Q ρ ∧ DI X.P ρ D todo' F' M' S G a w G0 M0 w0 ∧ Rest D todo' := by
          intro v ob p hp h hold
          obtain ⟨F2, g1, g2, g3, g4, g5⟩ := put_get h
          obtain ⟨m', todo', F', M', hm, hs, hd, hr⟩ := pass_all Td r m F2 _ g1 (d.pass Td ho hk g2 g3 g4 g5 hp hold)
          exact ⟨m', todo', F', M', by omega, hs, hd, hr⟩
        rcases hg with ⟨h, hg⟩ | ⟨h, hg⟩
        · obtain ⟨v, ob, p', h1, hp', hlit, hl⟩ := light_sat (P := X.P) h hp
          have e : layA { { M with pc := p } with pc := p' } (D.q + i) ob = { layA M (D.q + i) ob with pc := p' } := by cases ob <;> rfl
          rw [e] at h1
          exact fin v ob p' hp' h1 (.inr ⟨hg, hlit, hl⟩)
        · exact fin undefA none p hp h (.inl ⟨hg, rfl, rfl⟩)
      exact key h

def Sadd (S : Nat → Bool) (i : Nat) (j : Nat) : Bool := if j = i then true else S j
theorem Sadd_self (S : Nat → Bool) (i : Nat) : Sadd S i i = true := by simp [Sadd]
theorem Sadd_of {S : Nat → Bool} {i j : Nat} (h : S j = true) : Sadd S i j = true := by unfold Sadd; split <;> simp [h]
theorem Sadd_ne {S : Nat → Bool} {i j : Nat} (h : j ≠ i) : Sadd S i j = S j := if_neg h
theorem Sadd_false {S : Nat → Bool} {i j : Nat} (h : Sadd S i j = false) : j ≠ i ∧ S j = false := by
  unfold Sadd at h
  split at h
  · cases h
  · rename_i e; exact ⟨e, h⟩

/-- The parts of the invariant that a step of the drawn order touches. -/
theorem DI.step {i : Nat} {o : Oper} {G' : Gh} {a' : Act} {w' : World} (d : DI P ρ D todo F M S G a w G0 M0 w0) (hi : D.ops[i]? = some o) (hit : i ∉ todo) (hb : ∀ k, (D.b.getD i 0).testBit k = true → S k = true)
    (hsz : a'.tmps.size = a.tmps.size) (hdf : DfR ρ G' F.df a'.defers) (hslot : ∀ t, o.dst ≠ some t → a'.tmps.getD t undef = a.tmps.getD t undef) (hdst : ∀ t, o.dst = some t → VR ρ G' ((F.tm.get t).getD .any) (a'.tmps.getD t undef)) (hG : G.le G')
    (hno : ∀ j, j < D.ops.size → j ≠ i → S j = false → G' (D.q + j) = none) (hmem : MR ρ G' { M with hp := live D (Sadd S i) M.hp } w') (hbase : Stp ρ G0 M0 w0 G' { M with hp := live D (Sadd S i) M.hp } w') : DI P ρ D todo F M (Sadd S i) G' a' w' G0 M0 w0 := by
  refine ⟨d.valid, d.lt, fun j hj => ?_, fun j hj k hk => ?_, d.downD, fun j hj => by rw [Sadd_ne (S := S) (fun e : j = i => hit (e ▸ hj))]; exact d.SD j hj, fun j h1 h2 h3 => Sadd_of (d.heavyS j h1 h2 h3), fun j oj h1 h2 h3 => d.pend j oj h1 h2 (Sadd_false h3).2, d.unk, d.lay, by rw [hsz]; exact d.size, hdf, fun t hc => ?_, hmem, fun j h1 h2 => hno j h1 (Sadd_false h2).1 (Sadd_false h2).2, d.nbq, d.q0, hbase⟩
  · by_cases e : j = i
    · rw [e]; exact oper_lt hi
    · rw [Sadd_ne e] at hj; exact d.SN j hj
  · by_cases e : j = i
    · subst e; exact Sadd_of (hb k hk)
    · rw [Sadd_ne e] at hj; exact Sadd_of (d.downS j hj k hk)
  · by_cases e : o.dst = some t
    · exact hdst t e
    · rw [hslot t e]
      refine (d.slot t fun j oj hj hd => ?_).mono hG
      rcases hc j oj hj hd with h | h
      · refine .inl ?_
        rw [← Sadd_ne (S := S) (i := i) (j := j) (fun e' => e (by subst e'; rw [hi] at hj; cases hj; exact hd))]
        exact h
      · exact .inr h

/-- The drawn order does a light operation. -/
theorem DI.light {i : Nat} {o : Oper} {K : Act → World → Prop} {R : Exit → Act → World → Prop} (d : DI P ρ D todo F M S G a w G0 M0 w0) (hi : D.ops[i]? = some o) (hit : i ∉ todo) (hS : S i = false) (hb : ∀ k, (D.b.getD i 0).testBit k = true → S k = true)
    (hK : ∀ G' a' w', DI P ρ D todo F M (Sadd S i) G' a' w' G0 M0 w0 → K a' w') : wpOp P D.ops R i K a w := by
  obtain ⟨Fi, v, ob, h1, h2, hv, hob, _⟩ := d.pend i o hi hit hS
  have hiN := oper_lt hi
  have hkn : Knows ρ G Fi a D.ops o := fun t ht => by
    rcases h1 t ht with h | ⟨h, hw⟩
    · rw [h]; exact .any _
    · rw [h]; exact d.slot t fun j oj hj hd => .inl (hb j (hw j oj hj hd))
  have hlive : ∀ b, b ≠ D.q + i → hget (live D (Sadd S i) M.hp) b = hget (live D S M.hp) b := fun b hne => by
    rw [hget_live, hget_live]
    have : inS D (Sadd S i) b = inS D S b := by
      unfold inS
      cases hx : (Nat.blt b D.q || Nat.ble (D.q + D.ops.size) b) with
      | true => rfl
      | false =>
        rw [Bool.false_or, Bool.false_or]
        refine Sadd_ne fun e => hne ?_
        simp only [Bool.or_eq_false_iff] at hx
        have : ¬ b < D.q := fun hh => by
          have : Nat.blt b D.q = true := Nat.ble_eq_true_of_le hh
          rw [this] at hx; exact absurd hx.1 (by simp)
        omega
    rw [this]
  have hli : hget (live D S M.hp) (D.q + i) = none := by rw [hget_live, inS_at hiN, hS]; rfl
  have hli' : hget (live D (Sadd S i) M.hp) (D.q + i) = hget M.hp (D.q + i) := by rw [hget_live, inS_at hiN, Sadd_self]; rfl
  have hmemS : ob = none → ∀ b, hget (live D (Sadd S i) M.hp) b = hget (live D S M.hp) b := fun hn b => by
    by_cases e : b = D.q + i
    · rw [e, hli, hli', hob, hn]
    · exact hlive b e
  unfold wpOp
  rw [hi]
  simp only
  have sz := d.size
  have hdst : ∀ (G' : Gh) (z : Value), VR ρ G' v z → ∀ t, o.dst = some t → VR ρ G' ((F.tm.get t).getD .any) ((a.put o.dst z).tmps.getD t undef) := fun G' z hz t ht => by
    rw [(hv t ht).1, ht, put_self (by rw [sz]; exact (hv t ht).2)]
    exact hz
  -- a step that leaves the memory as it is
  have same : ∀ (z : Value), ob = none → VR ρ G v z → K (a.put o.dst z) w := fun z hn hz =>
    hK G _ w (d.step hi hit hb (put_size ..) (by rw [put_defers]; exact d.df) (fun t ht => put_getD ht) (hdst G z hz) G.le_refl (fun j hj _ hs => d.noG j hj hs) (d.mem.hpc (hmemS hn) d.mem.pc) (d.base.hpc (hmemS hn)))
  rcases h2 with ⟨g, hvu, hn⟩ | ⟨g, hlit⟩
  · rw [if_neg (by rw [g G a hkn]; simp)]
    exact same undef hn (by rw [hvu]; exact undef_ok)
  · rw [if_pos (g G a hkn)]
    refine .inl ?_
    have hl := hlit G a w hkn.ops fun b x gi hbx hg => by
      have hbx := hpOf_sub o _ b x hbx
      have hin : inS D S b = true := by
        cases hx : inS D S b with
        | true => rfl
        | false =>
          obtain ⟨j, hj, e, hs⟩ := inS_out hx
          rw [e, d.noG j hj hs] at hg
          cases hg
      obtain ⟨g', hg', hor⟩ := d.mem.ob b x (by show hget (live D S M.hp) b = _; rw [hget_live, if_pos hin]; exact hbx)
      rw [hg] at hg'; cases hg'; exact hor
    unfold Oper.wp
    cases ob with
    | none =>
      obtain ⟨z, hz, hvz⟩ := hl
      rw [hz]
      exact same z rfl hvz
    | some x =>
      obtain ⟨f, hfv, z, obj, sz', hz, hown, hlay⟩ := hl
      rw [hz]
      have hno := d.noG i hiN hS
      obtain ⟨l1, l2⟩ := hlay (G.add (D.q + i) ⟨w.heap.size, 0, sz'⟩) (D.q + i) (Gh.le_add hno) (by simp [Gh.add])
      obtain ⟨m1, m2⟩ := d.mem.newAt (w' := w.alloc obj) x ⟨w.heap.size, 0, sz'⟩ (D.q + i) M.nb hno (by have := d.nbq; omega) (Nat.le_refl _) (Nat.le_refl _) l1 rfl rfl rfl (by show w.heap.size ≤ (w.heap.push obj).size; simp) (alloc_more w obj)
      have hh : ∀ b, hget (live D (Sadd S i) M.hp) b = hget (hset (live D S M.hp) (D.q + i) x) b := fun b => by
        rw [hget_hset]
        by_cases e : b = D.q + i
        · rw [if_pos e, e, hli', hob]
        · rw [if_neg e]; exact hlive b e
      rw [← hfv] at l2
      refine hK _ _ _ (d.step hi hit hb (put_size ..) ?_ (fun t ht => put_getD ht) (hdst _ z l2) (Gh.le_add hno) (fun j hj hne hs => ?_) ((m1.hpc hh m1.pc)) ((m2 G0 M0 w0 hown (by have := d.q0; omega) d.base).hpc hh))
      · rw [put_defers]; exact d.df.mono (Gh.le_add hno)
      · unfold Gh.add
        rw [if_neg (by omega)]
        exact d.noG j hj hs
end
end Go.Proofs.Ytbnbljeegghgiaa
