/- Regions that draw their own order: a heavy operation. No program in sight. -/
import Derived.Test.YtbnbljeegghgiaaSndt
namespace Go.Proofs.Ytbnbljeegghgiaa
open Go.RowKit
set_option linter.unusedVariables false
set_option linter.unusedSimpArgs false

section
variable {P : Program} {X : Cx} {ρ : Env} {Q : Lf → Prop} {G G' G0 : Gh} {M M0 : Me} {w w' w0 : World} {D : Dr} {todo : List Nat} {F : Fr} {S : Nat → Bool} {a : Act}

theorem own_ro {o : Ob} (h : o.own = false) : ∃ ks e, o = .ro ks e := by
  cases o with
  | ro ks e => exact ⟨ks, e, rfl⟩
  | _ => cases h
/-- A step from a part of the memory, and the rest put back. -/
theorem merge {Ml M1 M' M2 : Me} (hl : MR ρ G Ml w) (s : Stp ρ G M1 w G' M' w') (m : MR ρ G' M' w') (hp : holdsAll ρ M2.pc) (nb : M2.nb = M'.nb) (nb1 : M1.nb = Ml.nb) (sub1 : ∀ b x, hget M1.hp b = some x → hget Ml.hp b = some x)
    (c2 : ∀ b x, hget M2.hp b = some x → hget M'.hp b = some x ∨ (hget Ml.hp b = some x ∧ hget M1.hp b = none)) : MR ρ G' M2 w' ∧ Stp ρ G Ml w G' M2 w' := by
  have mineM : ∀ k, Mine ρ G M1 k → Mine ρ G Ml k := fun k ⟨b, o, g, h1, h2⟩ => ⟨b, o, g, sub1 b o h1, h2⟩
  have at' : ∀ b x g, hget Ml.hp b = some x → G' b = some g → G b = some g ∧ OR ρ G w g x := fun b x g hb hg => by
    obtain ⟨g0, hg0, hor⟩ := hl.ob b x hb
    rw [s.gh b g0 hg0] at hg; cases hg
    exact ⟨hg0, hor⟩
  have noMine : ∀ b x g, hget Ml.hp b = some x → hget M1.hp b = none → G b = some g → Solid ρ g x → ¬ Mine ρ G M1 g.blk := fun b x g hb hn hg hs ⟨c, p, gc, h1, h2, h3, h4, h5⟩ =>
    hl.apart c p b x gc g (sub1 c p h1) hb h2 (fun e => by rw [e, hn] at h1; cases h1) h3 hg h4 hs h5
  have keepB : ∀ b x g, hget Ml.hp b = some x → hget M1.hp b = none → G b = some g → OR ρ G w g x → Solid ρ g x → w'.heap[g.blk]? = w.heap[g.blk]? := fun b x g hb hn hg hor hs => s.keep g.blk (hor.blk_lt hs) (noMine b x g hb hn hg hs)
  refine ⟨⟨hp, fun b g hb => by rw [nb]; exact m.fresh b g hb, fun b o hb => ?_, fun b o c p g y hb hc ho hne hg hy s1 s2 => ?_⟩, ⟨s.gh, s.os, s.tape, s.output, s.size, fun k hk hm => s.keep k hk fun h => hm (mineM k h), fun k ⟨b, o, g, h1, h2, h3, h4, h5⟩ hk => ?_, by rw [nb, ← nb1]; exact s.nb, fun b g hb => by rw [← nb1]; exact s.old b g hb, fun b ks e hb => ?_⟩⟩
  · rcases c2 b o hb with h | ⟨h, hn⟩
    · exact m.ob b o h
    · obtain ⟨g, hg, hor⟩ := hl.ob b o h
      exact ⟨g, s.gh b g hg, hor.same s.gh fun hs => keepB b o g h hn hg hor hs⟩
  · -- apart
    have cross : ∀ (b c : Nat) (o p : Ob) (g y : GI), hget M'.hp b = some o → o.own = true → hget Ml.hp c = some p → hget M1.hp c = none → G' b = some g → G' c = some y → Solid ρ g o → Solid ρ y p → g.blk ≠ y.blk := by
      intro b c o p g y hb ho hc hn hg hy s1 s2
      obtain ⟨hy', hor⟩ := at' c p y hc hy
      by_cases hlt : g.blk < w.heap.size
      · obtain ⟨c1, p1, g1, k1, k2, k3, k4, k5⟩ := s.mine g.blk ⟨b, o, g, hb, ho, hg, s1, rfl⟩ hlt
        rw [← k5]
        exact hl.apart c1 p1 c p g1 y (sub1 c1 p1 k1) hc k2 (fun e => by rw [e, hn] at k1; cases k1) k3 hy' k4 s2
      · have := hor.blk_lt s2
        omega
    rcases c2 b o hb with h1 | ⟨h1, n1⟩
    · rcases c2 c p hc with h2 | ⟨h2, n2⟩
      · exact m.apart b o c p g y h1 h2 ho hne hg hy s1 s2
      · exact cross b c o p g y h1 ho h2 n2 hg hy s1 s2
    · obtain ⟨hg', _⟩ := at' b o g h1 hg
      rcases c2 c p hc with h2 | ⟨h2, n2⟩
      · cases hop : p.own with
        | true => exact Ne.symm (cross c b p o y g h2 hop h1 n1 hy hg s2 s1)
        | false =>
          obtain ⟨ks, e, rfl⟩ := own_ro hop
          have h3 := sub1 c _ (s.ro c ks e h2)
          exact hl.apart b o c _ g y h1 h3 ho hne hg' (at' c _ y h3 hy).1 s1 s2
      · exact hl.apart b o c p g y h1 h2 ho hne hg' (at' c p y h2 hy).1 s1 s2
  · rcases c2 b o h1 with h | ⟨h, hn⟩
    · exact mineM k (s.mine k ⟨b, o, g, h, h2, h3, h4, h5⟩ hk)
    · exact ⟨b, o, g, h, h2, (at' b o g h h3).1, h4, h5⟩
  · rcases c2 b _ hb with h | ⟨h, hn⟩
    · exact sub1 b _ (s.ro b ks e h)
    · exact h

theorem recheck_sat {D : Dr} {F : Fr} : ∀ (l : List Nat) {M : Me} {k : Me → T}, (recheck P D F l M k).sat Q ρ → holdsAll ρ M.pc → ∃ p, (k { M with pc := p }).sat Q ρ ∧ holdsAll ρ p ∧
    ∀ j ∈ l, ∀ o, D.ops[j]? = some o → ∃ v ob, ((Guards ρ D.ops F o false ∧ v = undefA ∧ ob = none) ∨ (Guards ρ D.ops F o true ∧ Lit P ρ F (hpOf o M.hp) o 0 v ob ∧ (kindOf o = .l → ob = none))) ∧ ∀ d, o.dst = some d → (F.tm.get d).getD .any = v
  | [], M, k, h, hp => ⟨M.pc, h, hp, fun j hj => by simp at hj⟩
  | i :: l, M, k, h, hp => by
    unfold recheck at h
    split at h
    · exact h.elim
    · rename_i o ho
      obtain ⟨p, hp1, hg⟩ := guard_sat h hp
      have go : ∀ (p : PC) (v : AV) (ob : Option Ob), holdsAll ρ p → (recheck P D F l { M with pc := p } k).sat Q ρ → ((Guards ρ D.ops F o false ∧ v = undefA ∧ ob = none) ∨ (Guards ρ D.ops F o true ∧ Lit P ρ F (hpOf o M.hp) o 0 v ob ∧ (kindOf o = .l → ob = none))) → (∀ d, o.dst = some d → (F.tm.get d).getD .any = v) →
          ∃ p, (k { M with pc := p }).sat Q ρ ∧ holdsAll ρ p ∧ ∀ j ∈ i :: l, ∀ o, D.ops[j]? = some o → ∃ v ob, ((Guards ρ D.ops F o false ∧ v = undefA ∧ ob = none) ∨ (Guards ρ D.ops F o true ∧ Lit P ρ F (hpOf o M.hp) o 0 v ob ∧ (kindOf o = .l → ob = none))) ∧ ∀ d, o.dst = some d → (F.tm.get d).getD .any = v := by
        intro p v ob hp h h1 h2
        obtain ⟨p', g1, g2, g3⟩ := recheck_sat l h hp
        refine ⟨p', g1, g2, fun j hj o' ho' => ?_⟩
        rcases List.mem_cons.1 hj with e | hj
        · subst e
          rw [ho] at ho'; cases ho'
          exact ⟨v, ob, h1, h2⟩
        · exact g3 j hj o' ho'
      rcases hg with ⟨h, hg⟩ | ⟨h, hg⟩
      · obtain ⟨v, ob, p', h1, hp', hlit, hl⟩ := light_sat (P := P) h hp1
        split at h1
        · rename_i hd
          exact go p' v ob hp' h1 (.inr ⟨hg, hlit, hl⟩) fun d hd' => by rw [hd] at hd'; cases hd'
        · rename_i d hd
          cases hs : AV.same 50 ((F.tm.get d).getD .any) v with
          | false => rw [hs] at h1; exact h1.elim
          | true =>
            rw [hs] at h1
            exact go p' v ob hp' h1 (.inr ⟨hg, hlit, hl⟩) fun d' hd' => by rw [hd] at hd'; cases hd'; exact same_eq _ _ _ hs
      · split at h
        · rename_i hd
          exact go p undefA none hp1 h (.inl ⟨hg, rfl, rfl⟩) fun d hd' => by rw [hd] at hd'; cases hd'
        · rename_i d hd
          cases hs : AV.same 50 ((F.tm.get d).getD .any) undefA with
          | false => rw [hs] at h; exact h.elim
          | true =>
            rw [hs] at h
            exact go p undefA none hp1 h (.inl ⟨hg, rfl, rfl⟩) fun d' hd' => by rw [hd] at hd'; cases hd'; exact same_eq _ _ _ hs

/-- One operation, seen as a list of one. -/
theorem wpList_one {i : Nat} {o : Oper} {K : Act → World → Prop} {R : Exit → Act → World → Prop} (hi : D.ops[i]? = some o) (h : wpList P D.ops (Exit.then K R) [o] a w) : wpOp P D.ops R i K a w := by
  unfold wpOp
  rw [hi]
  unfold wpList at h
  simp only
  split
  · rename_i hw
    rw [if_pos hw] at h
    refine h.imp (fun h => ?_) (fun h => ⟨h.1, let ⟨a, w, h⟩ := h.2; ⟨a, w, h⟩⟩)
    unfold Oper.wp at h ⊢
    generalize (execOp a.eval o).run P w = res at h
    cases res with
    | ok n w' =>
      cases n <;> simp only [Oper.upon] at h ⊢ <;>
        first
          | exact h
          | exact Calls.mono h (fun e w'' he => by cases e <;> first | exact he | (obtain ⟨a, w, h⟩ := he; exact ⟨a, w, h⟩))
          | exact Rows.mono h (fun _ _ he => he)
    | halt x w' => cases x <;> simp only [Oper.upon] at h ⊢ <;> exact h
  · rename_i hw
    rw [if_neg hw] at h
    exact h
end
end Go.Proofs.Ytbnbljeegghgiaa
