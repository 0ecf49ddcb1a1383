/- Regions that draw their own order: a heavy operation, and all orders. No program in sight. -/
import Derived.Test.YtbnbljeegghgiaaSndu
namespace Go.Proofs.Ytbnbljeegghgiaa
open Go.RowKit
set_option linter.unusedVariables false
set_option linter.unusedSimpArgs false

section
variable {X : Cx} {ρ : Env} {Q : Lf → Prop} {G G' G0 : Gh} {M M0 : Me} {w w' w0 : World} {D : Dr} {todo : List Nat} {F : Fr} {S : Nat → Bool} {a : Act}

theorem keep_live (D : Dr) (bits : Nat) (hp : List (Nat × Ob)) : keepHp D.q D.ops.size bits hp = live D bits.testBit hp := rfl
theorem inS_mono {S S' : Nat → Bool} {b : Nat} (h : ∀ j, S j = true → S' j = true) (hb : inS D S b = true) : inS D S' b = true := by
  cases hx : inS D S' b with
  | true => rfl
  | false =>
    obtain ⟨j, hj, e, hs⟩ := inS_out hx
    subst e
    rw [inS_at hj] at hb
    rw [h j hb] at hs; cases hs

set_option maxHeartbeats 1000000 in
theorem DI.heavy {m h : Nat} {r : List Nat} {o : Oper} {k : Lf → T} {K : Act → World → Prop} {R : Exit → Act → World → Prop} (d : DI X.P ρ D (h :: r) F M S G a w G0 M0 w0) (Td : Tidy D.ops D.b) (hi : D.ops[h]? = some o) (hk : kindOf o = .h) (hb : ∀ k, (D.b.getD h 0).testBit k = true → S k = true)
    (sat : (run (m + 1) X (.draw D (h :: r)) F M k).sat Q ρ) (iops : SOps X ρ Q m) (hK : ∀ F2 M2 G' a' w', (run m X (.draw D r) F2 M2 k).sat Q ρ → DI X.P ρ D r F2 M2 (Sadd S h) G' a' w' G0 M0 w0 → K a' w') : wpOp X.P D.ops R h K a w := by
  obtain ⟨hv1, hhr, _, hv2⟩ := d.valid
  have hhN := oper_lt hi
  have hSh := d.SD h (List.mem_cons_self ..)
  unfold run at sat
  simp only at sat
  rw [hi] at sat
  simp only [hk] at sat
  split at sat
  · exact sat.elim
  · rename_i tm htm
    have sub1 : ∀ b x, hget (keepHp D.q D.ops.size (D.b.getD h 0) M.hp) b = some x → hget (live D S M.hp) b = some x := fun b x hx => by
      rw [keep_live, hget_live] at hx
      split at hx
      · rename_i hin
        rw [hget_live, if_pos (inS_mono hb hin)]
        exact hx
      · cases hx
    have hM1 := (d.mem.drop (keepHp D.q D.ops.size (D.b.getD h 0) M.hp) sub1).1
    have hF1 : FR ρ G { F with tm } a := by
      refine ⟨d.size, fun t v ht => ?_, d.df⟩
      rw [blank_get _ _ _ htm] at ht
      split at ht
      · cases ht; exact .any _
      · rename_i hnd
        have := d.slot t fun j oj hj hd => by
          cases hbt : (D.b.getD h 0).testBit j with
          | true => exact .inl (hb j hbt)
          | false => exact absurd (mem_dsts.2 ⟨j, oj, hj, by rw [hbt]; rfl, hd⟩) hnd
        rw [ht] at this
        exact this
    refine wpList_one hi (iops D.ops [o] _ _ _ G a w _ sat hM1 hF1 fun e a' w' hr hs => ?_)
    obtain ⟨x, F', G', M', x1, x2, x3, x4, x5⟩ := hr
    cases x with
    | norm =>
      cases e with
      | normal =>
        show K a' w'
        simp only at x5
        cases hn : Nat.beq F'.n F.n with
        | false => rw [hn] at x5; exact x5.elim
        | true =>
          rw [hn] at x5
          simp only [Bool.not_true, cond_false] at x5
          have hn := (beq_iff _ _).1 hn
          obtain ⟨F2, g1, g2, g3, g4, g5⟩ := put_get x5
          obtain ⟨p, r1, r2, r3⟩ := recheck_sat (P := X.P) _ g1 x3.pc
          have dstN : ∀ j oj t, j ≠ h → D.ops[j]? = some oj → oj.dst = some t → o.dst ≠ some t := fun j oj t hj ho hd e => hj (Td.uniq j h oj o t ho hi hd e)
          have oldM' : ∀ j, j < D.ops.size → S j = false → G' (D.q + j) = none := fun j hj hs' => by
            cases hg : G' (D.q + j) with
            | none => rfl
            | some g =>
              rcases x4.old _ g hg with h' | h'
              · rw [d.noG j hj hs'] at h'; cases h'
              · have h2 : M.nb ≤ D.q + j := h'
                have := d.nbq; omega
          have noM' : ∀ j, j < D.ops.size → S j = false → hget M'.hp (D.q + j) = none := fun j hj hs' => by
            cases hx : hget M'.hp (D.q + j) with
            | none => rfl
            | some y =>
              obtain ⟨g, hg, _⟩ := x3.ob _ y hx
              rw [oldM' j hj hs'] at hg; cases hg
          have bitF : ∀ j, S j = false → (D.b.getD h 0).testBit j = false := fun j hs' => by
            cases hx : (D.b.getD h 0).testBit j with
            | false => rfl
            | true => rw [hb j hx] at hs'; cases hs'
          -- the memory afterwards
          have hp2 : ∀ b, hget (M'.hp ++ M.hp.filter fun p => !(Nat.blt p.1 D.q || Nat.ble (D.q + D.ops.size) p.1 || (D.b.getD h 0).testBit (p.1 - D.q))) b = match hget M'.hp b with | some y => some y | none => if inS D (D.b.getD h 0).testBit b = true then none else hget M.hp b := fun b => by
            rw [hget_append]
            cases hget M'.hp b with
            | some y => rfl
            | none =>
              simp only
              rw [hget_filter fun c => !(Nat.blt c D.q || Nat.ble (D.q + D.ops.size) c || (D.b.getD h 0).testBit (c - D.q))]
              show (if (!inS D (D.b.getD h 0).testBit b) = true then _ else _) = _
              cases inS D (D.b.getD h 0).testBit b <;> rfl
          have hp2j : ∀ j, j < D.ops.size → S j = false → hget (M'.hp ++ M.hp.filter fun p => !(Nat.blt p.1 D.q || Nat.ble (D.q + D.ops.size) p.1 || (D.b.getD h 0).testBit (p.1 - D.q))) (D.q + j) = hget M.hp (D.q + j) := fun j hj hs' => by
            rw [hp2, noM' j hj hs', inS_at hj, bitF j hs']
            rfl
          generalize hHP : (M'.hp ++ M.hp.filter fun p => !(Nat.blt p.1 D.q || Nat.ble (D.q + D.ops.size) p.1 || (D.b.getD h 0).testBit (p.1 - D.q))) = HP at hp2 hp2j r1 r3
          have c2 : ∀ b x, hget (live D (Sadd S h) HP) b = some x → hget M'.hp b = some x ∨ (hget (live D S M.hp) b = some x ∧ hget (keepHp D.q D.ops.size (D.b.getD h 0) M.hp) b = none) := fun b x hx => by
            rw [hget_live] at hx
            split at hx
            · rename_i hin
              rw [hp2] at hx
              split at hx
              · cases hx; rename_i hy; exact .inl hy
              · split at hx
                · cases hx
                · rename_i hnin
                  have hnin' : inS D (D.b.getD h 0).testBit b = false := by simpa using hnin
                  refine .inr ⟨?_, by rw [keep_live, hget_live, if_neg hnin]⟩
                  obtain ⟨j, hj, e, hbj⟩ := inS_out hnin'
                  subst e
                  rw [inS_at hj] at hin
                  have hjh : j ≠ h := fun e => by
                    subst e
                    rw [d.lay j (List.mem_cons_self ..)] at hx; cases hx
                  rw [Sadd_ne hjh] at hin
                  rw [hget_live, inS_at hj, hin]
                  exact hx
            · cases hx
          obtain ⟨mm, ss⟩ := merge (M2 := { M' with hp := live D (Sadd S h) HP, pc := p }) d.mem x4 x3 r2 rfl rfl sub1 c2
          have hS2 : ∀ j ∈ r, j ≠ h := fun j hj e => hhr (e ▸ hj)
          have F2t : ∀ t, o.dst ≠ some t → F2.tm.get t = F.tm.get t := fun t ht => by rw [g4, if_neg ht]
          refine hK F2 { M' with hp := HP, pc := p } G' a' w' r1 ⟨hv2, fun j hj => d.lt j (List.mem_cons_of_mem _ hj), fun j hj => ?_, fun j hj k' hk' => ?_, fun j hj hjr k' hk' => ?_, fun j hj => by rw [Sadd_ne (hS2 j hj)]; exact d.SD j (List.mem_cons_of_mem _ hj), fun j hj hjr hh => ?_, fun j oj hj hjr hsj => ?_, fun j hj oj t ho hd => ?_, fun j hj => ?_, by rw [x2.n, g2, hn], by rw [g3]; exact x2.df, fun t hc => ?_, mm, fun j hj hsj => oldM' j hj (Sadd_false hsj).2, Nat.le_trans d.nbq x4.nb, d.q0, d.base.trans ss⟩
          · by_cases e : j = h
            · rw [e]; exact hhN
            · rw [Sadd_ne e] at hj; exact d.SN j hj
          · by_cases e : j = h
            · subst e; exact Sadd_of (hb k' hk')
            · rw [Sadd_ne e] at hj; exact Sadd_of (d.downS j hj k' hk')
          · by_cases e : j = h
            · subst e
              intro hkr
              rw [hv1 k' (List.mem_cons_of_mem _ hkr)] at hk'; cases hk'
            · exact fun hkr => d.downD j hj (by simp [e, hjr]) k' hk' (List.mem_cons_of_mem _ hkr)
          · by_cases e : j = h
            · rw [e]; exact Sadd_self S h
            · exact Sadd_of (d.heavyS j hj (by simp [e, hjr]) hh)
          · obtain ⟨hjh, hsj⟩ := Sadd_false hsj
            have hjt : j ∉ h :: r := by simp [hjh, hjr]
            have hjN := oper_lt hj
            have old := d.pend j oj hj hjt hsj
            by_cases hl : kindOf oj = .l
            · obtain ⟨v, ob, q1, q2⟩ := r3 j (List.mem_filter.2 ⟨List.mem_range.2 hjN, by
                have : isL D.ops j = true := by unfold isL; rw [hj]; simp [hl]
                rw [this, bitF j hsj]
                simp [hjr]⟩) oj hj
              obtain ⟨Fi, v0, ob0, _, _, o3, o4, o5⟩ := old
              have hob0 := o5 hl
              have hob : ob = none := by rcases q1 with ⟨_, _, e⟩ | ⟨_, _, e⟩; exact e; exact e hl
              subst hob
              refine ⟨F2, v, none, fun t ht => .inr ⟨rfl, fun k' ok hk' hd => Td.sideL j k' oj ok t hj hk' hd ht hl⟩, ?_, fun t ht => ?_, ?_, fun _ => rfl⟩
              · rcases q1 with q1 | ⟨q1, q3, _⟩
                · exact .inl q1
                · exact .inr ⟨q1, q3⟩
              · have := q2 t ht
                rw [F2t t (dstN j oj t hjh hj ht), (o3 t ht).1] at this
                rw [F2t t (dstN j oj t hjh hj ht), (o3 t ht).1, g2]
                simp only [Option.getD_some] at this
                exact ⟨by rw [this], (o3 t ht).2⟩
              · show hget HP _ = none
                rw [hp2j j hjN hsj, o4, hob0]
            · refine old.keep (todo := h :: r) hj g2 hjt (d.downD j hjN hjt) Td (fun t => ?_) (fun Fi v ob hlit => ?_) (hp2j j hjN hsj)
              · by_cases e : o.dst = some t
                · exact .inr ⟨h, List.mem_cons_self .., o, hi, e⟩
                · exact .inl (F2t t e)
              · rw [hpOf, if_neg hl] at hlit ⊢
                exact hlit
          · rw [F2t t (dstN j oj t (hS2 j hj) ho hd)]
            exact d.unk j (List.mem_cons_of_mem _ hj) oj t ho hd
          · show hget HP _ = none
            rw [hp2j j (d.lt j (List.mem_cons_of_mem _ hj)) (d.SD j (List.mem_cons_of_mem _ hj))]
            exact d.lay j (List.mem_cons_of_mem _ hj)
          · by_cases e : o.dst = some t
            · rw [g4, if_pos e]
              simp only [e, Option.getD_some]
              exact x2.slot t
            · rw [F2t t e, hs t (fun o' ho' => by rw [List.mem_singleton.1 ho']; exact e)]
              refine (d.slot t fun j oj hj hd => ?_).mono x4.gh
              rcases hc j oj hj hd with h' | h'
              · refine .inl ?_
                rw [← Sadd_ne (S := S) (i := h) (j := j) (fun e' => e (by subst e'; rw [hi] at hj; cases hj; exact hd))]
                exact h'
              · exact .inr (List.mem_cons_of_mem _ h')
      | _ => exact x1.elim
    | _ => exact x5.elim

theorem filter_lt {p q : Nat → Bool} : ∀ (l : List Nat), (∀ x, q x = true → p x = true) → ∀ y ∈ l, p y = true → q y = false → (l.filter q).length < (l.filter p).length
  | x :: l, hpq, y, hy, h1, h2 => by
    have le : ∀ (l : List Nat), (l.filter q).length ≤ (l.filter p).length := fun l => by
      induction l with
      | nil => simp
      | cons z l ih =>
        rw [List.filter_cons, List.filter_cons]
        cases hq : q z with
        | true => rw [hpq z hq]; simpa using ih
        | false => cases hp : p z <;> simp <;> omega
    rw [List.filter_cons, List.filter_cons]
    rcases List.mem_cons.1 hy with e | hy
    · subst e
      rw [h1, h2]
      have := le l
      simp
      omega
    · have := filter_lt l hpq y hy h1 h2
      cases hq : q x with
      | true => rw [hpq x hq]; simpa using this
      | false => cases hp : p x <;> simp <;> omega
theorem set_S (listed : Array Bool) (i : Nat) (hi : i < listed.size) : (fun j => (listed.setIfInBounds i true).getD j false) = Sadd (fun j => listed.getD j false) i := by
  funext j
  unfold Sadd
  simp only [Array.getD_eq_getD_getElem?, Array.getElem?_setIfInBounds]
  by_cases h : i = j
  · subst h; simp [hi]
  · rw [if_neg h, if_neg (Ne.symm h)]

theorem all_done {m : Nat} {k : Lf → T} {R : Exit → Act → World → Prop} (hR : ∀ e a' w', Reach ρ Q k G0 M0 w0 e a' w' → R e a' w') (sat : (run m X (.draw D todo) F M k).sat Q ρ) (d : DI X.P ρ D todo F M S G a w G0 M0 w0) (hall : ∀ i, i < D.ops.size → S i = true) : R .normal a w := by
  have ht : todo = [] := by
    cases todo with
    | nil => rfl
    | cons h r =>
      have := d.SD h (List.mem_cons_self ..)
      rw [hall h (d.lt h (List.mem_cons_self ..))] at this; cases this
  subst ht
  have hl : ∀ b, hget M.hp b = hget (live D S M.hp) b := fun b => by
    rw [hget_live]
    cases hx : inS D S b with
    | true => rfl
    | false =>
      obtain ⟨j, hj, e, hs⟩ := inS_out hx
      rw [hall j hj] at hs; cases hs
  cases m with
  | zero => unfold run at sat; exact sat.elim
  | succ m =>
    unfold run at sat
    simp only at sat
    refine hR _ _ _ ⟨.norm, F, G, M, trivial, ⟨d.size, fun t v ht => ?_, d.df⟩, d.mem.hpc (hp := M.hp) (p := M.pc) hl d.mem.pc, d.base.hpc (hp := M.hp) (p := M.pc) hl, sat⟩
    have := d.slot t fun i o hi _ => .inl (hall i (oper_lt hi))
    rw [ht] at this
    exact this
theorem ready_mem {listed : Array Bool} {i : Nat} (hsz : listed.size = D.ops.size) : i ∈ Region.ready .any D.ops listed ↔ i < D.ops.size ∧ listed.getD i true = false ∧ ∃ o, D.ops[i]? = some o ∧ ∀ e ∈ o.after.toList, Region.binds .any e = true → listed.getD e.on false = true := by
  unfold Region.ready
  simp only [List.mem_filter, List.mem_range, Bool.and_eq_true, Bool.not_eq_true']
  constructor
  · rintro ⟨h1, h2, h3⟩
    refine ⟨h1, h2, D.ops[i], Array.getElem?_eq_getElem h1, fun e he hb => ?_⟩
    rw [Array.getElem?_eq_getElem h1] at h3
    simp only [Option.map_some, Option.getD_some, Array.all_eq_true_iff_forall_mem] at h3
    have := h3 e (Array.mem_toList_iff.1 he)
    rw [hb] at this
    simpa using this
  · rintro ⟨h1, h2, o, ho, h3⟩
    refine ⟨h1, h2, ?_⟩
    rw [ho]
    simp only [Option.map_some, Option.getD_some, Array.all_eq_true_iff_forall_mem]
    intro e he
    cases hb : Region.binds .any e with
    | false => rfl
    | true => simpa using h3 e (Array.mem_toList_iff.2 he) hb
theorem getD_tf {listed : Array Bool} {i : Nat} (h : i < listed.size) : listed.getD i true = listed.getD i false := by
  rw [Array.getD_eq_getD_getElem?, Array.getD_eq_getD_getElem?, Array.getElem?_eq_getElem h]; rfl
theorem any_ok {n : Nat} {k : Lf → T} {R : Exit → Act → World → Prop} (Td : Tidy D.ops D.b) (iops : ∀ m, m < n → SOps X ρ Q m) (hR : ∀ e a' w', Reach ρ Q k G0 M0 w0 e a' w' → R e a' w') : ∀ (fuel : Nat) (listed : Array Bool) (G : Gh) (a : Act) (w : World) (m : Nat) (todo : List Nat) (F : Fr) (M : Me), m ≤ n → listed.size = D.ops.size →
    ((List.range D.ops.size).filter fun i => !listed.getD i true).length ≤ fuel → (run m X (.draw D todo) F M k).sat Q ρ → DI X.P ρ D todo F M (fun i => listed.getD i false) G a w G0 M0 w0 → Rest D todo → wpAny X.P .any D.ops R fuel listed a w := by
  intro fuel
  -- where nothing is ready all is done
  have stuck : ∀ (listed : Array Bool) (G : Gh) (a : Act) (w : World) (m : Nat) (todo : List Nat) (F : Fr) (M : Me), listed.size = D.ops.size → (run m X (.draw D todo) F M k).sat Q ρ → DI X.P ρ D todo F M (fun i => listed.getD i false) G a w G0 M0 w0 → Region.ready .any D.ops listed = [] → R .normal a w := by
    intro listed G a w m todo F M hsz sat d hrd
    refine all_done hR sat d fun i => ?_
    induction i using Nat.strongRecOn with
    | _ i ih =>
      intro hi
      cases hx : listed.getD i false with
      | true => rfl
      | false =>
        exfalso
        have : i ∈ Region.ready .any D.ops listed := (ready_mem hsz).2 ⟨hi, by rw [getD_tf (by omega)]; exact hx, D.ops[i], Array.getElem?_eq_getElem hi, fun e he hb => by
          have := Td.back i _ (Array.getElem?_eq_getElem hi) e he hb
          exact ih e.on this (by omega)⟩
        rw [hrd] at this
        simp at this
  induction fuel with
  | zero =>
    intro listed G a w m todo F M hm hsz hc sat d hr
    have hrd : Region.ready .any D.ops listed = [] := by
      cases hx : Region.ready .any D.ops listed with
      | nil => rfl
      | cons i l =>
        have hm := (ready_mem hsz).1 (show i ∈ Region.ready .any D.ops listed by rw [hx]; exact List.mem_cons_self ..)
        have : i ∈ (List.range D.ops.size).filter fun i => !listed.getD i true := List.mem_filter.2 ⟨List.mem_range.2 hm.1, by rw [hm.2.1]; rfl⟩
        have := List.length_pos_of_mem this
        omega
    exact ⟨hrd, stuck listed G a w m todo F M hsz sat d hrd⟩
  | succ fuel ih =>
    intro listed G a w m todo F M hm hsz hc sat d hr
    refine ⟨stuck listed G a w m todo F M hsz sat d, fun i hi => ?_⟩
    obtain ⟨hiN, hiL, o, ho, haft⟩ := (ready_mem hsz).1 hi
    have hS : (fun i => listed.getD i false) i = false := by show listed.getD i false = false; rw [← getD_tf (by omega)]; exact hiL
    have hb := Td.ready i o ho (fun i => listed.getD i false) d.downS haft
    have hsz' : (listed.setIfInBounds i true).size = D.ops.size := by simpa using hsz
    have hc' : ((List.range D.ops.size).filter fun j => !(listed.setIfInBounds i true).getD j true).length ≤ fuel := by
      have := filter_lt (p := fun j => !listed.getD j true) (q := fun j => !(listed.setIfInBounds i true).getD j true) (List.range D.ops.size) (fun x hx => by
        simp only [Array.getD_eq_getD_getElem?, Array.getElem?_setIfInBounds] at hx ⊢
        by_cases e : i = x
        · subst e; simp [show i < listed.size by omega] at hx
        · rwa [if_neg e] at hx) i (List.mem_range.2 hiN) (by simp [hiL]) (by
        simp only [Array.getD_eq_getD_getElem?, Array.getElem?_setIfInBounds]
        simp [show i < listed.size by omega])
      omega
    have go : ∀ (m' : Nat) (todo' : List Nat) (F' : Fr) (M' : Me) (G' : Gh) (a' : Act) (w' : World), m' ≤ n → (run m' X (.draw D todo') F' M' k).sat Q ρ → DI X.P ρ D todo' F' M' (Sadd (fun i => listed.getD i false) i) G' a' w' G0 M0 w0 → Rest D todo' → wpAny X.P .any D.ops R fuel (listed.setIfInBounds i true) a' w' := by
      intro m' todo' F' M' G' a' w' hm' hs hd hr'
      rw [← set_S listed i (by omega)] at hd
      exact ih _ G' a' w' m' todo' F' M' hm' hsz' hc' hs hd hr'
    by_cases hit : i ∈ todo
    · -- it is the heavy one that is next
      rcases hr with e | ⟨h, r, e, hh⟩
      · rw [e] at hit; simp at hit
      · subst e
        have hih : i = h := by
          rcases List.mem_cons.1 hit with e | hir
          · exact e
          · exfalso
            have := hb h (d.valid.2.2.1 hh i hir)
            have := d.SD h (List.mem_cons_self ..)
            simp_all
        subst hih
        have hk : kindOf o = .h := by
          unfold isH at hh
          rw [ho] at hh
          simpa using hh
        cases m with
        | zero => unfold run at sat; exact sat.elim
        | succ m =>
          refine d.heavy Td ho hk hb sat (iops m (by omega)) fun F2 M2 G' a' w' hs hd => ?_
          obtain ⟨m', todo', F', M', h1, h2, h3, h4⟩ := pass_all Td r m F2 M2 hs hd
          exact go m' todo' F' M' G' a' w' (by omega) h2 h3 h4
    · exact d.light ho hit hS hb fun G' a' w' hd => go m todo F M G' a' w' hm sat hd hr

/-- A region that draws its own order does what the executor says, whatever it draws. -/
theorem draw_step {n : Nat} (hmix : X.P.follows .mixedOrders = true) (iops : ∀ m, m < n → SOps X ρ Q m) : SDraw X ρ Q n := by
  intro id ops l tm F M k G a w R htidy hval htm sat hM hF hR
  have Td := tidy_ok htidy
  obtain ⟨hv, hmem⟩ := validB_ok ops _ l _ hval
  have hin : ∀ j, j < ops.size ↔ j ∈ l := fun j => by
    rw [← hmem j, Nat.testBit_two_pow_sub_one]; simp
  have hfree : ∀ i, G (M.nb + i) = none := fun i => by
    cases hg : G (M.nb + i) with
    | none => rfl
    | some g => have := hM.fresh _ _ hg; omega
  have hfreeM : ∀ i, hget M.hp (M.nb + i) = none := fun i => by
    cases hx : hget M.hp (M.nb + i) with
    | none => rfl
    | some y => obtain ⟨g, hg, _⟩ := hM.ob _ y hx; rw [hfree i] at hg; cases hg
  have hl0 : ∀ i, (Array.replicate ops.size false).getD i false = false := fun i => by
    rw [Array.getD_eq_getD_getElem?, Array.getElem?_replicate]
    split <;> rfl
  have hlive : ∀ b, hget (live ⟨ops, Region.before ops, M.nb⟩ (fun i => (Array.replicate ops.size false).getD i false) M.hp) b = hget M.hp b := fun b => by
    rw [hget_live]
    cases hx : inS ⟨ops, Region.before ops, M.nb⟩ (fun i => (Array.replicate ops.size false).getD i false) b with
    | true => rfl
    | false =>
      obtain ⟨j, hj, e, hs⟩ := inS_out hx
      rw [e]
      exact (hfreeM j).symm
  have up : MR ρ G { M with nb := M.nb + ops.size } w.drew := ⟨hM.pc, fun b g hg => Nat.lt_of_lt_of_le (hM.fresh b g hg) (Nat.le_add_right _ _), hM.drew.ob, hM.apart⟩
  have sp : Stp ρ G M w G { M with nb := M.nb + ops.size } w.drew := ⟨G.le_refl, rfl, rfl, rfl, Nat.le_refl _, fun _ _ _ => rfl, fun _ h _ => h, Nat.le_add_right _ _, fun _ _ h => .inl h, fun _ _ _ h => h⟩
  have d : DI X.P ρ ⟨ops, Region.before ops, M.nb⟩ l { F with tm } { M with nb := M.nb + ops.size } (fun i => (Array.replicate ops.size false).getD i false) G a w.drew G M w := by
    refine ⟨hv, fun i hi => (hin i).2 hi, fun i hi => (by rw [hl0] at hi; cases hi), fun i hi => (by rw [hl0] at hi; cases hi), fun i hi hn => absurd ((hin i).1 hi) hn, fun i _ => hl0 i, fun i hi hn => absurd ((hin i).1 hi) hn, fun i o hi hn => absurd ((hin i).1 (oper_lt (D := ⟨ops, Region.before ops, M.nb⟩) hi)) hn, fun i hi o t ho ht => ?_, fun i _ => hfreeM i, hF.n, hF.df, fun t _ => ?_, up.hpc hlive hM.pc, fun i _ _ => hfree i, Nat.le_refl _, Nat.le_refl _, sp.hpc hlive⟩
    · rw [blank_get _ _ _ htm, if_pos (mem_dsts.2 ⟨i, o, ho, rfl, ht⟩)]; rfl
    · rw [blank_get _ _ _ htm]
      split
      · exact .any _
      · exact hF.slot t
  obtain ⟨m', todo', F', M', h1, h2, h3, h4⟩ := pass_all Td l n _ _ sat d
  refine wp_region_any hmix (any_ok (D := ⟨ops, Region.before ops, M.nb⟩) Td iops hR ops.size (Array.replicate ops.size false) G a w.drew m' todo' F' M' h1 (by simp) ?_ h2 h3 h4)
  refine Nat.le_trans (List.length_filter_le ..) (by simp)

/-- The executor is sound, at every depth. -/
theorem sound (X : Cx) (ρ : Env) (Q : Lf → Prop) (hmix : X.P.follows .mixedOrders = true) (hname : ∀ (f : FuncId) (fn : Func), X.P.funcs[f]? = some fn → fn.name ≠ "runtime.NumGoroutine") : ∀ n, SCode X ρ Q n ∧ SLoop X ρ Q n ∧ SOps X ρ Q n ∧ SCall X ρ Q n ∧ SDefers X ρ Q n := by
  intro n
  induction n using Nat.strongRecOn with
  | _ n ih =>
    cases n with
    | zero =>
      refine ⟨fun c F M k G a w R h => ?_, fun c F M k G a w R h => ?_, fun ops l F M k G a w R h => ?_, fun fid first cap args F M k G w vf vc va R h => ?_, fun fn ds pn F M k G w tmps cs u R h => ?_⟩ <;> (unfold run at h; exact h.elim)
    | succ n =>
      obtain ⟨h1, h2, h3, h4, h5⟩ := ih n (Nat.lt_succ_self n)
      exact ⟨code_step h1 h2 h3 (draw_step hmix fun m hm => (ih m (by omega)).2.2.1), loop_step h1 h2, ops_step hname h3 h4, call_step h1 h5, defers_step hname h1 h5⟩

/-- A call of a function does what its tree says. -/
theorem call_sound {P : Program} (hmix : P.follows .mixedOrders = true) (hname : ∀ (f : FuncId) (fn : Func), P.funcs[f]? = some fn → fn.name ≠ "runtime.NumGoroutine") {n : Nat} {fid : FuncId} {args : List AV} {M : Me} {ρ : Env} {Q : Lf → Prop} {G : Gh} {w : World} {va : Array Value} {R : Ending → World → Prop}
    (h : (callT P n fid args M).sat Q ρ) (hM : MR ρ G M w) (hv : VRs ρ G args va) (hR : ∀ e w', CReach ρ Q .ret G M w e w' → R e w') : Calls P fid va w R := by
  have := ((sound ⟨P⟩ ρ Q hmix hname n).2.2.2.1 fid [] [] args ⟨.lf, 0, []⟩ M .ret G w #[] #[] va R h hM ⟨rfl, fun i a v h => by simp at h⟩ ⟨rfl, fun i a v h => by simp at h⟩ hv hR).2
  simpa using this
end
end Go.Proofs.Ytbnbljeegghgiaa
