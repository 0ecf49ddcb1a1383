/- Part 4 of a proof: the executor, its soundness, contracts of functions. No condition. -/
import Derived.RecoverIn
import Derived.Scope
import Derived.Below
import Derived.Deep.Slices
import Derived.ChangeShapes
import Derived.DataReads
import Derived.WideShapes
import Derived.Test.YtkfjgggiopegbaaDoorRows
import Derived.WalkKit
import Derived.ProofKit
import Derived.OpenShut
import Derived.ShutString
import Derived.ChangeOld
import Derived.Lib.SmallJoins
import Derived.Deep.Fields
import Derived.ChangeSame
import Derived.Test.YtkfjgggiopegbaaDoorQc
section
set_option linter.unusedVariables false
set_option linter.unusedSimpArgs false
namespace Go.Proofs.YtkfjgggiopegbaaDoor
open Go.RowKit
section
variable {X : Cx} {ρ : Env} {Q : Lf → Prop} {n : Nat}
theorem Tr.get_map (f : AV → AV) : ∀ (t : Tr) (n : Nat), (t.map f).get n = (t.get n).map f
  | .lf, _ => by rw [Tr.map, Tr.get_lf0]; rfl
  | .nd v l r, 0 => by rw [Tr.map, Tr.get_0, Tr.get_0]
  | .nd v l r, m + 1 => by
    show (Tr.nd (v.map f) (l.map f) (r.map f)).get (m + 1) = _
    rw [Tr.get_s, Tr.get_s]
    cases Nat.beq (m % 2) 0
    · exact Tr.get_map f r (m / 2)
    · exact Tr.get_map f l (m / 2)
theorem subV_ok {G : Gh} {k : IntKind} {e : SE} {q : Nat} {v : AV} {u : Value} (hq : (e.den ρ).i = q) (h : VR ρ G v u) : VR ρ G (subV k e q v) u := by
  unfold subV
  split
  · rename_i k' e'
    split
    · rename_i hc
      obtain ⟨rfl, rfl⟩ := hc
      have := h.int_inv
      rw [this, hq]
      exact .int _ _ _ rfl
    · exact h
  · exact h
theorem FR.sub {G : Gh} {F : Fr} {a : Act} {k : IntKind} {e : SE} {q : Nat} (hq : (e.den ρ).i = q) (h : FR ρ G F a) : FR ρ G (F.sub k e q) a := by
  refine ⟨h.n, fun t v ht => ?_, h.df⟩
  have ht' : (F.tm.map (subV k e q)).get t = some v := ht
  rw [Tr.get_map] at ht'
  cases hg : F.tm.get t with
  | none => rw [hg] at ht'; cases ht'
  | some v0 =>
    rw [hg] at ht'
    cases ht'
    exact subV_ok hq (h.tm t v0 hg)
theorem splitI_sat : ∀ (m : Nat) {e : SE} {M : Me} {k : Nat → Me → T}, (splitI m e M k).sat Q ρ → holdsAll ρ M.pc → ∃ (q : Nat) (p : PC), (e.den ρ).i = q ∧ (k q { M with pc := p }).sat Q ρ ∧ holdsAll ρ p
  | 0, _, _, _, h, _ => h.elim
  | m + 1, e, M, k, h, hp => by
    obtain ⟨p, h1, h2⟩ := test_pc h hp
    rw [eq_b] at h1
    by_cases hd : (e.den ρ).i = ((SE.int (m : Int)).den ρ).i
    · rw [decide_eq_true hd] at h1
      exact ⟨m, p, hd, h1, h2⟩
    · rw [decide_eq_false hd] at h1
      obtain ⟨q, p', a, b, c⟩ := splitI_sat m h1 h2
      exact ⟨q, p', a, b, c⟩
theorem code_step (hnp : ρ.f.np = X.P.funcs.size) (hname : ∀ (f : FuncId) (fn : Func), X.P.funcs[f]? = some fn → fn.name ≠ "runtime.NumGoroutine") (icode : ∀ ρ' Q, ρ'.f = ρ.f → SCode X ρ' Q n) (iloop : SLoop X ρ Q n) (iops : SOps X ρ Q n) (icall : SCall X ρ Q n) (idraw : SDraw X ρ Q n) : SCode X ρ Q (n + 1) := by
  intro rd c F M k G a w R hrd h hM hF hR
  have here : ∀ x e, XR ρ G x e → (k (.code x F M)).sat Q ρ → R e a w := fun x e hx hk => hR _ _ _ ⟨x, F, G, M, hx, hF, hM, Stp.refl _ _ _ _, hk⟩
  rw [run_succ] at h
  simp only at h
  split at h
  · exact wpIn_skip (here .norm .normal trivial h)
  · exact wpIn_label (here .norm .normal trivial h)
  · -- a region
    rename_i id ops draw
    split at h
    · rename_i ik e m hsp
      obtain ⟨q, p, hq, h1, h2⟩ := splitI_sat m h hM.pc
      exact icode ρ Q rfl rd _ (F.sub ik e q) _ k G a w R hrd h1 (hM.pcs h2) (hF.sub hq) fun e a2 w2 hr => hR e a2 w2 (hr.from (Stp.learn M w p))
    split at h
    · exact wpIn_region_list (iops rd ops ops.toList F M k G a w R hrd h hM hF fun e a' w' hr _ => hR e a' w' hr)
    · cases hc : (tidy ops (Region.before ops) && validB ops (Region.before ops) (2 ^ ops.size - 1) (canon ops (Region.before ops) ((List.range ops.size).filter (isH ops)) 0)) with
      | false => rw [hc] at h; exact h.elim
      | true =>
        rw [hc] at h
        simp only [cond_true] at h
        simp only [Bool.and_eq_true] at hc
        exact idraw rd id ops _ F M k G a w R hrd hc.1 hc.2 h hM hF hR
  · -- seq
    rename_i x y
    refine wpIn_seq (icode ρ Q rfl rd x F M _ G a w _ (hrd.imp id fun h => by simp only [plainC, Bool.and_eq_true] at h; exact h.1) h hM hF fun e a' w' hr => ?_)
    obtain ⟨z, F', G', M', h1, h2, h3, h4, h5⟩ := hr
    cases z with
    | norm =>
      cases e with
      | normal => exact icode ρ Q rfl rd y F' M' k G' a' w' R (hrd.imp id fun h => by simp only [plainC, Bool.and_eq_true] at h; exact h.2) h5 h3 h2 fun e a2 w2 hr => hR e a2 w2 (hr.from h4)
      | _ => exact h1.elim
    | _ =>
      cases e with
      | normal => exact h1.elim
      | _ => exact hR _ _ _ ⟨_, F', G', M', h1, h2, h3, h4, h5⟩
  · -- cond
    rename_i x y z
    split at h
    · rename_i e he
      obtain ⟨p, h1, h2⟩ := test_pc h hM.pc
      have hv := hF.ev x
      rw [he] at hv
      refine wpIn_cond hv.bool_inv ?_
      have := icode ρ Q rfl rd _ F _ k G a w R (hrd.imp id fun h => by simp only [plainC, Bool.and_eq_true] at h; cases (e.den ρ).b; exact h.2; exact h.1) h1 (hM.pcs h2) hF fun e a2 w2 hr => hR e a2 w2 (hr.from (Stp.learn M w p))
      cases hb : (e.den ρ).b <;> rw [hb] at this <;> exact this
    · rename_i e he
      obtain ⟨p, h1, h2⟩ := test_pc h hM.pc
      have hv := hF.ev x
      rw [he] at hv
      obtain ⟨b, hb, hbt⟩ := hv.boolu_inv
      refine wpIn_cond hb ?_
      have on : ∀ c, (rd = none ∨ plainC c = true) → (run n X (.code c) F { M with pc := p } k).sat Q ρ → c.wpIn (Fx X.E X.P rd) 0 X.P R a w := fun c hrc hc => icode ρ Q rfl rd c F _ k G a w R hrc hc (hM.pcs h2) hF fun e a2 w2 hr => hR e a2 w2 (hr.from (Stp.learn M w p))
      cases hc : (e.den ρ).b with
      | true =>
        rw [hc] at h1
        cases b with
        | true => exact on y (hrd.imp id fun h => by simp only [plainC, Bool.and_eq_true] at h; exact h.1) h1.1
        | false => exact on z (hrd.imp id fun h => by simp only [plainC, Bool.and_eq_true] at h; exact h.2) h1.2
      | false =>
        rw [hc] at h1
        cases b with
        | true => rw [hbt rfl] at hc; cases hc
        | false => exact on z (hrd.imp id fun h => by simp only [plainC, Bool.and_eq_true] at h; exact h.2) h1
    · exact h.elim
  · -- block
    rename_i id x
    refine wpIn_block (icode ρ Q rfl rd x F M _ G a w _ hrd h hM hF fun e a' w' hr => ?_)
    obtain ⟨z, F', G', M', h1, h2, h3, h4, h5⟩ := hr
    cases z with
    | exit i =>
      cases e with
      | exit j =>
        have hij : i = j := h1
        subst hij
        simp only at h5
        unfold Exit.inBlock
        simp only
        cases hb : Nat.beq i id with
        | true =>
          rw [hb] at h5
          rw [if_pos ((beq_iff _ _).1 hb)]
          exact hR _ _ _ ⟨.norm, F', G', M', trivial, h2, h3, h4, h5⟩
        | false =>
          rw [hb] at h5
          rw [if_neg (fun e => by rw [(beq_iff _ _).2 e] at hb; cases hb)]
          exact hR _ _ _ ⟨.exit i, F', G', M', h1, h2, h3, h4, h5⟩
      | _ => exact h1.elim
    | _ =>
      cases e with
      | exit j => exact h1.elim
      | _ => exact hR _ _ _ ⟨_, F', G', M', h1, h2, h3, h4, h5⟩
  · -- loop
    rename_i x
    split at h
    · exact wpIn_loop_rounds n (iloop rd x F M k G a w R hrd h hM hF hR)
    · rename_i la hla
      split at h
      · exact h.elim
      · rename_i Fg hFg
        split at h
        · exact h.elim
        · rename_i xs cs hinst
          exact head_loop icode hinst h hrd hM hF hR
  · exact wpIn_exit (here (.exit _) (.exit _) rfl h)
  · exact wpIn_goto (here (.goto _) (.goto _) rfl h)
  · exact wpIn_ret (here .ret .ret trivial h)
  · -- scope
    rename_i x
    refine wpIn_scope_straight (icode ρ Q rfl rd x F M _ G a w _ hrd h hM hF fun e a' w' hr => ?_)
    obtain ⟨z, F', G', M', h1, h2, h3, h4, h5⟩ := hr
    cases z with
    | goto i => exact h5.elim
    | _ =>
      cases e with
      | goto i => exact h1.elim
      | _ => exact hR _ _ _ ⟨_, F', G', M', h1, h2, h3, h4, h5⟩
  · -- a range over a function
    rename_i g ps asg body
    split at h
    · rename_i fid first cap hfv
      cases hpl : (X.E && (plainC asg && plainC body)) with
      | false => rw [hpl] at h; exact h.elim
      | true =>
        rw [hpl] at h
        simp only [cond_true] at h
        have hrn : rd = none := hrd.elim id fun h => by cases h
        subst hrn
        simp only [Bool.and_eq_true] at hpl
        exact range_ok hnp hname icall hpl.1 hfv h hM hF hR
    · exact h.elim
  · exact h.elim
theorem loop_step (icode : SCode X ρ Q n) (iloop : SLoop X ρ Q n) : SLoop X ρ Q (n + 1) := by
  intro rd c F M k G a w R hrd h hM hF hR
  rw [run_succ] at h
  simp only at h
  unfold Code.roundsIn
  refine icode rd c F M _ G a w _ hrd h hM hF fun e a' w' hr => ?_
  obtain ⟨z, F', G', M', h1, h2, h3, h4, h5⟩ := hr
  cases z with
  | norm =>
    cases e with
    | normal => exact iloop rd c F' M' k G' a' w' R hrd h5 h3 h2 fun e a2 w2 hr => hR e a2 w2 (hr.from h4)
    | _ => exact h1.elim
  | _ =>
    cases e with
    | normal => exact h1.elim
    | _ => exact hR _ _ _ ⟨_, F', G', M', h1, h2, h3, h4, h5⟩
theorem results_run {P : Program} {fn : Func} {tmps : Array Value} {w : World} {us : List Value} (h : (fn.results.toList.mapM (resV tmps)).run P w = .ok us w) : (results fn tmps).run P w = .ok (match us with | [u] => u | us => .tuple us.toArray) w := by
  have h' : (fn.results.mapM (resV tmps)).run P w = .ok us.toArray w := by
    rw [Array.mapM_eq_mapM_toList]
    simp [h]
  have e : results fn tmps = (do let vs ← fn.results.mapM (resV tmps); pure (if h : vs.size = 1 then vs[0] else .tuple vs)) := by
    unfold results
    congr 2
  rw [e, Sem.run_bind, h', Result.andThen_ok, Sem.run_pure]
  cases us with
  | nil => rfl
  | cons u r =>
    cases r with
    | nil => rfl
    | cons u2 r => simp
theorem ret_ok {P : Program} {fn : Func} {F : Fr} {M : Me} {k : Lf → T} {G : Gh} {w : World} {tmps : Array Value} (h : (resultsA P F M fn.results.toList fun vs M => (match vs with | [v] => k (.val v M) | vs => k (.val (.tup vs) M))).sat Q ρ) (hM : MR ρ G M w) (ht : ∀ t, VR ρ G ((F.tm.get t).getD .any) (tmps.getD t undef)) :
    ∃ u, (results fn tmps).run P w = .ok u w ∧ CReach ρ Q k G M w (.returned u) w := by
  obtain ⟨vs, us, p, h1, h2, h3, h4⟩ := results_sat fn.results.toList h hM ht
  refine ⟨_, results_run h4, G, _, hM.pcs h2, Stp.learn M w p, ?_⟩
  have hl := h3.1
  cases vs with
  | nil =>
    cases us with
    | nil => exact ⟨_, .tup _ _ rfl (fun i a v h => by simp at h), h1⟩
    | cons u r => simp at hl
  | cons v vs =>
    cases us with
    | nil => simp at hl
    | cons u r =>
      cases vs with
      | nil =>
        cases r with
        | nil => exact ⟨v, h3.2 0 v u rfl rfl, h1⟩
        | cons u2 r => simp at hl
      | cons v2 vs =>
        cases r with
        | nil => simp at hl
        | cons u2 r => exact ⟨_, .tup _ _ h3.1 h3.2, h1⟩
theorem CReach.from {k : Lf → T} {G G1 : Gh} {M M1 : Me} {w w1 : World} {e : Ending} {w' : World} (h : CReach ρ Q k G1 M1 w1 e w') (s : Stp ρ G M w G1 M1 w1) : CReach ρ Q k G M w e w' := by
  obtain ⟨G', M', h1, h2, h3⟩ := h
  exact ⟨G', M', h1, s.trans h2, h3⟩
theorem hget_filter_key (q : Nat → Bool) : ∀ (hp : List (Nat × Ob)) (b : Nat), hget (hp.filter fun p => q p.1) b = if q b = true then hget hp b else none
  | [], b => by simp [hget_nil]
  | (c, o) :: r, b => by
    have ih := hget_filter_key q r b
    rw [List.filter_cons]
    cases hq : q c with
    | true =>
      rw [if_pos rfl]
      simp only [hget_cons]
      by_cases e : c = b
      · subst e; rw [if_pos rfl, if_pos rfl, if_pos hq]
      · rw [if_neg e, if_neg e, ih]
    | false =>
      rw [if_neg (by simp), ih]
      simp only [hget_cons]
      by_cases e : c = b
      · subst e; rw [if_neg (by rw [hq]; simp), if_neg (by rw [hq]; simp)]
      · rw [if_neg e]
theorem gcM_ok {G : Gh} {M : Me} {w : World} (nb : Nat) (v : AV) (h : MR ρ G M w) : MR ρ G (gcM nb v M) w ∧ Stp ρ G M w G (gcM nb v M) w := by
  unfold gcM
  cases Nat.ble (nb + 14) M.nb with
  | false => exact ⟨h, Stp.refl _ _ _ _⟩
  | true =>
    simp only [cond_true]
    generalize markA M.hp nb 100000 (AV.refs nb 20 v (rootsA nb M.hp [])) [] = seen
    refine h.drop (M.hp.filter fun p => Nat.blt p.1 nb || hasN seen p.1) fun b o hb => ?_
    rw [hget_filter_key (fun b => Nat.blt b nb || hasN seen b)] at hb
    split at hb
    · exact hb
    · cases hb
theorem CReach.gc {k : Lf → T} {G : Gh} {M : Me} {w : World} {nb : Nat} {e : Ending} {w' : World} (h : CReach ρ Q (fun l => k (gcL nb l)) G M w e w') : CReach ρ Q k G M w e w' := by
  obtain ⟨G', M', h1, h2, h3⟩ := h
  cases e with
  | returned u =>
    obtain ⟨v, hv, hs⟩ := h3
    obtain ⟨g1, g2⟩ := gcM_ok nb v h1
    exact ⟨G', _, g1, h2.trans g2, v, hv, hs⟩
  | panicked ch =>
    obtain ⟨v, u, hc, hv, hs⟩ := h3
    obtain ⟨g1, g2⟩ := gcM_ok nb v h1
    exact ⟨G', _, g1, h2.trans g2, v, u, hc, hv, hs⟩
  | outgrown => exact h3.elim
theorem df_nil {G : Gh} {cs : List Deferred} (h : DfR ρ G [] cs) : cs = [] := by
  cases cs with
  | nil => rfl
  | cons d r => exact h.elim
theorem call_step (hS : SmyOk X.E X.P ρ.f X.S) (icode : SCode X ρ Q n) (idef : SDefers X ρ Q n) : SCall X ρ Q (n + 1) := by
  intro fid first cap args F M k G w vf vc va R h hM h1 h2 h3 hR
  rw [run_succ] at h
  simp only at h
  split at h
  · rename_i sm hsm
    have hgs : getS fid X.S = some sm := by
      cases hg : getS fid X.S with
      | none => rw [hg] at hsm; cases hsm
      | some sm' =>
        rw [hg] at hsm
        simp only at hsm
        cases hl : litArgs sm' M args with
        | true => rw [hl] at hsm; cases hsm
        | false => rw [hl] at hsm; exact hsm
    split at h
    · have e1 : vf = #[] := Array.eq_empty_of_size_eq_zero (by have := h1.1; simpa using this)
      have e2 : vc = #[] := Array.eq_empty_of_size_eq_zero (by have := h2.1; simpa using this)
      subst e1 e2
      split at h
      · rename_i v M' cs hu
        have := useX_ok hS hgs hu h hM h3 hR
        simpa using this
      · exact h.elim
    · exact h.elim
  split at h
  · rename_i fn hfn
    split at h
    · rename_i c hc
      cases hle : Nat.ble (first ++ args ++ cap).length fn.ntmps with
      | false => rw [hle] at h; exact h.elim
      | true =>
        rw [hle] at h
        simp only [cond_true] at h
        have hn := Nat.le_of_ble_eq_true hle
        split at h
        · rename_i t0 e2
          split at h
          · rename_i tm htm
            refine ⟨⟨fn, hfn, by rw [hc]; rfl⟩, ?_⟩
            have hv : VRs ρ G (first ++ args ++ cap) (vf ++ va ++ vc) := (h1.append h3).append h2
            have hFr := enter_ok (ρ := ρ) (G := G) e2 htm hn hv
            replace hR : ∀ e w', CReach ρ Q (fun l => k (gcL M.nb l)) G M w e w' → R e w' := fun e w' h => hR e w' h.gc
            generalize (fun l => k (gcL M.nb l)) = k at h hR
            refine callsIn_of_wp_marks (F := Fx X.E X.P none) (n := 0) hfn hc (fun _ => ⟨fn, hfn⟩) (icode none c _ M _ G _ w _ (.inl rfl) h hM hFr fun e a' w' hr => ?_)
            obtain ⟨z, F', G', M', g1, g2, g3, g4, g5⟩ := hr
            have retk : (match F'.df with
                    | [] => resultsA X.P F' M' fn.results.toList fun vs M => (match vs with | [v] => k (.val v M) | vs => k (.val (.tup vs) M))
                    | ds => run n X (.defers fn ds none) F' M' k).sat Q ρ → LeavesInM (Fx X.E X.P none) 0 X.P fn a'.tmps R a'.defers .returning w' := by
              intro g5
              have hdf := g2.df
              split at g5
              · rename_i hd
                rw [hd] at hdf
                rw [df_nil hdf]
                obtain ⟨u, hu, hcr⟩ := ret_ok g5 g3 g2.slot
                exact ⟨u, hu, hR _ _ (hcr.from g4)⟩
              · exact idef fn _ none F' M' k G' w' a'.tmps a'.defers .returning R g5 g3 g2.slot hdf rfl fun e w2 hcr => hR _ _ (hcr.from g4)
            cases z with
            | norm =>
              cases e with
              | normal => exact retk g5
              | _ => exact g1.elim
            | ret =>
              cases e with
              | ret => exact retk g5
              | _ => exact g1.elim
            | panic v =>
              cases e with
              | panic ch =>
                obtain ⟨u, hch, hu⟩ := g1
                subst hch
                have hdf := g2.df
                unfold callK at g5
                simp only at g5
                split at g5
                · rename_i hd
                  rw [hd] at hdf
                  show LeavesInM (Fx X.E X.P none) 0 X.P fn a'.tmps R a'.defers _ w'
                  rw [df_nil hdf]
                  exact hR _ _ (CReach.from ⟨G', M', g3, Stp.refl _ _ _ _, v, u, rfl, hu, g5⟩ g4)
                · exact idef fn _ (some v) F' M' k G' w' a'.tmps a'.defers _ R g5 g3 g2.slot hdf ⟨u, rfl, hu⟩ fun e w2 hcr => hR _ _ (hcr.from g4)
              | _ => exact g1.elim
            | exit i => exact g5.elim
            | goto i => exact g5.elim
          · exact h.elim
        · exact h.elim
    · exact h.elim
  · exact h.elim
theorem defers_step (hname : ∀ (f : FuncId) (fn : Func), X.P.funcs[f]? = some fn → fn.name ≠ "runtime.NumGoroutine") (icode : SCode X ρ Q n) (idef : SDefers X ρ Q n) : SDefers X ρ Q (n + 1) := by
  intro fn ds pn F M k G w tmps cs u R h hM ht hdf hu hR
  rw [run_succ] at h
  simp only at h
  cases ds with
  | nil =>
    rw [df_nil hdf]
    cases pn with
    | none =>
      simp only at hu
      subst hu
      obtain ⟨u, hu, hcr⟩ := ret_ok h hM ht
      exact ⟨u, hu, hR _ _ hcr⟩
    | some v =>
      obtain ⟨x, hx, hv⟩ := hu
      subst hx
      exact hR _ _ ⟨G, M, hM, Stp.refl _ _ _ _, v, x, rfl, hv, h⟩
  | cons fa r =>
    obtain ⟨f, args⟩ := fa
    cases cs with
    | nil => exact hdf.elim
    | cons d cs =>
      obtain ⟨hd1, hdf⟩ := hdf
      have hrun : u ≠ .run := by
        cases pn with
        | none => simp only at hu; subst hu; simp
        | some v => obtain ⟨x, hx, _⟩ := hu; subst hx; simp
      rcases hd1 with ⟨fn0, first, cap, vf, vc, va, hf, h1, h2, h3, hd⟩ | ⟨b, g, hf, hg, hd⟩
      case inr =>
        subst hf
        subst hd
        simp only at h
        split at h
        · rename_i hb
          obtain ⟨g', hg', hor⟩ := hM.ob b _ hb
          rw [hg] at hg'; cases hg'
          have hk := hM.kill (w' := w.putObj g.blk (.deferred none)) hb hg rfl trivial rfl rfl rfl (by simp) putObj_keep
          exact ⟨hrun, .inl ⟨g.blk, _, rfl, run_takeDeferred hor, idef fn r pn F _ k G _ tmps cs u R h hk.1 ht hdf hu fun e w2 hcr => hR _ _ (hcr.from hk.2)⟩⟩
        · exact h.elim
      subst hf
      subst hd
      simp only at h
      split at h
      · rename_i fid first' cap' heq
        cases heq
        split at h
        · rename_i fn' hfn
          split at h
          · rename_i c hc
            cases hle : Nat.ble (first ++ args ++ cap).length fn'.ntmps with
            | false => rw [hle] at h; exact h.elim
            | true =>
              rw [hle] at h
              simp only [cond_true] at h
              have hn := Nat.le_of_ble_eq_true hle
              split at h
              · rename_i t0 e2
                split at h
                · rename_i tm htm
                  split at h
                  · rename_i dd rest hrec
                    have hv : VRs ρ G (first ++ args ++ cap) (vf ++ va ++ vc) := (h1.append h3).append h2
                    have hFr := enter_ok (ρ := ρ) (G := G) e2 htm hn hv
                    refine ⟨hrun, .inr ⟨(fun h => by cases h), _, _, _, _, rfl, call_run hname hfn (by rw [hc]; rfl) _ w, (fun f' hf' _ => by cases hf'; exact ⟨fn', hfn⟩), callsDIn_of_wpSIn hfn hc (fun _ => ⟨fn', hfn⟩) fun c₀ cs0 hc0 => ?_⟩⟩
                    unfold recovers at hrec
                    split at hrec
                    · rename_i id ops rst
                      split at hrec
                      · rename_i d1 call ty pos aft hops
                        cases hrec
                        obtain ⟨G', g1, g2, g3, g4, g5⟩ := put_get h
                        have fin : ∀ (u' : FrameMode) (aa : Act), settle u' = .returning → FR ρ G G' aa → rest.wpSIn (Fx X.E X.P none) 0 X.P (bodyPostS X.P fn' c₀ cs0 fun e u'' w' => match e with
                            | .returned _ => LeavesInM (Fx X.E X.P none) 0 X.P fn tmps R cs (settle u'') w'
                            | .panicked chain => LeavesInM (Fx X.E X.P none) 0 X.P fn tmps R cs (raised u'' chain) w'
                            | .outgrown => R .outgrown w') aa ({ c₀ with mode := u' } :: cs0) w := by
                          intro u' aa hset hFa
                          refine wpSIn_of_wpIn rfl (icode none rest G' M _ G aa w _ (.inl rfl) g1 hM hFa fun e a' w' hr => ?_)
                          obtain ⟨z, F', G2, M', k1, k2, k3, k4, k5⟩ := hr
                          have key : (match F'.df with
                              | [] => resultsA X.P F' M' fn'.results.toList fun _ M => run n X (.defers fn r none) F M k
                              | _ => .fail 50).sat Q ρ → a'.defers = [] ∧ ∃ u'', { c₀ with mode := u' } :: cs0 = { c₀ with mode := u'' } :: cs0 ∧ ∃ v, (results fn' a'.tmps).run X.P w' = .ok v w' ∧ LeavesInM (Fx X.E X.P none) 0 X.P fn tmps R cs (settle u'') w' := by
                            intro k5
                            have hd2 := k2.df
                            split at k5
                            · rename_i hd
                              rw [hd] at hd2
                              obtain ⟨vs, us, p, l1, l2, l3, l4⟩ := results_sat fn'.results.toList k5 k3 k2.slot
                              refine ⟨df_nil hd2, u', rfl, _, results_run l4, ?_⟩
                              rw [hset]
                              exact idef fn r none F _ k G2 w' tmps cs .returning R l1 (k3.pcs l2) (fun t => (ht t).mono k4.gh) (hdf.mono k4.gh) rfl fun e w2 hcr => hR _ _ (hcr.from (k4.trans (Stp.learn M' w' p)))
                            · exact k5.elim
                          cases z with
                          | norm =>
                            cases e with
                            | normal => exact key k5
                            | _ => exact k1.elim
                          | ret =>
                            cases e with
                            | ret => exact key k5
                            | _ => exact k1.elim
                          | _ => exact k5.elim
                        refine wpSIn_seq (wpSIn_region ?_)
                        have hsz : ops = #[{ dst := dd, op := .call { callee := .builtin .recover, args := d1, argTypes := call }, type := ty, pos := pos, after := aft, guard := none }] := by
                          rw [← Array.toArray_toList (xs := ops), hops]
                        subst hsz
                        simp only [List.size_toArray, List.length_cons, List.length_nil, Nat.zero_add, show List.range 1 = [0] from rfl, wpOpsSIn, List.getElem?_toArray, List.getElem?_cons_zero, Region.wanted, if_true]
                        have hex : ∀ (f : Operand → Value) (o : Oper) (ar : Array Operand) (ats : Array TypeId), o.op = .call { callee := .builtin .recover, args := ar, argTypes := ats } → (execOp f o).run X.P w = .ok .recover w := fun f o ar ats ho => by
                          unfold execOp; rw [ho]; rfl
                        refine ⟨fun f hf => (by rw [about_no (fun c hc => by cases hc; exact ⟨_, rfl⟩)] at hf; cases hf), ?_⟩
                        rw [hex _ _ _ _ rfl]
                        simp only
                        cases pn with
                        | none =>
                          simp only at hu
                          subst hu
                          have : recoverD (c₀ :: cs0) = none := by simp [recoverD, hc0]
                          rw [this]
                          have := fin c₀.mode _ (by rw [hc0]; rfl) (hFr.putS (v := .nili) (u := .nilIface) (d := dd) .nili g2 g3 g4 g5)
                          exact this
                        | some v =>
                          obtain ⟨x, hx, hv⟩ := hu
                          subst hx
                          have : recoverD (c₀ :: cs0) = some (x, { c₀ with mode := .panicking [{ v := x, recovered := true }] } :: cs0) := by simp [recoverD, hc0]
                          rw [this]
                          exact fin _ _ rfl (hFr.putS (v := v) (u := x) (d := dd) hv g2 g3 g4 g5)
                      · cases hrec
                    · cases hrec
                  · exact h.elim
                · exact h.elim
              · exact h.elim
          · exact h.elim
        · exact h.elim
      · rename_i heq
        cases heq
      · exact h.elim
end
end Go.Proofs.YtkfjgggiopegbaaDoor
namespace Go.Proofs.YtkfjgggiopegbaaDoor
open Go.RowKit
theorem hget_filter (f : Nat → Bool) (hp : List (Nat × Ob)) (b : Nat) : hget (hp.filter fun p => f p.1) b = if f b = true then hget hp b else none := by
  induction hp with
  | nil => simp [hget_nil]
  | cons p r ih =>
    obtain ⟨c, o⟩ := p
    simp only [List.filter_cons]
    by_cases hc : f c = true
    · rw [if_pos hc]
      simp only [hget_cons]
      by_cases hcb : c = b
      · subst hcb; rw [if_pos rfl, if_pos hc, if_pos rfl]
      · rw [if_neg hcb, if_neg hcb, ih]
    · rw [if_neg hc]
      simp only [hget_cons]
      by_cases hcb : c = b
      · subst hcb; rw [ih, if_neg hc, if_neg hc]
      · rw [if_neg hcb, ih]
theorem hget_happ (x y : List (Nat × Ob)) (b : Nat) : hget (happ x y) b = match hget x b with | some o => some o | none => hget y b := by
  induction x with
  | nil => rfl
  | cons p r ih =>
    obtain ⟨c, o⟩ := p
    show hget (hset (happ r y) c o) b = _
    rw [hget_hset, ih, hget_cons]
    by_cases h : b = c
    · rw [if_pos h, if_pos h.symm]
    · rw [if_neg h, if_neg (Ne.symm h)]
theorem blank_get : ∀ (ds : List Tmp) (t t' : Tr), blank t ds = some t' → ∀ m, t'.get m = if m ∈ ds then some .any else t.get m
  | [], t, t', h, m => by cases h; simp
  | d :: r, t, t', h, m => by
    unfold blank at h
    split at h
    · rename_i t1 h1
      rw [blank_get r t1 t' h m]
      by_cases hr : m ∈ r
      · rw [if_pos hr, if_pos (List.mem_cons_of_mem _ hr)]
      · rw [if_neg hr, Tr.get_put _ _ _ _ h1]
        by_cases hm : m = d
        · rw [if_pos hm, if_pos (by rw [hm]; exact List.mem_cons_self ..)]
        · rw [if_neg hm, if_neg (by simp [hm, hr])]
    · cases h
theorem mem_dsts {ops : Array Oper} {p : Nat → Bool} {d : Tmp} : d ∈ dsts ops p ↔ ∃ i o, ops[i]? = some o ∧ p i = true ∧ o.dst = some d := by
  unfold dsts
  simp only [List.mem_filterMap, List.mem_filter]
  constructor
  · rintro ⟨⟨o, i⟩, ⟨h1, h2⟩, h3⟩
    rw [List.mem_zipIdx_iff_getElem?] at h1
    exact ⟨i, o, by simpa using h1, h2, h3⟩
  · rintro ⟨i, o, h1, h2, h3⟩
    exact ⟨(o, i), ⟨by rw [List.mem_zipIdx_iff_getElem?]; simpa using h1, h2⟩, h3⟩
structure Tidy (ops : Array Oper) (b : Array Nat) : Prop where
  uniq : ∀ (i j : Nat) (oi oj : Oper) (d : Tmp), ops[i]? = some oi → ops[j]? = some oj → oi.dst = some d → oj.dst = some d → i = j
  side : ∀ (i j : Nat) (oi oj : Oper) (d : Tmp), ops[i]? = some oi → ops[j]? = some oj → oj.dst = some d → d ∈ tmpsOf ops oi → (b.getD i 0).testBit j = true ∨ (b.getD j 0).testBit i = true ∨ i = j
  sideL : ∀ (i j : Nat) (oi oj : Oper) (d : Tmp), ops[i]? = some oi → ops[j]? = some oj → oj.dst = some d → d ∈ tmpsOf ops oi → kindOf oi = .l → (b.getD i 0).testBit j = true
  ready : ∀ (i : Nat) (o : Oper), ops[i]? = some o → ∀ (S : Nat → Bool), (∀ j, S j = true → ∀ k, (b.getD j 0).testBit k = true → S k = true) → (∀ e ∈ o.after.toList, Region.binds .any e = true → S e.on = true) → ∀ k, (b.getD i 0).testBit k = true → S k = true
  back : ∀ (i : Nat) (o : Oper), ops[i]? = some o → ∀ e ∈ o.after.toList, Region.binds .any e = true → e.on < i
theorem fold_bits (b : Array Nat) (S : Nat → Bool) (hS : ∀ j, S j = true → ∀ k, (b.getD j 0).testBit k = true → S k = true) : ∀ (es : List Edge) (u : Nat), (∀ e ∈ es, Region.binds .any e = true → S e.on = true) → (∀ k, u.testBit k = true → S k = true) →
    ∀ k, (es.foldl (fun u e => bif Region.binds .any e then Nat.lor u (Nat.lor (2 ^ e.on) (b.getD e.on 0)) else u) u).testBit k = true → S k = true
  | [], u, h, hu => hu
  | e :: r, u, h, hu => by
    rw [List.foldl_cons]
    refine fold_bits b S hS r _ (fun e' he' => h e' (List.mem_cons_of_mem _ he')) fun k hk => ?_
    cases hb : Region.binds .any e with
    | false => rw [hb] at hk; exact hu k hk
    | true =>
      rw [hb] at hk
      simp only [cond_true] at hk
      have hk' : (u ||| (2 ^ e.on ||| b.getD e.on 0)).testBit k = true := hk
      rw [Nat.testBit_or, Nat.testBit_or, Nat.testBit_two_pow] at hk'
      have hon := h e (List.mem_cons_self ..) hb
      simp only [Bool.or_eq_true, decide_eq_true_eq] at hk'
      rcases hk' with h1 | h1 | h1
      · exact hu k h1
      · rw [← h1]; exact hon
      · exact hS _ hon k h1
theorem tidy_ok {ops : Array Oper} {b : Array Nat} (h : tidy ops b = true) : Tidy ops b := by
  unfold tidy at h
  split at h
  · rename_i W hW
    unfold tidyB at h
    have at' : ∀ i o, ops[i]? = some o → (match o.dst with | none => true | some d => (match W.get d with | some (.ptr j _) => Nat.beq i j | _ => false)) = true ∧
        ((tmpsOf ops o).all fun t => match W.get t with | none => true | some (.ptr j _) => (b.getD i 0).testBit j || (!decide (kindOf o = .l) && ((b.getD j 0).testBit i || Nat.beq i j)) | _ => false) = true ∧
        b.getD i 0 = (o.after.toList.foldl (fun u e => bif Region.binds .any e then Nat.lor u (Nat.lor (2 ^ e.on) (b.getD e.on 0)) else u) 0) ∧
        ∀ e ∈ o.after.toList, (!Region.binds .any e || Nat.blt e.on i) = true := by
      intro i o hi
      have := List.all_eq_true.1 h (o, i) (by rw [List.mem_zipIdx_iff_getElem?]; simpa using hi)
      simp only [Bool.and_eq_true, beq_iff] at this
      exact ⟨this.1.1.1, this.1.1.2, this.1.2, List.all_eq_true.1 this.2⟩
    have hW : ∀ i o d, ops[i]? = some o → o.dst = some d → ∃ x, W.get d = some (.ptr i x) := by
      intro i o d hi hd
      have h1 := (at' i o hi).1
      rw [hd] at h1
      simp only at h1
      split at h1
      · rename_i j x hj
        rw [(beq_iff _ _).1 h1]
        exact ⟨x, hj⟩
      · cases h1
    refine ⟨fun i j oi oj d h1 h2 h3 h4 => ?_, fun i j oi oj d h1 h2 h3 h4 => ?_, fun i j oi oj d h1 h2 h3 h4 hl => ?_, fun i o hi S hS he k hk => ?_, fun i o hi e he hb => ?_⟩
    · obtain ⟨x, hx⟩ := hW i oi d h1 h3
      obtain ⟨y, hy⟩ := hW j oj d h2 h4
      rw [hx] at hy; cases hy; rfl
    · obtain ⟨y, hy⟩ := hW j oj d h2 h3
      have := List.all_eq_true.1 (at' i oi h1).2.1 d h4
      rw [hy] at this
      simp only [Bool.or_eq_true, Bool.and_eq_true, beq_iff] at this
      exact this.imp id (·.2)
    · obtain ⟨y, hy⟩ := hW j oj d h2 h3
      have := List.all_eq_true.1 (at' i oi h1).2.1 d h4
      rw [hy] at this
      simpa [hl] using this
    · rw [(at' i o hi).2.2.1] at hk
      exact fold_bits b S hS o.after.toList 0 he (fun k hk => by simp at hk) k hk
    · have := (at' i o hi).2.2.2 e he
      rw [hb] at this
      simp only [Bool.not_true, Bool.false_or] at this
      exact Nat.le_of_ble_eq_true this
  · cases h
def Valid (ops : Array Oper) (b : Array Nat) : List Nat → Prop
  | [] => True
  | i :: r => (∀ j ∈ i :: r, (b.getD i 0).testBit j = false) ∧ i ∉ r ∧ (isH ops i = true → ∀ j ∈ r, (b.getD j 0).testBit i = true) ∧ Valid ops b r
theorem validB_ok (ops : Array Oper) (b : Array Nat) : ∀ (l : List Nat) (rem : Nat), validB ops b rem l = true → Valid ops b l ∧ ∀ j, rem.testBit j = true ↔ j ∈ l
  | [], rem, h => by
    have : rem = 0 := (beq_iff _ _).1 h
    subst this
    exact ⟨trivial, fun j => by simp⟩
  | i :: r, rem, h => by
    simp only [validB, Bool.and_eq_true, beq_iff] at h
    obtain ⟨⟨⟨h1, h2⟩, h4⟩, h3⟩ := h
    obtain ⟨v, m⟩ := validB_ok ops b r _ h3
    have m' : ∀ j, (rem.testBit j ^^ decide (i = j)) = true ↔ j ∈ r := fun j => by
      rw [← m j]
      have : (rem ^^^ 2 ^ i).testBit j = (rem.testBit j ^^ (2 ^ i).testBit j) := Nat.testBit_xor ..
      rw [show Nat.xor rem (2 ^ i) = rem ^^^ 2 ^ i from rfl, this, Nat.testBit_two_pow]
    have hir : i ∉ r := fun hr => by
      have := (m' i).2 hr
      rw [h2] at this
      simp at this
    have mm : ∀ j, rem.testBit j = true ↔ j ∈ i :: r := fun j => by
      rw [List.mem_cons]
      by_cases hj : i = j
      · subst hj; simp [h2]
      · rw [← m' j]
        simp [hj, Ne.symm hj]
    refine ⟨⟨fun j hj => ?_, hir, fun hh j hj => ?_, v⟩, mm⟩
    · have : (b.getD i 0 &&& rem).testBit j = false := by rw [show b.getD i 0 &&& rem = Nat.land (b.getD i 0) rem from rfl, h1]; simp
      rw [Nat.testBit_and, (mm j).2 hj] at this
      simpa using this
    · rw [hh] at h4
      simp only [Bool.not_true, Bool.false_or] at h4
      exact List.all_eq_true.1 h4 j hj
section
variable {P : Program} {ρ : Env} {G G' G0 : Gh} {M M0 : Me} {w w0 : World}
theorem MR.hpc {hp : List (Nat × Ob)} {p : PC} (h : MR ρ G M w) (hh : ∀ b, hget hp b = hget M.hp b) (hp' : holdsAll ρ p) : MR ρ G { M with hp, pc := p } w :=
  ⟨hp', h.fresh, fun b o hb => h.ob b o (by rw [← hh]; exact hb), fun b o c p g y hb hc => h.apart b o c p g y (by rw [← hh]; exact hb) (by rw [← hh]; exact hc),
    fun c p y k hc hy hk => ⟨(h.sub c p y k (by rw [← hh]; exact hc) hy hk).1, fun ⟨b, o, g, h1, h2⟩ => (h.sub c p y k (by rw [← hh]; exact hc) hy hk).2 ⟨b, o, g, by rw [← hh]; exact h1, h2⟩⟩⟩
theorem Stp.hpc {hp : List (Nat × Ob)} {p : PC} (h : Stp ρ G0 M0 w0 G M w) (hh : ∀ b, hget hp b = hget M.hp b) : Stp ρ G0 M0 w0 G { M with hp, pc := p } w :=
  ⟨h.gh, h.os, h.tape, h.output, h.size, h.keep, fun k ⟨b, o, g, h1, h2⟩ hk => h.mine k ⟨b, o, g, by rw [← hh]; exact h1, h2⟩ hk, h.nb, h.old, fun k ⟨b, o, g, h1, h2⟩ hk => h.seen k ⟨b, o, g, by rw [← hh]; exact h1, h2⟩ hk⟩
def inS (D : Dr) (S : Nat → Bool) (b : Nat) : Bool := Nat.blt b D.q || Nat.ble (D.q + D.ops.size) b || S (b - D.q)
def live (D : Dr) (S : Nat → Bool) (hp : List (Nat × Ob)) : List (Nat × Ob) := hp.filter fun p => inS D S p.1
theorem hget_live (D : Dr) (S : Nat → Bool) (hp : List (Nat × Ob)) (b : Nat) : hget (live D S hp) b = if inS D S b = true then hget hp b else none := hget_filter (inS D S) hp b
theorem inS_at {D : Dr} {S : Nat → Bool} {i : Nat} (hi : i < D.ops.size) : inS D S (D.q + i) = S i := by
  have h1 : Nat.blt (D.q + i) D.q = false := by
    cases h : Nat.blt (D.q + i) D.q with
    | false => rfl
    | true => have := Nat.le_of_ble_eq_true h; omega
  have h2 : Nat.ble (D.q + D.ops.size) (D.q + i) = false := by
    cases h : Nat.ble (D.q + D.ops.size) (D.q + i) with
    | false => rfl
    | true => have := Nat.le_of_ble_eq_true h; omega
  unfold inS
  rw [h1, h2, Nat.add_sub_cancel_left]
  simp
theorem inS_out {D : Dr} {S : Nat → Bool} {b : Nat} (h : inS D S b = false) : ∃ i, i < D.ops.size ∧ b = D.q + i ∧ S i = false := by
  unfold inS at h
  simp only [Bool.or_eq_false_iff] at h
  obtain ⟨⟨h1, h2⟩, h3⟩ := h
  have a1 : ¬ b < D.q := fun hh => by
    have : Nat.blt b D.q = true := Nat.ble_eq_true_of_le hh
    rw [this] at h1; cases h1
  have a2 : ¬ D.q + D.ops.size ≤ b := fun hh => by
    have : Nat.ble (D.q + D.ops.size) b = true := Nat.ble_eq_true_of_le hh
    rw [this] at h2; cases h2
  exact ⟨b - D.q, by omega, by omega, h3⟩
def Pend (P : Program) (ρ : Env) (D : Dr) (F0 F : Fr) (hp : List (Nat × Ob)) (i : Nat) (o : Oper) : Prop :=
  ∃ (Fi : Fr) (v : AV) (ob : Option Ob), (∀ t ∈ tmpsOf D.ops o, (Fi.tm.get t = F.tm.get t ∧ ∀ j oj, D.ops[j]? = some oj → oj.dst = some t → (D.b.getD i 0).testBit j = true) ∨ (Fi.tm.get t = F0.tm.get t ∧ ∀ j oj, D.ops[j]? = some oj → oj.dst = some t → (D.b.getD j 0).testBit i = true ∨ j = i)) ∧
    ((Guards ρ D.ops Fi o false ∧ v = undefA ∧ ob = none) ∨ (Guards ρ D.ops Fi o true ∧ Lit P ρ Fi (hpOf o hp) o (D.q + i) v ob)) ∧
    (∀ d, o.dst = some d → F.tm.get d = some v ∧ d < F.n) ∧ hget hp (D.q + i) = ob ∧ (kindOf o = .l → ob = none)
structure DI (P : Program) (ρ : Env) (D : Dr) (F0 : Fr) (todo : List Nat) (F : Fr) (M : Me) (S : Nat → Bool) (G : Gh) (a : Act) (w : World) (G0 : Gh) (M0 : Me) (w0 : World) : Prop where
  valid : Valid D.ops D.b todo
  lt : ∀ i ∈ todo, i < D.ops.size
  SN : ∀ i, S i = true → i < D.ops.size
  downS : ∀ i, S i = true → ∀ j, (D.b.getD i 0).testBit j = true → S j = true
  downD : ∀ i, i < D.ops.size → i ∉ todo → ∀ j, (D.b.getD i 0).testBit j = true → j ∉ todo
  SD : ∀ i ∈ todo, S i = false
  heavyS : ∀ i, i < D.ops.size → i ∉ todo → isH D.ops i = true → S i = true
  pend : ∀ i o, D.ops[i]? = some o → i ∉ todo → S i = false → Pend P ρ D F0 F M.hp i o
  unk : ∀ i ∈ todo, ∀ o d, D.ops[i]? = some o → o.dst = some d → F.tm.get d = F0.tm.get d
  lay : ∀ i ∈ todo, hget M.hp (D.q + i) = none
  size : a.tmps.size = F.n
  df : DfR ρ G F.df a.defers
  slot : ∀ t, (∀ i o, D.ops[i]? = some o → o.dst = some t → S i = true ∨ i ∈ todo) → VR ρ G ((F.tm.get t).getD .any) (a.tmps.getD t undef)
  slot0 : ∀ t, (∀ i o, D.ops[i]? = some o → o.dst = some t → S i = false) → VR ρ G ((F0.tm.get t).getD .any) (a.tmps.getD t undef)
  mem : MR ρ G { M with hp := live D S M.hp } w
  noG : ∀ i, i < D.ops.size → S i = false → G (D.q + i) = none
  nbq : D.q + D.ops.size ≤ M.nb
  q0 : M0.nb ≤ D.q
  base : Stp ρ G0 M0 w0 G { M with hp := live D S M.hp } w
variable {D : Dr} {todo : List Nat} {F0 F : Fr} {S : Nat → Bool} {a : Act}
theorem oper_lt {D : Dr} {i : Nat} {o : Oper} (h : D.ops[i]? = some o) : i < D.ops.size := (Array.getElem?_eq_some_iff.1 h).1
theorem Pend.keep {F2 : Fr} {hp hp2 : List (Nat × Ob)} {i : Nat} {o : Oper} (h : Pend P ρ D F0 F hp i o) (hi : D.ops[i]? = some o) (hn : F2.n = F.n) (hit : i ∉ todo) (hd : ∀ j, (D.b.getD i 0).testBit j = true → j ∉ todo) (T : Tidy D.ops D.b)
    (hF : ∀ t, F2.tm.get t = F.tm.get t ∨ ∃ j ∈ todo, ∃ oj, D.ops[j]? = some oj ∧ oj.dst = some t) (hlit : ∀ Fi v ob, Lit P ρ Fi (hpOf o hp) o (D.q + i) v ob → Lit P ρ Fi (hpOf o hp2) o (D.q + i) v ob) (hlay : hget hp2 (D.q + i) = hget hp (D.q + i)) : Pend P ρ D F0 F2 hp2 i o := by
  obtain ⟨Fi, v, ob, h1, h2, h3, h4, h5⟩ := h
  have hdst : ∀ d, o.dst = some d → F2.tm.get d = F.tm.get d := fun d hd' => by
    rcases hF d with h | ⟨j, hj, oj, hoj, hdj⟩
    · exact h
    · exact absurd (T.uniq i j o oj d hi hoj hd' hdj ▸ hj) hit
  refine ⟨Fi, v, ob, fun t ht => ?_, h2.imp id (fun h => ⟨h.1, hlit _ _ _ h.2⟩), fun d hd' => by rw [hdst d hd', hn]; exact h3 d hd', hlay.trans h4, h5⟩
  rcases h1 t ht with ⟨h, hw⟩ | h
  · rcases hF t with h' | ⟨j, hj, oj, hoj, hdj⟩
    · exact .inl ⟨h.trans h'.symm, hw⟩
    · exact absurd hj (hd j (hw j oj hoj hdj))
  · exact .inr h
theorem DI.pass {i : Nat} {r : List Nat} {o : Oper} {F2 : Fr} {v : AV} {ob : Option Ob} {p : PC} (h : DI P ρ D F0 (i :: r) F M S G a w G0 M0 w0) (T : Tidy D.ops D.b) (hi : D.ops[i]? = some o) (hk : kindOf o ≠ .h)
    (hn : F2.n = F.n) (hdf : F2.df = F.df) (ht : ∀ t, F2.tm.get t = if o.dst = some t then some v else F.tm.get t) (hlt : ∀ t, o.dst = some t → t < F.n) (hp : holdsAll ρ p)
    (hold : (Guards ρ D.ops F o false ∧ v = undefA ∧ ob = none) ∨ (Guards ρ D.ops F o true ∧ Lit P ρ F (hpOf o M.hp) o (D.q + i) v ob ∧ (kindOf o = .l → ob = none))) :
    DI P ρ D F0 r F2 { layA M (D.q + i) ob with pc := p } S G a w G0 M0 w0 := by
  obtain ⟨hv1, hir, _, hv2⟩ := h.valid
  have hiN := oper_lt hi
  have hSi := h.SD i (List.mem_cons_self ..)
  have hiL := h.lay i (List.mem_cons_self ..)
  have hhp : ∀ b, hget (layA M (D.q + i) ob).hp b = if b = D.q + i then ob else hget M.hp b := fun b => by
    cases ob with
    | none =>
      show hget M.hp b = _
      split
      · rename_i e; rw [e]; exact hiL
      · rfl
    | some x => exact hget_hset M.hp _ x b
  have hlive : ∀ b, hget (live D S (layA M (D.q + i) ob).hp) b = hget (live D S M.hp) b := fun b => by
    rw [hget_live, hget_live]
    split
    · rename_i hin
      rw [hhp, if_neg]
      intro e
      rw [e, inS_at hiN, hSi] at hin
      cases hin
    · rfl
  have hnb : (layA M (D.q + i) ob).nb = M.nb := by cases ob <;> rfl
  have hnv : (layA M (D.q + i) ob).nv = M.nv := by cases ob <;> rfl
  have hne : ∀ j ∈ r, j ≠ i := fun j hj e => hir (e ▸ hj)
  have hF : ∀ t, F2.tm.get t = F.tm.get t ∨ ∃ j ∈ i :: r, ∃ oj, D.ops[j]? = some oj ∧ oj.dst = some t := fun t => by
    rw [ht]
    split
    · rename_i e; exact .inr ⟨i, List.mem_cons_self .., o, hi, e⟩
    · exact .inl rfl
  refine ⟨hv2, fun j hj => h.lt j (List.mem_cons_of_mem _ hj), h.SN, h.downS, fun j hj hjr k hk => ?_, fun j hj => h.SD j (List.mem_cons_of_mem _ hj), fun j hj hjr hh => ?_, fun j oj hj hjr hSj => ?_, fun j hj oj d hoj hd => ?_, fun j hj => ?_, by rw [hn]; exact h.size, by rw [hdf]; exact h.df, fun t hc => ?_, h.slot0, ?_, h.noG, by show _ ≤ (layA M (D.q + i) ob).nb; rw [hnb]; exact h.nbq, h.q0, ?_⟩
  · by_cases hji : j = i
    · subst hji
      intro hkr
      rw [hv1 k (List.mem_cons_of_mem _ hkr)] at hk; cases hk
    · exact fun hkr => h.downD j hj (by simp [hji, hjr]) k hk (List.mem_cons_of_mem _ hkr)
  · by_cases hji : j = i
    · subst hji
      unfold isH at hh
      rw [hi] at hh
      simp only [decide_eq_true_eq] at hh
      exact absurd hh hk
    · exact h.heavyS j hj (by simp [hji, hjr]) hh
  · by_cases hji : j = i
    · subst hji
      rw [hi] at hj; cases hj
      refine ⟨F, v, ob, fun t htm => ?_, ?_, fun d hd => ⟨by rw [ht, if_pos hd], by rw [hn]; exact hlt d hd⟩, by show hget (layA M (D.q + j) ob).hp (D.q + j) = ob; rw [hhp, if_pos rfl], fun hkl => by rcases hold with ⟨_, _, h⟩ | ⟨_, _, h⟩; exact h; exact h hkl⟩
      · by_cases hw : ∀ k ok, D.ops[k]? = some ok → ok.dst = some t → (D.b.getD j 0).testBit k = true
        · refine .inl ⟨?_, hw⟩
          rw [ht, if_neg]
          intro e
          have := hw j o hi e
          rw [hv1 j (List.mem_cons_self ..)] at this; cases this
        · -- its writer comes later
          obtain ⟨k, ok, hk', hd, hb⟩ : ∃ k ok, D.ops[k]? = some ok ∧ ok.dst = some t ∧ (D.b.getD j 0).testBit k = false := by
            apply Classical.byContradiction
            intro hc
            refine hw fun k ok hk' hd => ?_
            cases hb : (D.b.getD j 0).testBit k with
            | true => rfl
            | false => exact absurd ⟨k, ok, hk', hd, hb⟩ hc
          have hside : (D.b.getD k 0).testBit j = true ∨ k = j := by
            rcases T.side j k o ok t hi hk' hd htm with h' | h' | h'
            · rw [h'] at hb; cases hb
            · exact .inl h'
            · exact .inr h'.symm
          have hkt : k ∈ j :: r := by
            rcases hside with h' | h'
            · apply Classical.byContradiction
              intro hkt
              exact h.downD k (oper_lt hk') hkt j h' (List.mem_cons_self ..)
            · rw [h']; exact List.mem_cons_self ..
          refine .inr ⟨h.unk k hkt ok t hk' hd, fun k2 ok2 hk2 hd2 => ?_⟩
          rw [T.uniq k2 k ok2 ok t hk2 hk' hd2 hd]
          exact hside
      · rcases hold with hs | ⟨g, hl, hkl⟩
        · exact .inl hs
        · refine .inr ⟨g, ?_⟩
          by_cases hkd : kindOf o = .l
          · have : ob = none := hkl hkd
            subst this
            exact hl
          · rw [hpOf, if_neg hkd] at hl ⊢
            exact hl
    · have hjt : j ∉ i :: r := by simp [hji, hjr]
      refine (h.pend j oj hj hjt hSj).keep (todo := i :: r) hj hn hjt (h.downD j (oper_lt hj) hjt) T hF (fun Fi v' ob' hl => ?_) ?_
      · refine hl.mono fun b x hb => ?_
        unfold hpOf at hb ⊢
        split at hb
        · rename_i hkd
          rw [if_pos hkd]
          show hget (layA M (D.q + i) ob).hp b = some x
          rw [hhp, if_neg]
          · exact hb
          · intro e; rw [e, hiL] at hb; cases hb
        · simp [hget_nil] at hb
      · show hget (layA M (D.q + i) ob).hp _ = _
        rw [hhp, if_neg (by omega)]
  · rw [ht, if_neg]
    · exact h.unk j (List.mem_cons_of_mem _ hj) oj d hoj hd
    · intro e
      exact hne j hj (T.uniq j i oj o d hoj hi hd e)
  · show hget (layA M (D.q + i) ob).hp (D.q + j) = none
    rw [hhp, if_neg (by have := hne j hj; omega)]
    exact h.lay j (List.mem_cons_of_mem _ hj)
  · have hni : o.dst ≠ some t := fun e => by
      rcases hc i o hi e with h' | h'
      · rw [hSi] at h'; cases h'
      · exact hir h'
    rw [ht, if_neg hni]
    exact h.slot t fun k ok hk' hd => (hc k ok hk' hd).imp id (List.mem_cons_of_mem _)
  · have := h.mem.hpc (hp := live D S (layA M (D.q + i) ob).hp) hlive hp
    rw [show ({ layA M (D.q + i) ob with pc := p, hp := live D S (layA M (D.q + i) ob).hp } : Me) = { M with hp := live D S (layA M (D.q + i) ob).hp, pc := p } by cases ob <;> rfl]
    exact this
  · have := h.base.hpc (hp := live D S (layA M (D.q + i) ob).hp) (p := p) hlive
    rw [show ({ layA M (D.q + i) ob with pc := p, hp := live D S (layA M (D.q + i) ob).hp } : Me) = { M with hp := live D S (layA M (D.q + i) ob).hp, pc := p } by cases ob <;> rfl]
    exact this
end
end Go.Proofs.YtkfjgggiopegbaaDoor
namespace Go.Proofs.YtkfjgggiopegbaaDoor
open Go.RowKit
section
variable {E : Bool} {rd : Option Nat} {P : Program} {X : Cx} {ρ : Env} {Q : Lf → Prop} {G G' G0 : Gh} {M M0 : Me} {w w0 : World} {D : Dr} {todo : List Nat} {F0 F : Fr} {S : Nat → Bool} {a : Act}
def Rest (D : Dr) (todo : List Nat) : Prop := todo = [] ∨ ∃ h r, todo = h :: r ∧ isH D.ops h = true
theorem pass_all (Td : Tidy D.ops D.b) {k : Lf → T} : ∀ (todo : List Nat) (m : Nat) (F : Fr) (M : Me), (run m X (.draw D todo) F M k).sat Q ρ → DI X.P ρ D F0 todo F M S G a w G0 M0 w0 →
    ∃ m' todo' F' M', m' ≤ m ∧ (run m' X (.draw D todo') F' M' k).sat Q ρ ∧ DI X.P ρ D F0 todo' F' M' S G a w G0 M0 w0 ∧ Rest D todo'
  | [], m, F, M, h, d => ⟨m, [], F, M, Nat.le_refl _, h, d, .inl rfl⟩
  | i :: r, 0, F, M, h, d => by rw [run_zero] at h; exact h.elim
  | i :: r, m + 1, F, M, h, d => by
    cases hh : isH D.ops i with
    | true => exact ⟨m + 1, i :: r, F, M, Nat.le_refl _, h, d, .inr ⟨i, r, rfl, hh⟩⟩
    | false =>
      have hlt := d.lt i (List.mem_cons_self ..)
      obtain ⟨o, ho⟩ : ∃ o, D.ops[i]? = some o := ⟨_, Array.getElem?_eq_getElem hlt⟩
      have hk : kindOf o ≠ .h := fun e => by
        unfold isH at hh
        rw [ho] at hh
        simp [e] at hh
      rw [run_succ] at h
      simp only at h
      rw [ho] at h
      simp only at h
      have key : (guardA D.ops F o M
            (fun M => lightA X.P F o (D.q + i) M fun v ob M => F.put o.dst v fun F => run m X (.draw D r) F (layA M (D.q + i) ob) k)
            (fun M => F.put o.dst undefA fun F => run m X (.draw D r) F M k)).sat Q ρ → ∃ m' todo' F' M', m' ≤ m + 1 ∧ (run m' X (.draw D todo') F' M' k).sat Q ρ ∧ DI X.P ρ D F0 todo' F' M' S G a w G0 M0 w0 ∧ Rest D todo' := by
        intro h
        obtain ⟨p, hp, hg⟩ := guard_sat h d.mem.pc
        have fin : ∀ (v : AV) (ob : Option Ob) (p : PC), holdsAll ρ p → (F.put o.dst v fun F => run m X (.draw D r) F { layA M (D.q + i) ob with pc := p } k).sat Q ρ → ((Guards ρ D.ops F o false ∧ v = undefA ∧ ob = none) ∨ (Guards ρ D.ops F o true ∧ Lit X.P ρ F (hpOf o M.hp) o (D.q + i) v ob ∧ (kindOf o = .l → ob = none))) →
            ∃ m' todo' F' M', m' ≤ m + 1 ∧ (run m' X (.draw D todo') F' M' k).sat Q ρ ∧ DI X.P ρ D F0 todo' F' M' S G a w G0 M0 w0 ∧ Rest D todo' := by
          intro v ob p hp h hold
          obtain ⟨F2, g1, g2, g3, g4, g5⟩ := put_get h
          obtain ⟨m', todo', F', M', hm, hs, hd, hr⟩ := pass_all Td r m F2 _ g1 (d.pass Td ho hk g2 g3 g4 g5 hp hold)
          exact ⟨m', todo', F', M', by omega, hs, hd, hr⟩
        rcases hg with ⟨h, hg⟩ | ⟨h, hg⟩
        · obtain ⟨v, ob, p', h1, hp', hlit, hl⟩ := light_sat (P := X.P) h hp
          have e : layA { { M with pc := p } with pc := p' } (D.q + i) ob = { layA M (D.q + i) ob with pc := p' } := by cases ob <;> rfl
          rw [e] at h1
          exact fin v ob p' hp' h1 (.inr ⟨hg, hlit, hl⟩)
        · exact fin undefA none p hp h (.inl ⟨hg, rfl, rfl⟩)
      exact key h
def Sadd (S : Nat → Bool) (i : Nat) (j : Nat) : Bool := if j = i then true else S j
theorem Sadd_self (S : Nat → Bool) (i : Nat) : Sadd S i i = true := by simp [Sadd]
theorem Sadd_of {S : Nat → Bool} {i j : Nat} (h : S j = true) : Sadd S i j = true := by unfold Sadd; split <;> simp [h]
theorem Sadd_ne {S : Nat → Bool} {i j : Nat} (h : j ≠ i) : Sadd S i j = S j := if_neg h
theorem Sadd_false {S : Nat → Bool} {i j : Nat} (h : Sadd S i j = false) : j ≠ i ∧ S j = false := by
  unfold Sadd at h
  split at h
  · cases h
  · rename_i e; exact ⟨e, h⟩
theorem DI.step {i : Nat} {o : Oper} {G' : Gh} {a' : Act} {w' : World} (d : DI P ρ D F0 todo F M S G a w G0 M0 w0) (hi : D.ops[i]? = some o) (hit : i ∉ todo) (hb : ∀ k, (D.b.getD i 0).testBit k = true → S k = true)
    (hsz : a'.tmps.size = a.tmps.size) (hdf : DfR ρ G' F.df a'.defers) (hslot : ∀ t, o.dst ≠ some t → a'.tmps.getD t undef = a.tmps.getD t undef) (hdst : ∀ t, o.dst = some t → VR ρ G' ((F.tm.get t).getD .any) (a'.tmps.getD t undef)) (hG : G.le G')
    (hno : ∀ j, j < D.ops.size → j ≠ i → S j = false → G' (D.q + j) = none) (hmem : MR ρ G' { M with hp := live D (Sadd S i) M.hp } w') (hbase : Stp ρ G0 M0 w0 G' { M with hp := live D (Sadd S i) M.hp } w') : DI P ρ D F0 todo F M (Sadd S i) G' a' w' G0 M0 w0 := by
  refine ⟨d.valid, d.lt, fun j hj => ?_, fun j hj k hk => ?_, d.downD, fun j hj => by rw [Sadd_ne (S := S) (fun e : j = i => hit (e ▸ hj))]; exact d.SD j hj, fun j h1 h2 h3 => Sadd_of (d.heavyS j h1 h2 h3), fun j oj h1 h2 h3 => d.pend j oj h1 h2 (Sadd_false h3).2, d.unk, d.lay, by rw [hsz]; exact d.size, hdf, fun t hc => ?_, fun t hc => ?_, hmem, fun j h1 h2 => hno j h1 (Sadd_false h2).1 (Sadd_false h2).2, d.nbq, d.q0, hbase⟩
  · by_cases e : j = i
    · rw [e]; exact oper_lt hi
    · rw [Sadd_ne e] at hj; exact d.SN j hj
  · by_cases e : j = i
    · subst e; exact Sadd_of (hb k hk)
    · rw [Sadd_ne e] at hj; exact Sadd_of (d.downS j hj k hk)
  · by_cases e : o.dst = some t
    · exact hdst t e
    · rw [hslot t e]
      refine (d.slot t fun j oj hj hd => ?_).mono hG
      rcases hc j oj hj hd with h | h
      · refine .inl ?_
        rw [← Sadd_ne (S := S) (i := i) (j := j) (fun e' => e (by subst e'; rw [hi] at hj; cases hj; exact hd))]
        exact h
      · exact .inr h
  · rw [hslot t fun e => by have := hc i o hi e; rw [Sadd_self] at this; cases this]
    exact (d.slot0 t fun j oj hj hd => (Sadd_false (hc j oj hj hd)).2).mono hG
theorem DI.light {i : Nat} {o : Oper} {K : Act → World → Prop} {R : Exit → Act → World → Prop} (d : DI P ρ D F0 todo F M S G a w G0 M0 w0) (hi : D.ops[i]? = some o) (hit : i ∉ todo) (hS : S i = false) (hb : ∀ k, (D.b.getD i 0).testBit k = true → S k = true)
    (hK : ∀ G' a' w', DI P ρ D F0 todo F M (Sadd S i) G' a' w' G0 M0 w0 → K a' w') : wpOpIn (Fx E P rd) 0 P D.ops R i K a w := by
  obtain ⟨Fi, v, ob, h1, h2, hv, hob, _⟩ := d.pend i o hi hit hS
  have hiN := oper_lt hi
  have hkn : Knows ρ G Fi a D.ops o := fun t ht => by
    rcases h1 t ht with ⟨h, hw⟩ | ⟨h, hw⟩
    · rw [h]; exact d.slot t fun j oj hj hd => .inl (hb j (hw j oj hj hd))
    · rw [h]
      refine d.slot0 t fun j oj hj hd => ?_
      cases hs : S j with
      | false => rfl
      | true =>
        rcases hw j oj hj hd with h' | h'
        · rw [d.downS j hs i h'] at hS; cases hS
        · rw [h', hS] at hs; cases hs
  have hlive : ∀ b, b ≠ D.q + i → hget (live D (Sadd S i) M.hp) b = hget (live D S M.hp) b := fun b hne => by
    rw [hget_live, hget_live]
    have : inS D (Sadd S i) b = inS D S b := by
      unfold inS
      cases hx : (Nat.blt b D.q || Nat.ble (D.q + D.ops.size) b) with
      | true => rfl
      | false =>
        rw [Bool.false_or, Bool.false_or]
        refine Sadd_ne fun e => hne ?_
        simp only [Bool.or_eq_false_iff] at hx
        have : ¬ b < D.q := fun hh => by
          have : Nat.blt b D.q = true := Nat.ble_eq_true_of_le hh
          rw [this] at hx; exact absurd hx.1 (by simp)
        omega
    rw [this]
  have hli : hget (live D S M.hp) (D.q + i) = none := by rw [hget_live, inS_at hiN, hS]; rfl
  have hli' : hget (live D (Sadd S i) M.hp) (D.q + i) = hget M.hp (D.q + i) := by rw [hget_live, inS_at hiN, Sadd_self]; rfl
  have hmemS : ob = none → ∀ b, hget (live D (Sadd S i) M.hp) b = hget (live D S M.hp) b := fun hn b => by
    by_cases e : b = D.q + i
    · rw [e, hli, hli', hob, hn]
    · exact hlive b e
  have hk : kindOf o ≠ .h := fun e => by
    have := d.heavyS i hiN hit (by unfold isH; rw [hi]; simp [e])
    rw [hS] at this; cases this
  have hnc := kind_call hk
  have hnd : ∀ c, o.op ≠ .defer c := fun c hc => hk (by unfold kindOf; rw [hc])
  have hab : ∀ f, o.about P w a.eval = some f → (Fx E P rd).fn f := fun f hf => by rw [about_no hnc] at hf; cases hf
  have hsem : Oper.semAt (Fx E P rd).round a.eval o = execOp a.eval o := by
    cases rd with
    | none => exact Oper.semAt_none a.eval o
    | some l => exact Oper.semAt_some l a.eval o hnd
  unfold wpOpIn
  rw [hi]
  simp only
  have sz := d.size
  have hdst : ∀ (G' : Gh) (z : Value), VR ρ G' v z → ∀ t, o.dst = some t → VR ρ G' ((F.tm.get t).getD .any) ((a.put o.dst z).tmps.getD t undef) := fun G' z hz t ht => by
    rw [(hv t ht).1, ht, put_self (by rw [sz]; exact (hv t ht).2)]
    exact hz
  have same : ∀ (z : Value), ob = none → VR ρ G v z → K (a.put o.dst z) w := fun z hn hz =>
    hK G _ w (d.step hi hit hb (put_size ..) (by rw [put_defers]; exact d.df) (fun t ht => put_getD ht) (hdst G z hz) G.le_refl (fun j hj _ hs => d.noG j hj hs) (d.mem.hpc (hmemS hn) d.mem.pc) (d.base.hpc (hmemS hn)))
  rcases h2 with ⟨g, hvu, hn⟩ | ⟨g, hlit⟩
  · rw [if_neg (by rw [g G a hkn]; simp)]
    exact ⟨hab, same undef hn (by rw [hvu]; exact undef_ok)⟩
  · rw [if_pos (g G a hkn)]
    refine ⟨hab, ?_⟩
    have hl := hlit G a w hkn.ops fun b x gi hbx hg => by
      have hbx := hpOf_sub o _ b x hbx
      have hin : inS D S b = true := by
        cases hx : inS D S b with
        | true => rfl
        | false =>
          obtain ⟨j, hj, e, hs⟩ := inS_out hx
          rw [e, d.noG j hj hs] at hg
          cases hg
      obtain ⟨g', hg', hor⟩ := d.mem.ob b x (by show hget (live D S M.hp) b = _; rw [hget_live, if_pos hin]; exact hbx)
      rw [hg] at hg'; cases hg'; exact hor
    rw [hsem]
    cases ob with
    | none =>
      obtain ⟨z, hz, hvz⟩ := hl
      rw [hz]
      exact same z rfl hvz
    | some x =>
      obtain ⟨f, hfv, z, obj, sz', hz, hown, hlay⟩ := hl
      rw [hz]
      have hno := d.noG i hiN hS
      obtain ⟨l1, l2⟩ := hlay (G.add (D.q + i) ⟨w.heap.size, 0, sz', default⟩) (D.q + i) (Gh.le_add hno) (by simp [Gh.add])
      obtain ⟨m1, m2⟩ := d.mem.newAt (w' := w.alloc obj) x ⟨w.heap.size, 0, sz', default⟩ (D.q + i) M.nb hno (by have := d.nbq; omega) (Nat.le_refl _) (Nat.le_refl _) l1 rfl rfl rfl (by show w.heap.size ≤ (w.heap.push obj).size; simp) (alloc_more w obj) (fun k h => absurd h also_def)
      have hh : ∀ b, hget (live D (Sadd S i) M.hp) b = hget (hset (live D S M.hp) (D.q + i) x) b := fun b => by
        rw [hget_hset]
        by_cases e : b = D.q + i
        · rw [if_pos e, e, hli', hob]
        · rw [if_neg e]; exact hlive b e
      rw [← hfv] at l2
      refine hK _ _ _ (d.step hi hit hb (put_size ..) ?_ (fun t ht => put_getD ht) (hdst _ z l2) (Gh.le_add hno) (fun j hj hne hs => ?_) ((m1.hpc hh m1.pc)) ((m2 G0 M0 w0 hown (by have := d.q0; omega) d.base).hpc hh))
      · rw [put_defers]; exact d.df.mono (Gh.le_add hno)
      · unfold Gh.add
        rw [if_neg (by omega)]
        exact d.noG j hj hs
end
end Go.Proofs.YtkfjgggiopegbaaDoor
namespace Go.Proofs.YtkfjgggiopegbaaDoor
open Go.RowKit
section
variable {E : Bool} {rd : Option Nat} {P : Program} {X : Cx} {ρ : Env} {Q : Lf → Prop} {G G' G0 : Gh} {M M0 : Me} {w w' w0 : World} {D : Dr} {todo : List Nat} {F : Fr} {S : Nat → Bool} {a : Act}
theorem merge {Ml M1 M' M2 : Me} (hl : MR ρ G Ml w) (s : Stp ρ G M1 w G' M' w') (m : MR ρ G' M' w') (hp : holdsAll ρ M2.pc) (nb : M2.nb = M'.nb) (nb1 : M1.nb = Ml.nb) (sub1 : ∀ b x, hget M1.hp b = some x → hget Ml.hp b = some x)
    (c2 : ∀ b x, hget M2.hp b = some x → hget M'.hp b = some x ∨ (hget Ml.hp b = some x ∧ hget M1.hp b = none)) : MR ρ G' M2 w' ∧ Stp ρ G Ml w G' M2 w' := by
  have mineM : ∀ k, Mine ρ G M1 k → Mine ρ G Ml k := fun k ⟨b, o, g, h1, h2⟩ => ⟨b, o, g, sub1 b o h1, h2⟩
  have at' : ∀ b x g, hget Ml.hp b = some x → G' b = some g → G b = some g ∧ OR ρ G w g x := fun b x g hb hg => by
    obtain ⟨g0, hg0, hor⟩ := hl.ob b x hb
    rw [s.gh b g0 hg0] at hg; cases hg
    exact ⟨hg0, hor⟩
  have noMine : ∀ b x g, hget Ml.hp b = some x → hget M1.hp b = none → G b = some g → Solid ρ g x → ¬ Mine ρ G M1 g.blk := fun b x g hb hn hg hs ⟨c, p, gc, h1, h2, h3, h4, h5⟩ =>
    hl.apart c p b x gc g (sub1 c p h1) hb h2 (fun e => by rw [e, hn] at h1; cases h1) h3 hg h4 hs h5
  have keepB : ∀ b x g, hget Ml.hp b = some x → hget M1.hp b = none → G b = some g → OR ρ G w g x → Solid ρ g x → w'.heap[g.blk]? = w.heap[g.blk]? := fun b x g hb hn hg hor hs => s.keep g.blk (hor.blk_lt hs) (noMine b x g hb hn hg hs)
  have noKnown : ∀ b x g, hget Ml.hp b = some x → hget M1.hp b = none → x.own = true → G b = some g → Solid ρ g x → ¬ Known ρ G M1 g.blk := fun b x g hb hn ho hg hs ⟨c, p, y, k1, k2, k3⟩ => k3.elim
    (fun ⟨k3, k4⟩ => hl.apart b x c p g y hb (sub1 c p k1) ho (fun e => by rw [← e, hn] at k1; cases k1) hg k2 hs k3 k4.symm)
    (fun k3 => (hl.sub c p y _ (sub1 c p k1) k2 k3).2 ⟨b, x, g, hb, ho, hg, hs, rfl⟩)
  have mine2 : ∀ k, Mine ρ G' M2 k → k < w.heap.size → Mine ρ G Ml k := fun k ⟨b, o, g, h1, h2, h3, h4, h5⟩ hk => by
    rcases c2 b o h1 with h | ⟨h, hn⟩
    · exact mineM k (s.mine k ⟨b, o, g, h, h2, h3, h4, h5⟩ hk)
    · exact ⟨b, o, g, h, h2, (at' b o g h h3).1, h4, h5⟩
  refine ⟨⟨hp, fun b g hb => by rw [nb]; exact m.fresh b g hb, fun b o hb => ?_, fun b o c p g y hb hc ho hne hg hy s1 s2 => ?_, fun c p y k hc hy hk => ?_⟩, ⟨s.gh, s.os, s.tape, s.output, s.size, fun k hk hm => s.keep k hk fun h => hm (mineM k h), mine2, by rw [nb, ← nb1]; exact s.nb, fun b g hb => by rw [← nb1]; exact s.old b g hb, fun k ⟨b, o, g, h1, h3, h4⟩ hk => ?_⟩⟩
  · rcases c2 b o hb with h | ⟨h, hn⟩
    · exact m.ob b o h
    · obtain ⟨g, hg, hor⟩ := hl.ob b o h
      exact ⟨g, s.gh b g hg, hor.same s.gh (fun hs => keepB b o g h hn hg hor hs) fun k hk => s.keep k (hl.sub b o g k h hg hk).1 fun hm => (hl.sub b o g k h hg hk).2 (mineM k hm)⟩
  · -- apart
    have cross : ∀ (b c : Nat) (o p : Ob) (g y : GI), hget M'.hp b = some o → o.own = true → hget Ml.hp c = some p → hget M1.hp c = none → G' b = some g → G' c = some y → Solid ρ g o → Solid ρ y p → g.blk ≠ y.blk := by
      intro b c o p g y hb ho hc hn hg hy s1 s2
      obtain ⟨hy', hor⟩ := at' c p y hc hy
      by_cases hlt : g.blk < w.heap.size
      · obtain ⟨c1, p1, g1, k1, k2, k3, k4, k5⟩ := s.mine g.blk ⟨b, o, g, hb, ho, hg, s1, rfl⟩ hlt
        rw [← k5]
        exact hl.apart c1 p1 c p g1 y (sub1 c1 p1 k1) hc k2 (fun e => by rw [e, hn] at k1; cases k1) k3 hy' k4 s2
      · have := hor.blk_lt s2
        omega
    rcases c2 b o hb with h1 | ⟨h1, n1⟩
    · rcases c2 c p hc with h2 | ⟨h2, n2⟩
      · exact m.apart b o c p g y h1 h2 ho hne hg hy s1 s2
      · exact cross b c o p g y h1 ho h2 n2 hg hy s1 s2
    · obtain ⟨hg', _⟩ := at' b o g h1 hg
      rcases c2 c p hc with h2 | ⟨h2, n2⟩
      · cases hop : p.own with
        | true => exact Ne.symm (cross c b p o y g h2 hop h1 n1 hy hg s2 s1)
        | false =>
          intro heq
          obtain ⟨_, hor⟩ := at' b o g h1 hg
          have hlt := hor.blk_lt s1
          rw [heq] at hlt
          exact noKnown b o g h1 n1 ho hg' s1 (heq ▸ s.seen y.blk ⟨c, p, y, h2, hy, .inl ⟨s2, rfl⟩⟩ hlt)
      · exact hl.apart b o c p g y h1 h2 ho hne hg' (at' c p y h2 hy).1 s1 s2
  · rcases c2 c p hc with h2 | ⟨h2, n2⟩
    · refine ⟨(m.sub c p y k h2 hy hk).1, fun ⟨b, o, g, k1, k2, k3, k4, k5⟩ => ?_⟩
      rcases c2 b o k1 with q | ⟨q, hn⟩
      · exact (m.sub c p y k h2 hy hk).2 ⟨b, o, g, q, k2, k3, k4, k5⟩
      · obtain ⟨hg', hor⟩ := at' b o g q k3
        have hlt := hor.blk_lt k4
        rw [k5] at hlt
        exact noKnown b o g q hn k2 hg' k4 (k5.symm ▸ s.seen k ⟨c, p, y, h2, hy, .inr hk⟩ hlt)
    · have := hl.sub c p y k h2 (at' c p y h2 hy).1 hk
      exact ⟨Nat.lt_of_lt_of_le this.1 s.size, fun hm => this.2 (mine2 k hm this.1)⟩
  · rcases c2 b o h1 with h | ⟨h, hn⟩
    · obtain ⟨c, p, y, k1, k2⟩ := s.seen k ⟨b, o, g, h, h3, h4⟩ hk
      exact ⟨c, p, y, sub1 c p k1, k2⟩
    · exact ⟨b, o, g, h, (at' b o g h h3).1, h4⟩
theorem recheck_sat {D : Dr} {F : Fr} : ∀ (l : List Nat) {M : Me} {k : Me → T}, (recheck P D F l M k).sat Q ρ → holdsAll ρ M.pc → ∃ p, (k { M with pc := p }).sat Q ρ ∧ holdsAll ρ p ∧
    ∀ j ∈ l, ∀ o, D.ops[j]? = some o → ∃ v ob, ((Guards ρ D.ops F o false ∧ v = undefA ∧ ob = none) ∨ (Guards ρ D.ops F o true ∧ Lit P ρ F (hpOf o M.hp) o 0 v ob ∧ (kindOf o = .l → ob = none))) ∧ ∀ d, o.dst = some d → (F.tm.get d).getD .any = v
  | [], M, k, h, hp => ⟨M.pc, h, hp, fun j hj => by simp at hj⟩
  | i :: l, M, k, h, hp => by
    rw [recheck_cons] at h
    split at h
    · exact h.elim
    · rename_i o ho
      obtain ⟨p, hp1, hg⟩ := guard_sat h hp
      have go : ∀ (p : PC) (v : AV) (ob : Option Ob), holdsAll ρ p → (recheck P D F l { M with pc := p } k).sat Q ρ → ((Guards ρ D.ops F o false ∧ v = undefA ∧ ob = none) ∨ (Guards ρ D.ops F o true ∧ Lit P ρ F (hpOf o M.hp) o 0 v ob ∧ (kindOf o = .l → ob = none))) → (∀ d, o.dst = some d → (F.tm.get d).getD .any = v) →
          ∃ p, (k { M with pc := p }).sat Q ρ ∧ holdsAll ρ p ∧ ∀ j ∈ i :: l, ∀ o, D.ops[j]? = some o → ∃ v ob, ((Guards ρ D.ops F o false ∧ v = undefA ∧ ob = none) ∨ (Guards ρ D.ops F o true ∧ Lit P ρ F (hpOf o M.hp) o 0 v ob ∧ (kindOf o = .l → ob = none))) ∧ ∀ d, o.dst = some d → (F.tm.get d).getD .any = v := by
        intro p v ob hp h h1 h2
        obtain ⟨p', g1, g2, g3⟩ := recheck_sat l h hp
        refine ⟨p', g1, g2, fun j hj o' ho' => ?_⟩
        rcases List.mem_cons.1 hj with e | hj
        · subst e
          rw [ho] at ho'; cases ho'
          exact ⟨v, ob, h1, h2⟩
        · exact g3 j hj o' ho'
      rcases hg with ⟨h, hg⟩ | ⟨h, hg⟩
      · obtain ⟨v, ob, p', h1, hp', hlit, hl⟩ := light_sat (P := P) h hp1
        split at h1
        · rename_i hd
          exact go p' v ob hp' h1 (.inr ⟨hg, hlit, hl⟩) fun d hd' => by rw [hd] at hd'; cases hd'
        · rename_i d hd
          cases hs : AV.same 50 ((F.tm.get d).getD .any) v with
          | false => rw [hs] at h1; exact h1.elim
          | true =>
            rw [hs] at h1
            exact go p' v ob hp' h1 (.inr ⟨hg, hlit, hl⟩) fun d' hd' => by rw [hd] at hd'; cases hd'; exact same_eq _ _ _ hs
      · split at h
        · rename_i hd
          exact go p undefA none hp1 h (.inl ⟨hg, rfl, rfl⟩) fun d hd' => by rw [hd] at hd'; cases hd'
        · rename_i d hd
          cases hs : AV.same 50 ((F.tm.get d).getD .any) undefA with
          | false => rw [hs] at h; exact h.elim
          | true =>
            rw [hs] at h
            exact go p undefA none hp1 h (.inl ⟨hg, rfl, rfl⟩) fun d' hd' => by rw [hd] at hd'; cases hd'; exact same_eq _ _ _ hs
theorem wpList_one {i : Nat} {o : Oper} {K : Act → World → Prop} {R : Exit → Act → World → Prop} (hi : D.ops[i]? = some o) (h : wpListIn (Fx E P rd) 0 P D.ops (Exit.then K R) [o] a w) : wpOpIn (Fx E P rd) 0 P D.ops R i K a w := by
  unfold wpOpIn
  rw [hi]
  unfold wpListIn at h
  simp only
  split
  · rename_i hw
    rw [if_pos hw] at h
    refine ⟨h.1, ?_⟩
    replace h := h.2
    generalize (Oper.semAt (Fx E P rd).round a.eval o).run P w = res at h ⊢
    cases res with
    | ok n w' =>
      cases n <;> simp only [Oper.uponIn] at h ⊢ <;>
        first
          | exact h
          | exact ⟨h.1, CallsIn.mono h.2 (fun e w'' he => by cases e <;> first | exact he | (obtain ⟨a, w, h⟩ := he; exact ⟨a, w, h⟩))⟩
          | exact ⟨h.1, RowsIn.mono h.2 (fun _ _ he => he)⟩
          | exact ⟨h.1, RoundIn.mono h.2 (fun e w'' he => by cases e <;> first | exact he | (obtain ⟨a, w, h⟩ := he; exact ⟨a, w, h⟩))⟩
    | halt x w' => cases x <;> simp only [Oper.uponIn] at h ⊢ <;> exact h
  · rename_i hw
    rw [if_neg hw] at h
    exact h
end
end Go.Proofs.YtkfjgggiopegbaaDoor
namespace Go.Proofs.YtkfjgggiopegbaaDoor
open Go.RowKit
section
variable {X : Cx} {ρ : Env} {Q : Lf → Prop} {G G' G0 : Gh} {M M0 : Me} {w w' w0 : World} {D : Dr} {todo : List Nat} {F0 F : Fr} {S : Nat → Bool} {a : Act}
theorem keep_live (D : Dr) (bits : Nat) (hp : List (Nat × Ob)) : keepHp D.q D.ops.size bits hp = live D bits.testBit hp := hfilt_eq _ hp
theorem inS_mono {S S' : Nat → Bool} {b : Nat} (h : ∀ j, S j = true → S' j = true) (hb : inS D S b = true) : inS D S' b = true := by
  cases hx : inS D S' b with
  | true => rfl
  | false =>
    obtain ⟨j, hj, e, hs⟩ := inS_out hx
    subst e
    rw [inS_at hj] at hb
    rw [h j hb] at hs; cases hs
set_option maxHeartbeats 1000000 in
theorem DI.heavy {rd : Option Nat} (hrd : rd = none ∨ D.ops.toList.all plainO = true) {m h : Nat} {r : List Nat} {o : Oper} {k : Lf → T} {K : Act → World → Prop} {R : Exit → Act → World → Prop} (hRp : ∀ e a' w', Reach ρ Q k G0 M0 w0 e a' w' → R e a' w') (d : DI X.P ρ D F0 (h :: r) F M S G a w G0 M0 w0) (Td : Tidy D.ops D.b) (hi : D.ops[h]? = some o) (hk : kindOf o = .h) (hb : ∀ k, (D.b.getD h 0).testBit k = true → S k = true)
    (sat : (run (m + 1) X (.draw D (h :: r)) F M k).sat Q ρ) (iops : SOps X ρ Q m) (hK : ∀ F2 M2 G' a' w', (run m X (.draw D r) F2 M2 k).sat Q ρ → DI X.P ρ D F0 r F2 M2 (Sadd S h) G' a' w' G0 M0 w0 → K a' w') : wpOpIn (Fx X.E X.P rd) 0 X.P D.ops R h K a w := by
  obtain ⟨hv1, hhr, _, hv2⟩ := d.valid
  have hhN := oper_lt hi
  have hSh := d.SD h (List.mem_cons_self ..)
  rw [run_succ] at sat
  simp only at sat
  rw [hi] at sat
  simp only [hk] at sat
  split at sat
  · exact sat.elim
  · rename_i tm htm
    have sub1 : ∀ b x, hget (keepHp D.q D.ops.size (D.b.getD h 0) M.hp) b = some x → hget (live D S M.hp) b = some x := fun b x hx => by
      rw [keep_live, hget_live] at hx
      split at hx
      · rename_i hin
        rw [hget_live, if_pos (inS_mono hb hin)]
        exact hx
      · cases hx
    have hM1 := (d.mem.drop (keepHp D.q D.ops.size (D.b.getD h 0) M.hp) sub1).1
    have hF1 : FR ρ G { F with tm } a := by
      refine ⟨d.size, fun t v ht => ?_, d.df⟩
      rw [blank_get _ _ _ htm] at ht
      split at ht
      · cases ht; exact .any _
      · rename_i hnd
        have := d.slot t fun j oj hj hd => by
          cases hbt : (D.b.getD h 0).testBit j with
          | true => exact .inl (hb j hbt)
          | false => (by_cases hjt : j ∈ h :: r; exact .inr hjt; exact absurd (mem_dsts.2 ⟨j, oj, hj, by rw [hbt]; simp only [List.mem_cons, not_or] at hjt; simp [hjt.1, hjt.2], hd⟩) hnd)
        rw [ht] at this
        exact this
    refine wpList_one hi (iops rd D.ops [o] _ _ _ G a w _ (hrd.imp id fun h => by simpa using List.all_eq_true.1 h o (List.mem_of_getElem? (by simpa using hi))) sat hM1 hF1 fun e a' w' hr hs => ?_)
    obtain ⟨x, F', G', M', x1, x2, x3, x4, x5⟩ := hr
    cases x with
    | norm =>
      cases e with
      | normal =>
        show K a' w'
        simp only at x5
        cases hn : Nat.beq F'.n F.n with
        | false => rw [hn] at x5; exact x5.elim
        | true =>
          rw [hn] at x5
          simp only [Bool.not_true, cond_false] at x5
          have hn := (beq_iff _ _).1 hn
          obtain ⟨F2, g1, g2, g3, g4, g5⟩ := put_get x5
          replace g2 : F2.n = F.n := g2
          replace g3 : F2.df = F'.df := g3
          obtain ⟨p, r1, r2, r3⟩ := recheck_sat (P := X.P) _ g1 x3.pc
          have dstN : ∀ j oj t, j ≠ h → D.ops[j]? = some oj → oj.dst = some t → o.dst ≠ some t := fun j oj t hj ho hd e => hj (Td.uniq j h oj o t ho hi hd e)
          have oldM' : ∀ j, j < D.ops.size → S j = false → G' (D.q + j) = none := fun j hj hs' => by
            cases hg : G' (D.q + j) with
            | none => rfl
            | some g =>
              rcases x4.old _ g hg with h' | h'
              · rw [d.noG j hj hs'] at h'; cases h'
              · have h2 : M.nb ≤ D.q + j := h'
                have := d.nbq; omega
          have noM' : ∀ j, j < D.ops.size → S j = false → hget M'.hp (D.q + j) = none := fun j hj hs' => by
            cases hx : hget M'.hp (D.q + j) with
            | none => rfl
            | some y =>
              obtain ⟨g, hg, _⟩ := x3.ob _ y hx
              rw [oldM' j hj hs'] at hg; cases hg
          have bitF : ∀ j, S j = false → (D.b.getD h 0).testBit j = false := fun j hs' => by
            cases hx : (D.b.getD h 0).testBit j with
            | false => rfl
            | true => rw [hb j hx] at hs'; cases hs'
          have hp2 : ∀ b, hget (happ M'.hp (M.hp.filter fun p => !(Nat.blt p.1 D.q || Nat.ble (D.q + D.ops.size) p.1 || (D.b.getD h 0).testBit (p.1 - D.q)))) b = match hget M'.hp b with | some y => some y | none => if inS D (D.b.getD h 0).testBit b = true then none else hget M.hp b := fun b => by
            rw [hget_happ]
            cases hget M'.hp b with
            | some y => rfl
            | none =>
              simp only
              rw [hget_filter fun c => !(Nat.blt c D.q || Nat.ble (D.q + D.ops.size) c || (D.b.getD h 0).testBit (c - D.q))]
              show (if (!inS D (D.b.getD h 0).testBit b) = true then _ else _) = _
              cases inS D (D.b.getD h 0).testBit b <;> rfl
          have hp2j : ∀ j, j < D.ops.size → S j = false → hget (happ M'.hp (M.hp.filter fun p => !(Nat.blt p.1 D.q || Nat.ble (D.q + D.ops.size) p.1 || (D.b.getD h 0).testBit (p.1 - D.q)))) (D.q + j) = hget M.hp (D.q + j) := fun j hj hs' => by
            rw [hp2, noM' j hj hs', inS_at hj, bitF j hs']
            rfl
          generalize hHP : (happ M'.hp (M.hp.filter fun p => !(Nat.blt p.1 D.q || Nat.ble (D.q + D.ops.size) p.1 || (D.b.getD h 0).testBit (p.1 - D.q)))) = HP at hp2 hp2j r1 r3
          have c2 : ∀ b x, hget (live D (Sadd S h) HP) b = some x → hget M'.hp b = some x ∨ (hget (live D S M.hp) b = some x ∧ hget (keepHp D.q D.ops.size (D.b.getD h 0) M.hp) b = none) := fun b x hx => by
            rw [hget_live] at hx
            split at hx
            · rename_i hin
              rw [hp2] at hx
              split at hx
              · cases hx; rename_i hy; exact .inl hy
              · split at hx
                · cases hx
                · rename_i hnin
                  have hnin' : inS D (D.b.getD h 0).testBit b = false := by simpa using hnin
                  refine .inr ⟨?_, by rw [keep_live, hget_live, if_neg hnin]⟩
                  obtain ⟨j, hj, e, hbj⟩ := inS_out hnin'
                  subst e
                  rw [inS_at hj] at hin
                  have hjh : j ≠ h := fun e => by
                    subst e
                    rw [d.lay j (List.mem_cons_self ..)] at hx; cases hx
                  rw [Sadd_ne hjh] at hin
                  rw [hget_live, inS_at hj, hin]
                  exact hx
            · cases hx
          obtain ⟨mm, ss⟩ := merge (M2 := { M' with hp := live D (Sadd S h) HP, pc := p }) d.mem x4 x3 r2 rfl rfl sub1 c2
          have hS2 : ∀ j ∈ r, j ≠ h := fun j hj e => hhr (e ▸ hj)
          have F2t : ∀ t, o.dst ≠ some t → F2.tm.get t = F.tm.get t := fun t ht => by rw [g4, if_neg ht]; rfl
          refine hK F2 { M' with hp := HP, pc := p } G' a' w' r1 ⟨hv2, fun j hj => d.lt j (List.mem_cons_of_mem _ hj), fun j hj => ?_, fun j hj k' hk' => ?_, fun j hj hjr k' hk' => ?_, fun j hj => by rw [Sadd_ne (hS2 j hj)]; exact d.SD j (List.mem_cons_of_mem _ hj), fun j hj hjr hh => ?_, fun j oj hj hjr hsj => ?_, fun j hj oj t ho hd => ?_, fun j hj => ?_, by rw [x2.n, g2, hn], by rw [g3]; exact x2.df, fun t hc => ?_, fun t hc => ?_, mm, fun j hj hsj => oldM' j hj (Sadd_false hsj).2, Nat.le_trans d.nbq x4.nb, d.q0, d.base.trans ss⟩
          · by_cases e : j = h
            · rw [e]; exact hhN
            · rw [Sadd_ne e] at hj; exact d.SN j hj
          · by_cases e : j = h
            · subst e; exact Sadd_of (hb k' hk')
            · rw [Sadd_ne e] at hj; exact Sadd_of (d.downS j hj k' hk')
          · by_cases e : j = h
            · subst e
              intro hkr
              rw [hv1 k' (List.mem_cons_of_mem _ hkr)] at hk'; cases hk'
            · exact fun hkr => d.downD j hj (by simp [e, hjr]) k' hk' (List.mem_cons_of_mem _ hkr)
          · by_cases e : j = h
            · rw [e]; exact Sadd_self S h
            · exact Sadd_of (d.heavyS j hj (by simp [e, hjr]) hh)
          · obtain ⟨hjh, hsj⟩ := Sadd_false hsj
            have hjt : j ∉ h :: r := by simp [hjh, hjr]
            have hjN := oper_lt hj
            have old := d.pend j oj hj hjt hsj
            by_cases hl : kindOf oj = .l
            · obtain ⟨v, ob, q1, q2⟩ := r3 j (List.mem_filter.2 ⟨List.mem_range.2 hjN, by
                have : isL D.ops j = true := by unfold isL; rw [hj]; simp [hl]
                rw [this, bitF j hsj]
                simp [hjr]⟩) oj hj
              obtain ⟨Fi, v0, ob0, _, _, o3, o4, o5⟩ := old
              have hob0 := o5 hl
              have hob : ob = none := by rcases q1 with ⟨_, _, e⟩ | ⟨_, _, e⟩; exact e; exact e hl
              subst hob
              refine ⟨F2, v, none, fun t ht => .inl ⟨rfl, fun k' ok hk' hd => Td.sideL j k' oj ok t hj hk' hd ht hl⟩, ?_, fun t ht => ?_, ?_, fun _ => rfl⟩
              · rcases q1 with q1 | ⟨q1, q3, _⟩
                · exact .inl q1
                · exact .inr ⟨q1, q3⟩
              · have := q2 t ht
                rw [F2t t (dstN j oj t hjh hj ht), (o3 t ht).1] at this
                rw [F2t t (dstN j oj t hjh hj ht), (o3 t ht).1, g2]
                simp only [Option.getD_some] at this
                exact ⟨by rw [this], (o3 t ht).2⟩
              · show hget HP _ = none
                rw [hp2j j hjN hsj, o4, hob0]
            · refine old.keep (todo := h :: r) hj g2 hjt (d.downD j hjN hjt) Td (fun t => ?_) (fun Fi v ob hlit => ?_) (hp2j j hjN hsj)
              · by_cases e : o.dst = some t
                · exact .inr ⟨h, List.mem_cons_self .., o, hi, e⟩
                · exact .inl (F2t t e)
              · rw [hpOf, if_neg hl] at hlit ⊢
                exact hlit
          · rw [F2t t (dstN j oj t (hS2 j hj) ho hd)]
            exact d.unk j (List.mem_cons_of_mem _ hj) oj t ho hd
          · show hget HP _ = none
            rw [hp2j j (d.lt j (List.mem_cons_of_mem _ hj)) (d.SD j (List.mem_cons_of_mem _ hj))]
            exact d.lay j (List.mem_cons_of_mem _ hj)
          · by_cases e : o.dst = some t
            · rw [g4, if_pos e]
              simp only [e, Option.getD_some]
              exact x2.slot t
            · rw [F2t t e, hs t (fun o' ho' => by rw [List.mem_singleton.1 ho']; exact e)]
              refine (d.slot t fun j oj hj hd => ?_).mono x4.gh
              rcases hc j oj hj hd with h' | h'
              · refine .inl ?_
                rw [← Sadd_ne (S := S) (i := h) (j := j) (fun e' => e (by subst e'; rw [hi] at hj; cases hj; exact hd))]
                exact h'
              · exact .inr (List.mem_cons_of_mem _ h')
          · rw [hs t (fun o' ho' => by rw [List.mem_singleton.1 ho']; exact fun e => by have := hc h o hi e; rw [Sadd_self] at this; cases this)]
            exact (d.slot0 t fun j oj hj hd => (Sadd_false (hc j oj hj hd)).2).mono x4.gh
      | _ => exact x1.elim
    | panic v =>
      cases e with
      | panic ch =>
        obtain ⟨m2, s2⟩ := merge (M2 := M') d.mem x4 x3 x3.pc rfl rfl sub1 (fun b x h => .inl h)
        exact hRp _ _ _ ⟨.panic v, F', G', M', x1, x2, x3, d.base.trans s2, x5⟩
      | _ => exact x1.elim
    | _ => exact x5.elim
theorem filter_lt {p q : Nat → Bool} : ∀ (l : List Nat), (∀ x, q x = true → p x = true) → ∀ y ∈ l, p y = true → q y = false → (l.filter q).length < (l.filter p).length
  | x :: l, hpq, y, hy, h1, h2 => by
    have le : ∀ (l : List Nat), (l.filter q).length ≤ (l.filter p).length := fun l => by
      induction l with
      | nil => simp
      | cons z l ih =>
        rw [List.filter_cons, List.filter_cons]
        cases hq : q z with
        | true => rw [hpq z hq]; simpa using ih
        | false => cases hp : p z <;> simp <;> omega
    rw [List.filter_cons, List.filter_cons]
    rcases List.mem_cons.1 hy with e | hy
    · subst e
      rw [h1, h2]
      have := le l
      simp
      omega
    · have := filter_lt l hpq y hy h1 h2
      cases hq : q x with
      | true => rw [hpq x hq]; simpa using this
      | false => cases hp : p x <;> simp <;> omega
theorem set_S (listed : Array Bool) (i : Nat) (hi : i < listed.size) : (fun j => (listed.setIfInBounds i true).getD j false) = Sadd (fun j => listed.getD j false) i := by
  funext j
  unfold Sadd
  simp only [Array.getD_eq_getD_getElem?, Array.getElem?_setIfInBounds]
  by_cases h : i = j
  · subst h; simp [hi]
  · rw [if_neg h, if_neg (Ne.symm h)]
theorem all_done {m : Nat} {k : Lf → T} {R : Exit → Act → World → Prop} (hR : ∀ e a' w', Reach ρ Q k G0 M0 w0 e a' w' → R e a' w') (sat : (run m X (.draw D todo) F M k).sat Q ρ) (d : DI X.P ρ D F0 todo F M S G a w G0 M0 w0) (hall : ∀ i, i < D.ops.size → S i = true) : R .normal a w := by
  have ht : todo = [] := by
    cases todo with
    | nil => rfl
    | cons h r =>
      have := d.SD h (List.mem_cons_self ..)
      rw [hall h (d.lt h (List.mem_cons_self ..))] at this; cases this
  subst ht
  have hl : ∀ b, hget M.hp b = hget (live D S M.hp) b := fun b => by
    rw [hget_live]
    cases hx : inS D S b with
    | true => rfl
    | false =>
      obtain ⟨j, hj, e, hs⟩ := inS_out hx
      rw [hall j hj] at hs; cases hs
  cases m with
  | zero => rw [run_zero] at sat; exact sat.elim
  | succ m =>
    rw [run_succ] at sat
    simp only at sat
    refine hR _ _ _ ⟨.norm, F, G, M, trivial, ⟨d.size, fun t v ht => ?_, d.df⟩, d.mem.hpc (hp := M.hp) (p := M.pc) hl d.mem.pc, d.base.hpc (hp := M.hp) (p := M.pc) hl, sat⟩
    have := d.slot t fun i o hi _ => .inl (hall i (oper_lt hi))
    rw [ht] at this
    exact this
theorem ready_mem {listed : Array Bool} {i : Nat} (hsz : listed.size = D.ops.size) : i ∈ Region.ready .any D.ops listed ↔ i < D.ops.size ∧ listed.getD i true = false ∧ ∃ o, D.ops[i]? = some o ∧ ∀ e ∈ o.after.toList, Region.binds .any e = true → listed.getD e.on false = true := by
  unfold Region.ready
  simp only [List.mem_filter, List.mem_range, Bool.and_eq_true, Bool.not_eq_true']
  constructor
  · rintro ⟨h1, h2, h3⟩
    refine ⟨h1, h2, D.ops[i], Array.getElem?_eq_getElem h1, fun e he hb => ?_⟩
    rw [Array.getElem?_eq_getElem h1] at h3
    simp only [Option.map_some, Option.getD_some, Array.all_eq_true_iff_forall_mem] at h3
    have := h3 e (Array.mem_toList_iff.1 he)
    rw [hb] at this
    simpa using this
  · rintro ⟨h1, h2, o, ho, h3⟩
    refine ⟨h1, h2, ?_⟩
    rw [ho]
    simp only [Option.map_some, Option.getD_some, Array.all_eq_true_iff_forall_mem]
    intro e he
    cases hb : Region.binds .any e with
    | false => rfl
    | true => simpa using h3 e (Array.mem_toList_iff.2 he) hb
theorem getD_tf {listed : Array Bool} {i : Nat} (h : i < listed.size) : listed.getD i true = listed.getD i false := by
  rw [Array.getD_eq_getD_getElem?, Array.getD_eq_getD_getElem?, Array.getElem?_eq_getElem h]; rfl
theorem any_ok {rd : Option Nat} (hrd : rd = none ∨ D.ops.toList.all plainO = true) {n : Nat} {k : Lf → T} {R : Exit → Act → World → Prop} (Td : Tidy D.ops D.b) (iops : ∀ m, m < n → SOps X ρ Q m) (hR : ∀ e a' w', Reach ρ Q k G0 M0 w0 e a' w' → R e a' w') : ∀ (fuel : Nat) (listed : Array Bool) (G : Gh) (a : Act) (w : World) (m : Nat) (todo : List Nat) (F : Fr) (M : Me), m ≤ n → listed.size = D.ops.size →
    ((List.range D.ops.size).filter fun i => !listed.getD i true).length ≤ fuel → (run m X (.draw D todo) F M k).sat Q ρ → DI X.P ρ D F0 todo F M (fun i => listed.getD i false) G a w G0 M0 w0 → Rest D todo → wpAnyIn (Fx X.E X.P rd) 0 X.P .any D.ops R fuel listed a w := by
  intro fuel
  have stuck : ∀ (listed : Array Bool) (G : Gh) (a : Act) (w : World) (m : Nat) (todo : List Nat) (F : Fr) (M : Me), listed.size = D.ops.size → (run m X (.draw D todo) F M k).sat Q ρ → DI X.P ρ D F0 todo F M (fun i => listed.getD i false) G a w G0 M0 w0 → Region.ready .any D.ops listed = [] → R .normal a w := by
    intro listed G a w m todo F M hsz sat d hrd
    refine all_done hR sat d fun i => ?_
    induction i using Nat.strongRecOn with
    | _ i ih =>
      intro hi
      cases hx : listed.getD i false with
      | true => rfl
      | false =>
        exfalso
        have : i ∈ Region.ready .any D.ops listed := (ready_mem hsz).2 ⟨hi, by rw [getD_tf (by omega)]; exact hx, D.ops[i], Array.getElem?_eq_getElem hi, fun e he hb => by
          have := Td.back i _ (Array.getElem?_eq_getElem hi) e he hb
          exact ih e.on this (by omega)⟩
        rw [hrd] at this
        simp at this
  induction fuel with
  | zero =>
    intro listed G a w m todo F M hm hsz hc sat d hr
    have hrd : Region.ready .any D.ops listed = [] := by
      cases hx : Region.ready .any D.ops listed with
      | nil => rfl
      | cons i l =>
        have hm := (ready_mem hsz).1 (show i ∈ Region.ready .any D.ops listed by rw [hx]; exact List.mem_cons_self ..)
        have : i ∈ (List.range D.ops.size).filter fun i => !listed.getD i true := List.mem_filter.2 ⟨List.mem_range.2 hm.1, by rw [hm.2.1]; rfl⟩
        have := List.length_pos_of_mem this
        omega
    exact ⟨hrd, stuck listed G a w m todo F M hsz sat d hrd⟩
  | succ fuel ih =>
    intro listed G a w m todo F M hm hsz hc sat d hr
    refine ⟨stuck listed G a w m todo F M hsz sat d, fun i hi => ?_⟩
    obtain ⟨hiN, hiL, o, ho, haft⟩ := (ready_mem hsz).1 hi
    have hS : (fun i => listed.getD i false) i = false := by show listed.getD i false = false; rw [← getD_tf (by omega)]; exact hiL
    have hb := Td.ready i o ho (fun i => listed.getD i false) d.downS haft
    have hsz' : (listed.setIfInBounds i true).size = D.ops.size := by simpa using hsz
    have hc' : ((List.range D.ops.size).filter fun j => !(listed.setIfInBounds i true).getD j true).length ≤ fuel := by
      have := filter_lt (p := fun j => !listed.getD j true) (q := fun j => !(listed.setIfInBounds i true).getD j true) (List.range D.ops.size) (fun x hx => by
        simp only [Array.getD_eq_getD_getElem?, Array.getElem?_setIfInBounds] at hx ⊢
        by_cases e : i = x
        · subst e; simp [show i < listed.size by omega] at hx
        · rwa [if_neg e] at hx) i (List.mem_range.2 hiN) (by simp [hiL]) (by
        simp only [Array.getD_eq_getD_getElem?, Array.getElem?_setIfInBounds]
        simp [show i < listed.size by omega])
      omega
    have go : ∀ (m' : Nat) (todo' : List Nat) (F' : Fr) (M' : Me) (G' : Gh) (a' : Act) (w' : World), m' ≤ n → (run m' X (.draw D todo') F' M' k).sat Q ρ → DI X.P ρ D F0 todo' F' M' (Sadd (fun i => listed.getD i false) i) G' a' w' G0 M0 w0 → Rest D todo' → wpAnyIn (Fx X.E X.P rd) 0 X.P .any D.ops R fuel (listed.setIfInBounds i true) a' w' := by
      intro m' todo' F' M' G' a' w' hm' hs hd hr'
      rw [← set_S listed i (by omega)] at hd
      exact ih _ G' a' w' m' todo' F' M' hm' hsz' hc' hs hd hr'
    by_cases hit : i ∈ todo
    · -- it is the heavy one that is next
      rcases hr with e | ⟨h, r, e, hh⟩
      · rw [e] at hit; simp at hit
      · subst e
        have hih : i = h := by
          rcases List.mem_cons.1 hit with e | hir
          · exact e
          · exfalso
            have := hb h (d.valid.2.2.1 hh i hir)
            have := d.SD h (List.mem_cons_self ..)
            simp_all
        subst hih
        have hk : kindOf o = .h := by
          unfold isH at hh
          rw [ho] at hh
          simpa using hh
        cases m with
        | zero => rw [run_zero] at sat; exact sat.elim
        | succ m =>
          refine d.heavy hrd hR Td ho hk hb sat (iops m (by omega)) fun F2 M2 G' a' w' hs hd => ?_
          obtain ⟨m', todo', F', M', h1, h2, h3, h4⟩ := pass_all Td r m F2 M2 hs hd
          exact go m' todo' F' M' G' a' w' (by omega) h2 h3 h4
    · exact d.light ho hit hS hb fun G' a' w' hd => go m todo F M G' a' w' hm sat hd hr
theorem draw_step {n : Nat} (hmix : X.P.follows .mixedOrders = true) (iops : ∀ m, m < n → SOps X ρ Q m) : SDraw X ρ Q n := by
  intro rd id ops l F M k G a w R hrd htidy hval sat hM hF hR
  have Td := tidy_ok htidy
  obtain ⟨hv, hmem⟩ := validB_ok ops _ l _ hval
  have hin : ∀ j, j < ops.size ↔ j ∈ l := fun j => by
    rw [← hmem j, Nat.testBit_two_pow_sub_one]; simp
  have hfree : ∀ i, G (M.nb + i) = none := fun i => by
    cases hg : G (M.nb + i) with
    | none => rfl
    | some g => have := hM.fresh _ _ hg; omega
  have hfreeM : ∀ i, hget M.hp (M.nb + i) = none := fun i => by
    cases hx : hget M.hp (M.nb + i) with
    | none => rfl
    | some y => obtain ⟨g, hg, _⟩ := hM.ob _ y hx; rw [hfree i] at hg; cases hg
  have hl0 : ∀ i, (Array.replicate ops.size false).getD i false = false := fun i => by
    rw [Array.getD_eq_getD_getElem?, Array.getElem?_replicate]
    split <;> rfl
  have hlive : ∀ b, hget (live ⟨ops, Region.before ops, M.nb⟩ (fun i => (Array.replicate ops.size false).getD i false) M.hp) b = hget M.hp b := fun b => by
    rw [hget_live]
    cases hx : inS ⟨ops, Region.before ops, M.nb⟩ (fun i => (Array.replicate ops.size false).getD i false) b with
    | true => rfl
    | false =>
      obtain ⟨j, hj, e, hs⟩ := inS_out hx
      rw [e]
      exact (hfreeM j).symm
  have up : MR ρ G { M with nb := M.nb + ops.size } w.drew := ⟨hM.pc, fun b g hg => Nat.lt_of_lt_of_le (hM.fresh b g hg) (Nat.le_add_right _ _), hM.drew.ob, hM.apart, hM.drew.sub⟩
  have sp : Stp ρ G M w G { M with nb := M.nb + ops.size } w.drew := ⟨G.le_refl, rfl, rfl, rfl, Nat.le_refl _, fun _ _ _ => rfl, fun _ h _ => h, Nat.le_add_right _ _, fun _ _ h => .inl h, fun _ h _ => h⟩
  have d : DI X.P ρ ⟨ops, Region.before ops, M.nb⟩ F l F { M with nb := M.nb + ops.size } (fun i => (Array.replicate ops.size false).getD i false) G a w.drew G M w := by
    refine ⟨hv, fun i hi => (hin i).2 hi, fun i hi => (by rw [hl0] at hi; cases hi), fun i hi => (by rw [hl0] at hi; cases hi), fun i hi hn => absurd ((hin i).1 hi) hn, fun i _ => hl0 i, fun i hi hn => absurd ((hin i).1 hi) hn, fun i o hi hn => absurd ((hin i).1 (oper_lt (D := ⟨ops, Region.before ops, M.nb⟩) hi)) hn, fun i hi o t ho ht => rfl, fun i _ => hfreeM i, hF.n, hF.df, fun t _ => hF.slot t, fun t _ => hF.slot t, up.hpc hlive hM.pc, fun i _ _ => hfree i, Nat.le_refl _, Nat.le_refl _, sp.hpc hlive⟩
  obtain ⟨m', todo', F', M', h1, h2, h3, h4⟩ := pass_all Td l n _ _ sat d
  refine wpIn_region_any hmix (any_ok hrd (D := ⟨ops, Region.before ops, M.nb⟩) Td iops hR ops.size (Array.replicate ops.size false) G a w.drew m' todo' F' M' h1 (by simp) ?_ h2 h3 h4)
  refine Nat.le_trans (List.length_filter_le ..) (by simp)
theorem sound (X : Cx) (φ : Fs) (hnp : φ.np = X.P.funcs.size) (hmix : X.P.follows .mixedOrders = true) (hS : SmyOk X.E X.P φ X.S) (hname : ∀ (f : FuncId) (fn : Func), X.P.funcs[f]? = some fn → fn.name ≠ "runtime.NumGoroutine") : ∀ n ρ Q, ρ.f = φ → SCode X ρ Q n ∧ SLoop X ρ Q n ∧ SOps X ρ Q n ∧ SCall X ρ Q n ∧ SDefers X ρ Q n ∧ SYield X ρ Q n := by
  intro n
  induction n using Nat.strongRecOn with
  | _ n ih =>
    intro ρ Q hφ
    cases n with
    | zero =>
      refine ⟨fun rd c F M k G a w R _ h => ?_, fun rd c F M k G a w R _ h => ?_, fun rd ops l F M k G a w R _ h => ?_, fun fid first cap args F M k G w vf vc va R h => ?_, fun fn ds pn F M k G w tmps cs u R h => ?_, fun b args F M k G w va R h => ?_⟩ <;> (rw [run_zero] at h; exact h.elim)
    | succ n =>
      obtain ⟨h1, h2, h3, h4, h5, h6⟩ := ih n (Nat.lt_succ_self n) ρ Q hφ
      exact ⟨code_step (by rw [hφ]; exact hnp) hname (fun ρ' Q' h => (ih n (Nat.lt_succ_self n) ρ' Q' (h.trans hφ)).1) h2 h3 h4 (draw_step hmix fun m hm => (ih m (by omega) ρ Q hφ).2.2.1), loop_step h1 h2, ops_step hname h3 h4 h6, call_step (by rw [hφ]; exact hS) h1 h5, defers_step hname h1 h5, yield_step (by rw [hφ]; exact hnp) h1⟩
theorem call_soundX {X : Cx} {ρ : Env} (hnp : ρ.f.np = X.P.funcs.size) (hmix : X.P.follows .mixedOrders = true) (hS : SmyOk X.E X.P ρ.f X.S) (hname : ∀ (f : FuncId) (fn : Func), X.P.funcs[f]? = some fn → fn.name ≠ "runtime.NumGoroutine") {n : Nat} {fid : FuncId} {args : List AV} {M : Me} {Q : Lf → Prop} {k : Lf → T} {G : Gh} {w : World} {va : Array Value} {R : Ending → World → Prop}
    (h : (run n X (.call (.func (.func fid) [] []) args) ⟨.lf, 0, []⟩ M k).sat Q ρ) (hM : MR ρ G M w) (hv : VRs ρ G args va) (hR : ∀ e w', CReach ρ Q k G M w e w' → R e w') : (∃ fn, X.P.funcs[fid]? = some fn ∧ fn.body.isNone = false) ∧ CallsIn (Fx X.E X.P none) 0 X.P fid va w R := by
  have := (sound X ρ.f hnp hmix hS hname n ρ Q rfl).2.2.2.1 fid [] [] args ⟨.lf, 0, []⟩ M k G w #[] #[] va R h hM ⟨rfl, fun i a v h => by simp at h⟩ ⟨rfl, fun i a v h => by simp at h⟩ hv hR
  simpa using this
theorem smy_nil {E : Bool} {P : Program} {φ : Fs} : SmyOk E P φ [] := fun fid sm h => by cases h
end
end Go.Proofs.YtkfjgggiopegbaaDoor
namespace Go.Proofs.YtkfjgggiopegbaaDoor
open Go.RowKit Go.Deep Go.ChangeShapes
def namesOk (P : Program) : Bool := P.funcs.toList.all fun fn => !decide (fn.name = "runtime.NumGoroutine")
theorem namesOk_ok {P : Program} (h : namesOk P = true) : ∀ (f : FuncId) (fn : Func), P.funcs[f]? = some fn → fn.name ≠ "runtime.NumGoroutine" := fun f fn hf => by
  have := List.all_eq_true.1 h fn (Array.mem_toList_iff.2 (Array.mem_of_getElem? hf))
  simpa using this
theorem start_okN {ρ : Env} {G : Gh} {w : World} {hp : List (Nat × Ob)} {nb nv : Nat} {fs : List LF} (hfs : Facts ρ fs) (hfr : ∀ b g, G b = some g → b < nb) (hob : ∀ b o, hget hp b = some o → ∃ g, G b = some g ∧ OR ρ G w g o) (hro : ∀ b o, hget hp b = some o → o.own = false) (hal : ∀ c p h k, hget hp c = some p → G c = some h → p.also h k → k < w.heap.size) : MR ρ G ⟨hp, nb, nv, ⟨[], fs⟩⟩ w :=
  ⟨⟨fun p hp => by simp at hp, hfs⟩, hfr, hob, fun b o c p g y hb hc ho => (by rw [hro b o hb] at ho; cases ho),
    fun c p h k hc hg hk => ⟨hal c p h k hc hg hk, fun ⟨b, o, g, q1, q2, _⟩ => by rw [hro b o q1] at q2; cases q2⟩⟩
def rng (lo hi : Int) (e : SE) : List LF := [⟨-lo, [(e, 1)]⟩, ⟨hi, [(e, -1)]⟩]
theorem rng_ok {ρ : Env} {lo hi : Int} {e : SE} (h0 : lo ≤ (e.den ρ).i) (h1 : (e.den ρ).i ≤ hi) {fs : List LF} (h : Facts ρ fs) : Facts ρ (rng lo hi e ++ fs) := by
  intro f hf
  simp only [rng, List.cons_append, List.nil_append, List.mem_cons] at hf
  rcases hf with e1 | e1 | hf
  · subst e1; simp only [LF.val, sumT]; omega
  · subst e1; simp only [LF.val, sumT]; omega
  · exact h f hf
theorem facts_nil (ρ : Env) : Facts ρ [] := fun f hf => by simp at hf
end Go.Proofs.YtkfjgggiopegbaaDoor
namespace Go.Proofs.YtkfjgggiopegbaaDoor
open Go.RowKit
inductive PT where
  | leaf (es : List SE)
  | br (c : SE) (t e : PT)
  | asrt (c : SE) (t : PT)
  | fail
  | loop (nv : Nat) (x0 : List SE) (body rest : PT)
  | both (t e : PT)
def sameL : List SE → List SE → Bool
  | [], [] => true
  | a :: r, b :: s => decide (a = b) && sameL r s
  | _, _ => false
def PT.same : PT → PT → Bool
  | .leaf a, .leaf b => sameL a b
  | .br c t e, .br c' t' e' => decide (c = c') && (t.same t' && e.same e')
  | .asrt c t, .asrt c' t' => decide (c = c') && t.same t'
  | .fail, .fail => true
  | .both t e, .both t' e' => t.same t' && e.same e'
  | .loop nv x b r, .loop nv' x' b' r' => Nat.beq nv nv' && (sameL x x' && (b.same b' && r.same r'))
  | _, _ => false
theorem sameL_eq : ∀ {a b : List SE}, sameL a b = true → a = b
  | [], [], _ => rfl
  | [], _ :: _, h => by cases h
  | _ :: _, [], h => by cases h
  | a :: r, b :: s, h => by
    simp only [sameL, Bool.and_eq_true, decide_eq_true_eq] at h
    rw [h.1, sameL_eq h.2]
theorem PT.same_eq : ∀ {a b : PT}, a.same b = true → a = b
  | .leaf a, b, h => by
    cases b <;> simp only [PT.same] at h <;> first | (cases h; done) | skip
    rw [sameL_eq h]
  | .br c t e, b, h => by
    cases b <;> simp only [PT.same, Bool.and_eq_true, decide_eq_true_eq] at h <;> first | (cases h; done) | skip
    rw [h.1, PT.same_eq h.2.1, PT.same_eq h.2.2]
  | .asrt c t, b, h => by
    cases b <;> simp only [PT.same, Bool.and_eq_true, decide_eq_true_eq] at h <;> first | (cases h; done) | skip
    rw [h.1, PT.same_eq h.2]
  | .fail, b, h => by cases b <;> simp only [PT.same] at h <;> first | (cases h; done) | rfl
  | .both t e, b, h => by
    cases b <;> simp only [PT.same, Bool.and_eq_true] at h <;> first | (cases h; done) | skip
    rw [PT.same_eq h.1, PT.same_eq h.2]
  | .loop nv x t r, b, h => by
    cases b <;> simp only [PT.same, Bool.and_eq_true, beq_iff] at h <;> first | (cases h; done) | skip
    rw [h.1, sameL_eq h.2.1, PT.same_eq h.2.2.1, PT.same_eq h.2.2.2]
def T.sc (nv : Nat) : T → Bool
  | .ret (.nxt es) => es.all (SE.sc nv)
  | .ret _ => true
  | .br c t e => c.sc nv && (t.sc nv && e.sc nv)
  | .asrt c t => c.sc nv && t.sc nv
  | .both _ _ => false
  | .fail _ => true
  | .loop nv' x b r => Nat.beq nv' nv && (x.all (SE.sc nv) && (b.sc (nv + x.length) && r.sc (nv + x.length)))
def over (ρ : Env) (nv : Nat) (x : List DV) : Env := ⟨fun i => if i < nv then ρ.v i else (x[i - nv]?).getD (ρ.v i), ρ.f⟩
def PT.satE (t : PT) (K : List DV → Prop) (ρ : Env) : Prop :=
  match t with
  | .leaf es => K (es.map (·.den ρ))
  | .br c t e => ((c.den ρ).b = true → t.satE K ρ) ∧ ((c.den ρ).b = false → e.satE K ρ)
  | .asrt c t => (c.den ρ).b = true ∧ t.satE K ρ
  | .both t e => t.satE K ρ ∧ e.satE K ρ
  | .fail => False
  | .loop nv x0 body rest => ∃ (m : Nat) (st : Nat → List DV), st 0 = x0.map (·.den ρ) ∧ (∀ j, j ≤ m → (st j).length = x0.length) ∧
      (∀ j, j < m → body.satE (fun ys => ys = st (j + 1)) (over ρ nv (st j))) ∧ rest.satE K (over ρ nv (st m))
theorem over_ok (ρ : Env) (nv : Nat) (x : List DV) : Over ρ (over ρ nv x) nv x := by
  refine ⟨⟨fun i hi => by show (if i < nv then _ else _) = _; rw [if_pos hi], rfl⟩, fun j d hj => ?_⟩
  show (if nv + j < nv then _ else _) = d
  rw [if_neg (by omega), show nv + j - nv = j by omega, hj]
  rfl
theorem map_sc {nv : Nat} {ρ ρ' : Env} (h : Agree nv ρ ρ') : ∀ {es : List SE}, es.all (SE.sc nv) = true → es.map (·.den ρ') = es.map (·.den ρ)
  | [], _ => rfl
  | e :: r, he => by
    simp only [List.all_cons, Bool.and_eq_true] at he
    simp only [List.map_cons, SE.sc_den h he.1, map_sc h he.2]
theorem sat_mono {Q Q' : Lf → Prop} (hq : ∀ l, Q l → Q' l) : ∀ {t : T} {ρ : Env}, t.sat Q ρ → t.sat Q' ρ
  | .ret l, ρ, h => hq l h
  | .br c t e, ρ, h => ⟨fun hc => sat_mono hq (h.1 hc), fun hc => sat_mono hq (h.2 hc)⟩
  | .asrt c t, ρ, h => ⟨h.1, sat_mono hq h.2⟩
  | .both t e, ρ, h => ⟨sat_mono hq h.1, sat_mono hq h.2⟩
  | .fail _, ρ, h => h.elim
  | .loop nv x b r, ρ, h => ⟨h.1, sat_mono hq h.2⟩
def leafIs (K : List DV → Prop) (ρ : Env) (l : Lf) : Prop := ∃ es, l = .nxt es ∧ K (es.map (·.den ρ))
def envL (φ : Fs) (xs : List DV) : Env := ⟨fun i => (xs[i]?).getD (.int 0), φ⟩
inductive Rounds (B : List DV → List DV → Prop) (R : List DV → Prop) : List DV → Prop where
  | done {x : List DV} : R x → Rounds B R x
  | step {x : List DV} (y : List DV) : B x y → y.length = x.length → Rounds B R y → Rounds B R x
def Sat (φ : Fs) (t : PT) (K : List DV → Prop) (xs : List DV) : Prop :=
  match t with
  | .leaf es => K (es.map (·.den (envL φ xs)))
  | .br c t e => ((c.den (envL φ xs)).b = true → Sat φ t K xs) ∧ ((c.den (envL φ xs)).b = false → Sat φ e K xs)
  | .asrt c t => (c.den (envL φ xs)).b = true ∧ Sat φ t K xs
  | .both t e => Sat φ t K xs ∧ Sat φ e K xs
  | .fail => False
  | .loop nv x0 body rest => nv = xs.length ∧ Rounds (fun x y => Sat φ body (fun z => z = y) (xs ++ x)) (fun x => Sat φ rest K (xs ++ x)) (x0.map (·.den (envL φ xs)))
theorem rounds_told {B : List DV → List DV → Prop} {R : List DV → Prop} {x : List DV} (h : Rounds B R x) : ∃ (m : Nat) (st : Nat → List DV), st 0 = x ∧ (∀ j, j ≤ m → (st j).length = x.length) ∧ (∀ j, j < m → B (st j) (st (j + 1))) ∧ R (st m) := by
  induction h with
  | done h => exact ⟨0, fun _ => _, rfl, fun _ _ => rfl, fun j hj => absurd hj (by omega), h⟩
  | @step x y h1 h2 h3 ih =>
    obtain ⟨m, st, k1, k2, k3, k4⟩ := ih
    refine ⟨m + 1, fun j => match j with | 0 => x | j + 1 => st j, rfl, fun j hj => ?_, fun j hj => ?_, k4⟩
    · cases j with
      | zero => rfl
      | succ j => show (st j).length = _; rw [k2 j (by omega), h2]
    · cases j with
      | zero => show B x (st 0); rw [k1]; exact h1
      | succ j => exact k3 j (by omega)
theorem envL_over (φ : Fs) (xs x : List DV) : over (envL φ xs) xs.length x = envL φ (xs ++ x) := by
  unfold over envL
  simp only [Env.mk.injEq, and_true]
  funext i
  by_cases h : i < xs.length
  · rw [if_pos h, List.getElem?_append_left h]
  · rw [if_neg h, List.getElem?_append_right (by omega), List.getElem?_eq_none (by omega : xs.length ≤ i)]
    rfl
theorem sat_E {φ : Fs} : ∀ (t : PT) (K : List DV → Prop) (xs : List DV), Sat φ t K xs → t.satE K (envL φ xs)
  | .leaf es, K, xs, h => h
  | .br c t e, K, xs, h => ⟨fun hc => sat_E t K xs (h.1 hc), fun hc => sat_E e K xs (h.2 hc)⟩
  | .asrt c t, K, xs, h => ⟨h.1, sat_E t K xs h.2⟩
  | .both t e, K, xs, h => ⟨sat_E t K xs h.1, sat_E e K xs h.2⟩
  | .fail, K, xs, h => h
  | .loop nv x0 b r, K, xs, h => by
    obtain ⟨rfl, h⟩ := h
    obtain ⟨m, st, k1, k2, k3, k4⟩ := rounds_told h
    refine ⟨m, st, k1, fun j hj => by rw [k2 j hj]; simp, fun j hj => ?_, ?_⟩
    · rw [envL_over]; exact sat_E b _ _ (k3 j hj)
    · rw [envL_over]; exact sat_E r _ _ k4
def T.flat : T → Bool
  | .ret _ => true
  | .fail _ => true
  | .asrt _ t => t.flat
  | .br _ t e => t.flat && e.flat
  | .both t e => t.flat && e.flat
  | .loop .. => false
def T.chk (nv : Nat) : T → PT → Bool
  | .ret l, p => (match l, p with | .nxt es, .leaf es' => sameL es es' && es.all (SE.sc nv) | _, .fail => true | _, _ => false)
  | .fail _, p => (match p with | .fail => true | _ => false)
  | .asrt c t, p => (match p with | .asrt c' p => decide (c = c') && (c.sc nv && t.chk nv p) | _ => false)
  | .both t e, p => (match p with | .both p q => t.flat && (e.flat && (t.chk nv p && e.chk nv q)) | _ => false)
  | .br c t e, p => c.sc nv && (match p with
    | .br c' p q => if c = c' then t.chk nv p && e.chk nv q else t.chk nv (.br c' p q) && e.chk nv (.br c' p q)
    | p => t.chk nv p && e.chk nv p)
  | .loop nv' x b r, p => (match p with | .loop nv2 x' p q => Nat.beq nv' nv && (Nat.beq nv2 nv && (sameL x x' && (x.all (SE.sc nv) && (b.chk (nv + x.length) p && r.chk (nv + x.length) q)))) | _ => false)
theorem flat_sat : ∀ (t : T) (p : PT) (nv : Nat) (ρ : Env) (K : List DV → Prop), t.flat = true → t.chk nv p = true → p.satE K ρ → t.sat (leafIs K ρ) ρ
  | .ret l, p, nv, ρ, K, hf, hs, h => by
    unfold T.chk at hs
    split at hs
    · simp only [Bool.and_eq_true] at hs
      have := sameL_eq hs.1
      subst this
      exact ⟨_, rfl, h⟩
    · exact h.elim
    · cases hs
  | .fail _, p, nv, ρ, K, hf, hs, h => by
    unfold T.chk at hs
    split at hs
    · exact h.elim
    · cases hs
  | .asrt c t, p, nv, ρ, K, hf, hs, h => by
    unfold T.chk at hs
    split at hs
    · simp only [Bool.and_eq_true, decide_eq_true_eq] at hs
      obtain ⟨rfl, hs1, hs2⟩ := hs
      exact ⟨h.1, flat_sat t _ nv ρ K hf hs2 h.2⟩
    · cases hs
  | .both t e, p, nv, ρ, K, hf, hs, h => by
    unfold T.chk at hs
    split at hs
    · simp only [Bool.and_eq_true] at hs
      exact ⟨flat_sat t _ nv ρ K hs.1 hs.2.2.1 h.1, flat_sat e _ nv ρ K hs.2.1 hs.2.2.2 h.2⟩
    · cases hs
  | .br c t e, p, nv, ρ, K, hf, hs, h => by
    unfold T.chk at hs
    simp only [T.flat, Bool.and_eq_true] at hs hf
    obtain ⟨hsc, hs⟩ := hs
    split at hs
    · rename_i c' p' q'
      split at hs
      · rename_i hcc
        subst hcc
        simp only [Bool.and_eq_true] at hs
        exact ⟨fun hc => flat_sat t _ nv ρ K hf.1 hs.1 (h.1 hc), fun hc => flat_sat e _ nv ρ K hf.2 hs.2 (h.2 hc)⟩
      · simp only [Bool.and_eq_true] at hs
        exact ⟨fun _ => flat_sat t _ nv ρ K hf.1 hs.1 h, fun _ => flat_sat e _ nv ρ K hf.2 hs.2 h⟩
    · simp only [Bool.and_eq_true] at hs
      exact ⟨fun _ => flat_sat t _ nv ρ K hf.1 hs.1 h, fun _ => flat_sat e _ nv ρ K hf.2 hs.2 h⟩
  | .loop .., p, nv, ρ, K, hf, hs, h => by cases hf
theorem chk_sat : ∀ (t : T) (p : PT) (nv : Nat) (ρ : Env) (K : List DV → Prop), t.chk nv p = true → p.satE K ρ → ∃ ρ', Agree nv ρ ρ' ∧ t.sat (leafIs K ρ') ρ'
  | .ret l, p, nv, ρ, K, hs, h => by
    unfold T.chk at hs
    split at hs
    · simp only [Bool.and_eq_true] at hs
      have := sameL_eq hs.1
      subst this
      exact ⟨ρ, Agree.refl _ _, _, rfl, h⟩
    · exact h.elim
    · cases hs
  | .fail _, p, nv, ρ, K, hs, h => by
    unfold T.chk at hs
    split at hs
    · exact h.elim
    · cases hs
  | .asrt c t, p, nv, ρ, K, hs, h => by
    unfold T.chk at hs
    split at hs
    · simp only [Bool.and_eq_true, decide_eq_true_eq] at hs
      obtain ⟨rfl, hs1, hs2⟩ := hs
      obtain ⟨ρ', h1, h2⟩ := chk_sat t _ nv ρ K hs2 h.2
      exact ⟨ρ', h1, by rw [SE.sc_den h1 hs1]; exact h.1, h2⟩
    · cases hs
  | .both t e, p, nv, ρ, K, hs, h => by
    unfold T.chk at hs
    split at hs
    · simp only [Bool.and_eq_true] at hs
      exact ⟨ρ, Agree.refl _ _, flat_sat t _ nv ρ K hs.1 hs.2.2.1 h.1, flat_sat e _ nv ρ K hs.2.1 hs.2.2.2 h.2⟩
    · cases hs
  | .br c t e, p, nv, ρ, K, hs, h => by
    unfold T.chk at hs
    simp only [Bool.and_eq_true] at hs
    obtain ⟨hsc, hs⟩ := hs
    have fin : ((c.den ρ).b = true → ∃ p, t.chk nv p = true ∧ p.satE K ρ) → ((c.den ρ).b = false → ∃ p, e.chk nv p = true ∧ p.satE K ρ) → ∃ ρ', Agree nv ρ ρ' ∧ (T.br c t e).sat (leafIs K ρ') ρ' := by
      intro ht he
      cases hc : (c.den ρ).b with
      | true =>
        obtain ⟨p, h1, h2⟩ := ht hc
        obtain ⟨ρ', k1, k2⟩ := chk_sat t p nv ρ K h1 h2
        exact ⟨ρ', k1, ⟨fun _ => k2, fun h => by rw [SE.sc_den k1 hsc, hc] at h; cases h⟩⟩
      | false =>
        obtain ⟨p, h1, h2⟩ := he hc
        obtain ⟨ρ', k1, k2⟩ := chk_sat e p nv ρ K h1 h2
        exact ⟨ρ', k1, ⟨fun h => (by rw [SE.sc_den k1 hsc, hc] at h; cases h), fun _ => k2⟩⟩
    split at hs
    · rename_i c' p' q'
      split at hs
      · rename_i hcc
        subst hcc
        simp only [Bool.and_eq_true] at hs
        exact fin (fun hc => ⟨_, hs.1, h.1 hc⟩) (fun hc => ⟨_, hs.2, h.2 hc⟩)
      · simp only [Bool.and_eq_true] at hs
        exact fin (fun _ => ⟨_, hs.1, h⟩) (fun _ => ⟨_, hs.2, h⟩)
    · simp only [Bool.and_eq_true] at hs
      exact fin (fun _ => ⟨_, hs.1, h⟩) (fun _ => ⟨_, hs.2, h⟩)
  | .loop nv' x b r, p, nv, ρ, K, hs, h => by
    unfold T.chk at hs
    split at hs
    · rename_i nv2 x' pb pr
      simp only [Bool.and_eq_true, beq_iff] at hs
      obtain ⟨rfl, rfl, hxx, hx, hb, hr⟩ := hs
      have := sameL_eq hxx
      subst this
      obtain ⟨m, st, h0, hlen, hround, hlast⟩ := h
      obtain ⟨ρf, hf1, hf2⟩ := chk_sat r pr _ (over ρ nv2 (st m)) K hr hlast
      have hA : Agree nv2 ρ ρf := (over_ok ρ nv2 (st m)).1.trans (hf1.mono (Nat.le_add_right _ _))
      have hz : ((List.range x.length).map fun j => ρf (nv2 + j)) = st m := by
        apply List.ext_getElem?
        intro j
        rw [List.getElem?_map]
        by_cases hj : j < x.length
        · rw [List.getElem?_range hj]
          obtain ⟨d, hd⟩ : ∃ d, (st m)[j]? = some d := ⟨_, List.getElem?_eq_getElem (by rw [hlen m (Nat.le_refl m)]; exact hj)⟩
          rw [hd]
          have := (over_ok ρ nv2 (st m)).2 j d hd
          simp only [Option.map_some, Option.some.injEq]
          rw [hf1.1 _ (by omega)]
          exact this
        · rw [List.getElem?_eq_none (by simpa using hj), List.getElem?_eq_none (by rw [hlen m (Nat.le_refl m)]; omega)]
          rfl
      refine ⟨ρf, hA, ⟨m, ?_⟩, hf2⟩
      rw [hz, map_sc hA hx, ← h0]
      have step : ∀ d j, j + d = m → rounds (fun x K => ∃ ρ', Over ρf ρ' nv2 x ∧ b.sat (fun l => ∃ xs, l = .nxt xs ∧ K (xs.map (·.den ρ'))) ρ') d (st j) (st m) := by
        intro d
        induction d with
        | zero => intro j hj; have : j = m := by omega
                  subst this; rfl
        | succ d ih =>
          intro j hj
          obtain ⟨ρj, g1, g2⟩ := chk_sat b pb _ (over ρ nv2 (st j)) _ hb (hround j (by omega))
          have hAj : Agree nv2 ρ ρj := (over_ok ρ nv2 (st j)).1.trans (g1.mono (Nat.le_add_right _ _))
          refine ⟨ρj, ⟨hA.symm.trans hAj, fun i d hi => ?_⟩, ?_⟩
          · have hil := (List.getElem?_eq_some_iff.1 hi).1
            rw [hlen j (by omega)] at hil
            rw [g1.1 _ (by omega)]
            exact (over_ok ρ nv2 (st j)).2 i d hi
          · refine sat_mono (fun l hl => ?_) g2
            obtain ⟨xs, rfl, hxs⟩ := hl
            exact ⟨xs, rfl, by rw [hxs]; exact ih (j + 1) (by omega)⟩
      exact step m 0 (by omega)
    · cases hs
def CK.nrm : CK → DV → DV
  | .int _, d => .int d.i
  | .bool, d => .bool d.b
  | .str, d => .str d.s
theorem CK.nrm_val (k : CK) (d : DV) : k.val (k.nrm d) = k.val d := by cases k <;> rfl
def rowN (ks : List CK) (d : DV) : DV := match ks with | [k] => k.nrm d | ks => .list (ks.zipIdx.map fun p => p.1.nrm (d.l[p.2]?.getD (.int 0)))
def NK.nrm : NK → DV → DV
  | .pl k, d => k.nrm d
  | .sub ks, d => .list (d.l.map (rowN ks))
def nrowN (ns : List NK) (d : DV) : DV := .list (ns.zipIdx.map fun p => p.1.nrm (cellN d p.2))
def Cl.nrm : Cl → DV → DV
  | .pl k, d => k.nrm d
  | .rows _ ks, d => .list (d.l.map (rowN ks))
  | .nst ns, d => .list (d.l.map (nrowN ns))
theorem nrowN_cell (ns : List NK) (d : DV) (j : Nat) (k : NK) (hj : ns[j]? = some k) : cellN (nrowN ns d) j = k.nrm (cellN d j) := by
  show (((ns.zipIdx.map fun p => p.1.nrm (cellN d p.2))[j]?).getD (.int 0)) = _
  rw [List.getElem?_map, List.getElem?_zipIdx, hj]
  simp
theorem rowN_val (ks : List CK) (d : DV) (j : Nat) (k : CK) (hj : ks[j]? = some k) : k.val (cellD ks (rowN ks d) j) = k.val (cellD ks d j) := by
  unfold rowN cellD
  match ks, hj with
  | [k'], hj =>
    cases j with
    | zero => simp at hj; subst hj; exact CK.nrm_val _ _
    | succ j => simp at hj
  | [], hj => simp at hj
  | a :: b :: r, hj =>
    simp only
    rw [show (DV.list (((a :: b :: r).zipIdx).map fun p => p.1.nrm (d.l[p.2]?.getD (.int 0)))).l = ((a :: b :: r).zipIdx).map fun p => p.1.nrm (d.l[p.2]?.getD (.int 0)) from rfl]
    rw [List.getElem?_map, List.getElem?_zipIdx, hj]
    simp only [Option.map_some, Option.getD_some, Nat.zero_add]
    exact CK.nrm_val _ _
def nrmL : List Cl → List DV → List DV
  | c :: cs, d :: ds => c.nrm d :: nrmL cs ds
  | _, _ => []
theorem sameMap {f : DV → DV} {l l' : List DV} (h : l.map f = l'.map f) {i : Nat} {x : DV} (hi : l'[i]? = some x) : ∃ y, l[i]? = some y ∧ f y = f x := by
  have hl : l.length = l'.length := by have := congrArg List.length h; simpa using this
  have hil := (List.getElem?_eq_some_iff.1 hi).1
  refine ⟨_, List.getElem?_eq_getElem (by omega), ?_⟩
  have := congrArg (fun l => l[i]?) h
  simp only [List.getElem?_map, hi, Option.map_some, List.getElem?_eq_getElem (show i < l.length by omega), Option.some.injEq] at this
  exact this
theorem subAt_nrm {w : World} {ks : List CK} {l l' : List DV} {v : Value} (h : SubAt w ks l v) (he : l.map (rowN ks) = l'.map (rowN ks)) : SubAt w ks l' v := by
  obtain ⟨h1, a, n, c, rfl, h2, h3, h4, h5⟩ := h
  have hl : l.length = l'.length := by have := congrArg List.length he; simpa using this
  refine ⟨h1, a, n, c, rfl, by rw [← hl]; exact h2, h3, h4, fun i j x k hi hj => ?_⟩
  obtain ⟨y, hy, hxy⟩ := sameMap he hi
  obtain ⟨blk, off, rfl, hc⟩ := h5 i j y k hy hj
  exact ⟨blk, off, rfl, by rw [hc, ← rowN_val ks y j k hj, hxy, rowN_val ks x j k hj]⟩
theorem rdg_nrm {w : World} {c : Cl} {v : Value} {d d' : DV} {g : GI} (h : c.rdg w v d g) (he : c.nrm d = c.nrm d') : c.rdg w v d' g := by
  cases c with
  | pl k =>
    have h : v = k.val d := h
    show v = k.val d'
    rw [h, ← CK.nrm_val k d, ← CK.nrm_val k d']
    exact congrArg k.val he
  | rows o ks =>
    obtain ⟨h1, h2, ad, n, cp, rfl, h3, h4, h5, h6⟩ := h
    have he : d.l.map (rowN ks) = d'.l.map (rowN ks) := by have := congrArg DV.l he; exact this
    have hl : d.l.length = d'.l.length := by have := congrArg List.length he; simpa using this
    refine ⟨h1, fun i j x k hi hj => ?_, ad, n, cp, rfl, by rw [← hl]; exact h3, h4, h5, h6⟩
    have hil := (List.getElem?_eq_some_iff.1 hi).1
    obtain ⟨y, hy⟩ : ∃ y, d.l[i]? = some y := ⟨_, List.getElem?_eq_getElem (by omega)⟩
    have hxy : rowN ks y = rowN ks x := by
      have := congrArg (fun l => l[i]?) he
      simp only [List.getElem?_map, hy, hi, Option.map_some, Option.some.injEq] at this
      exact this
    rw [h2 i j y k hy hj, ← rowN_val ks y j k hj, hxy, rowN_val ks x j k hj]
  | nst ns =>
    obtain ⟨h1, h2, ⟨ad, n, cp, rfl, h3, h4, h5, h6⟩, h7⟩ := h
    have he : d.l.map (nrowN ns) = d'.l.map (nrowN ns) := by have := congrArg DV.l he; exact this
    have hl : d.l.length = d'.l.length := by have := congrArg List.length he; simpa using this
    refine ⟨h1, fun i j x k hi hj => ?_, ⟨ad, n, cp, rfl, by rw [← hl]; exact h3, h4, h5, h6⟩, h7⟩
    obtain ⟨y, hy, hxy⟩ := sameMap he hi
    obtain ⟨v, hv, hk⟩ := h2 i j y k hy hj
    refine ⟨v, hv, ?_⟩
    have hc : k.nrm (cellN y j) = k.nrm (cellN x j) := by rw [← nrowN_cell ns y j k hj, hxy, nrowN_cell ns x j k hj]
    cases k with
    | pl k =>
      have hk : v = k.val (cellN y j) := hk
      show v = k.val (cellN x j)
      have hc : k.nrm (cellN y j) = k.nrm (cellN x j) := hc
      rw [hk, ← CK.nrm_val k (cellN y j), hc, CK.nrm_val]
    | sub ks => exact ⟨hk.1, subAt_nrm hk.2 (congrArg DV.l hc)⟩
theorem CK.nrm_nrm (k : CK) (d : DV) : k.nrm (k.nrm d) = k.nrm d := by cases k <;> rfl
theorem rowN_rowN (ks : List CK) (x : DV) : rowN ks (rowN ks x) = rowN ks x := by
  unfold rowN
  match ks with
  | [k] => exact CK.nrm_nrm k x
  | [] => rfl
  | a :: b :: r =>
    simp only
    congr 1
    apply List.ext_getElem?
    intro j
    simp only [List.getElem?_map, List.getElem?_zipIdx]
    cases hj : (a :: b :: r)[j]? with
    | none => rfl
    | some k =>
      simp only [Option.map_some, Nat.zero_add]
      congr 1
      rw [show (DV.list (((a :: b :: r).zipIdx).map fun p => p.1.nrm (x.l[p.2]?.getD (.int 0)))).l = ((a :: b :: r).zipIdx).map fun p => p.1.nrm (x.l[p.2]?.getD (.int 0)) from rfl]
      rw [List.getElem?_map, List.getElem?_zipIdx, hj]
      simp only [Option.map_some, Option.getD_some, Nat.zero_add]
      exact CK.nrm_nrm k _
theorem rowsN_rowsN (ks : List CK) (l : List DV) : (l.map (rowN ks)).map (rowN ks) = l.map (rowN ks) := by
  rw [List.map_map]
  exact List.map_congr_left fun x _ => rowN_rowN ks x
theorem NK.nrm_nrm (k : NK) (d : DV) : k.nrm (k.nrm d) = k.nrm d := by
  cases k with
  | pl k => exact CK.nrm_nrm k d
  | sub ks => exact congrArg DV.list (rowsN_rowsN ks d.l)
theorem nrowN_nrowN (ns : List NK) (x : DV) : nrowN ns (nrowN ns x) = nrowN ns x := by
  show DV.list _ = DV.list _
  congr 1
  apply List.ext_getElem?
  intro j
  simp only [List.getElem?_map, List.getElem?_zipIdx]
  cases hj : ns[j]? with
  | none => rfl
  | some k =>
    simp only [Option.map_some, Nat.zero_add]
    rw [nrowN_cell ns x j k hj, NK.nrm_nrm]
theorem nrm_nrm (c : Cl) (d : DV) : c.nrm (c.nrm d) = c.nrm d := by
  cases c with
  | pl k => exact CK.nrm_nrm k d
  | rows o ks => exact congrArg DV.list (rowsN_rowsN ks d.l)
  | nst ns =>
    show DV.list ((d.l.map (nrowN ns)).map (nrowN ns)) = _
    rw [List.map_map]
    exact congrArg DV.list (List.map_congr_left fun x _ => nrowN_nrowN ns x)
theorem reads_nrm {w : World} : ∀ {cs : List Cl} {vs : List Value} {ds : List DV} {gs : List GI}, Reads w cs vs ds gs → Reads w cs vs (nrmL cs ds) gs
  | [], vs, ds, gs, h => by obtain ⟨rfl, rfl, rfl⟩ := h; exact ⟨rfl, rfl, rfl⟩
  | c :: cs, vs, ds, gs, h => by
    obtain ⟨v, vs', d, ds', g, gs', rfl, rfl, rfl, h1, h2⟩ := h
    exact ⟨v, vs', c.nrm d, nrmL cs ds', g, gs', rfl, rfl, rfl, rdg_nrm h1 (nrm_nrm c d).symm, reads_nrm h2⟩
theorem reads_len {w : World} : ∀ {cs : List Cl} {vs : List Value} {ds : List DV} {gs : List GI}, Reads w cs vs ds gs → vs.length = cs.length ∧ ds.length = cs.length ∧ gs.length = cs.length
  | [], vs, ds, gs, h => by obtain ⟨rfl, rfl, rfl⟩ := h; exact ⟨rfl, rfl, rfl⟩
  | c :: cs, vs, ds, gs, h => by
    obtain ⟨v, vs', d, ds', g, gs', rfl, rfl, rfl, h1, h2⟩ := h
    obtain ⟨a, b, c⟩ := reads_len h2
    exact ⟨by simp [a], by simp [b], by simp [c]⟩
end Go.Proofs.YtkfjgggiopegbaaDoor
noncomputable section
namespace Go.Proofs.YtkfjgggiopegbaaDoor
open Go.RowKit
section
variable {ρ : Env} {G : Gh} {w : World}
def InOb (w : World) (b : Nat) (g : GI) (c : Cl) (o : Ob) : Prop := (∃ own ks, c = .rows own ks ∧ o = .ro ks (.var b)) ∨ (∃ ns, c = .nst ns ∧ o = .nro ns (.var b) ∧ ∀ k, hdk g k → k < w.heap.size)
theorem inX_ok : ∀ (cs : List Cl) (i : Nat) (vs : List Value) (ds : List DV) (gs : List GI), Reads w cs vs ds gs → (∀ (n : Nat) d, ds[n]? = some d → ρ.v (i + n) = d) → (∀ (n : Nat) g, gs[n]? = some g → G (i + n) = some g) →
    VRs ρ G (inX cs i).1 vs.toArray ∧ ∀ b o, hget (inX cs i).2 b = some o → ∃ (n : Nat) (c : Cl) (d : DV) (g : GI), b = i + n ∧ cs[n]? = some c ∧ ds[n]? = some d ∧ gs[n]? = some g ∧ G b = some g ∧ OR ρ G w g o ∧ InOb w b g c o
  | [], i, vs, ds, gs, h, hd, hg => by
    obtain ⟨rfl, rfl, rfl⟩ := h
    exact ⟨vrs_nil', fun b o hb => by cases hb⟩
  | c :: cs, i, vs, ds, gs, h, hd, hg => by
    obtain ⟨v, vs', d, ds', g, gs', rfl, rfl, rfl, h1, h2⟩ := h
    have e1 : ∀ n : Nat, i + 1 + n = i + (n + 1) := fun n => by omega
    obtain ⟨k1, k2⟩ := inX_ok cs (i + 1) vs' ds' gs' h2 (fun n d h => by rw [e1]; exact hd (n + 1) d (by simpa using h)) (fun n g h => by rw [e1]; exact hg (n + 1) g (by simpa using h))
    have hd0 : ρ.v i = d := hd 0 d rfl
    have hg0 : G i = some g := hg 0 g rfl
    have tail : ∀ b o, hget (inX cs (i + 1)).2 b = some o → ∃ (n : Nat) (c' : Cl) (d' : DV) (g' : GI), b = i + n ∧ (c :: cs)[n]? = some c' ∧ (d :: ds')[n]? = some d' ∧ (g :: gs')[n]? = some g' ∧ G b = some g' ∧ OR ρ G w g' o ∧ InOb w b g' c' o := by
      intro b o hb
      obtain ⟨n, c', d', g', q1, q2, q3, q4, q5, q6, q7⟩ := k2 b o hb
      exact ⟨n + 1, c', d', g', by omega, by simpa using q2, by simpa using q3, by simpa using q4, q5, q6, q7⟩
    cases c with
    | pl k =>
      refine ⟨vrs_cons ?_ k1, tail⟩
      have h1 : v = k.val d := h1
      rw [h1]
      exact ck_ok k (.var i) d hd0
    | rows own ks =>
      obtain ⟨hkn, hat, ad, n, cp, rfl, hl, hnc, had, hsz⟩ := h1
      refine ⟨vrs_cons ?_ k1, fun b o hb => ?_⟩
      · refine .sl _ _ _ _ _ g _ _ _ hg0 ?_ (Int.le_refl 0) hnc (fun e he => by cases he) (fun hc => by rw [had hc]; simp [SE.den, DV.i]) (by simp [SE.den, DV.i]; exact hsz)
        show ((ρ.v i).l.length : Int) = n
        rw [hd0, hl]
      · have hb : hget ((i, Ob.ro ks (.var i)) :: (inX cs (i + 1)).2) b = some o := hb
        rw [hget_cons] at hb
        split at hb
        · rename_i e
          cases hb
          subst e
          refine ⟨0, .rows own ks, d, g, rfl, rfl, rfl, rfl, hg0, ⟨hkn, fun q j x k hq hj => ?_⟩, .inl ⟨own, ks, rfl, rfl⟩⟩
          have hq : (ρ.v i).l[q]? = some x := hq
          rw [hd0] at hq
          exact hat q j x k hq hj
        · exact tail b o hb
    | nst ns =>
      obtain ⟨hkn, hat, ⟨ad, n, cp, rfl, hl, hnc, had, hsz⟩, hlt⟩ := h1
      refine ⟨vrs_cons ?_ k1, fun b o hb => ?_⟩
      · refine .sl _ _ _ _ _ g _ _ _ hg0 ?_ (Int.le_refl 0) hnc (fun e he => by cases he) (fun hc => by rw [had hc]; simp [SE.den, DV.i]) (by simp [SE.den, DV.i]; exact hsz)
        show ((ρ.v i).l.length : Int) = n
        rw [hd0, hl]
      · have hb : hget ((i, Ob.nro ns (.var i)) :: (inX cs (i + 1)).2) b = some o := hb
        rw [hget_cons] at hb
        split at hb
        · rename_i e
          cases hb
          subst e
          refine ⟨0, .nst ns, d, g, rfl, rfl, rfl, rfl, hg0, ⟨hkn, fun q j x k hq hj => ?_⟩, .inr ⟨ns, rfl, rfl, fun k ⟨q, a, n, c, x1, x2, x3⟩ => x3 ▸ hlt q a n c x1 x2⟩⟩
          have hq : (ρ.v i).l[q]? = some x := hq
          rw [hd0] at hq
          exact hat q j x k hq hj
        · exact tail b o hb
theorem inX_own : ∀ (cs : List Cl) (i b : Nat) (o : Ob), hget (inX cs i).2 b = some o → o.own = false
  | [], i, b, o, h => by cases h
  | .pl k :: cs, i, b, o, h => inX_own cs (i + 1) b o h
  | .rows own ks :: cs, i, b, o, h => by
    have hb : hget ((i, Ob.ro ks (.var i)) :: (inX cs (i + 1)).2) b = some o := h
    rw [hget_cons] at hb
    split at hb
    · cases hb; rfl
    · exact inX_own cs (i + 1) b o hb
  | .nst ns :: cs, i, b, o, h => by
    have hb : hget ((i, Ob.nro ns (.var i)) :: (inX cs (i + 1)).2) b = some o := h
    rw [hget_cons] at hb
    split at hb
    · cases hb; rfl
    · exact inX_own cs (i + 1) b o hb
theorem inX_also {cs : List Cl} {i : Nat} {vs : List Value} {ds : List DV} {gs : List GI} (hob : ∀ b o, hget (inX cs i).2 b = some o → ∃ (n : Nat) (c : Cl) (d : DV) (g : GI), b = i + n ∧ cs[n]? = some c ∧ ds[n]? = some d ∧ gs[n]? = some g ∧ G b = some g ∧ OR ρ G w g o ∧ InOb w b g c o) :
    ∀ c p h k, hget (inX cs i).2 c = some p → G c = some h → p.also h k → k < w.heap.size := fun b o h k hb hg hk => by
  obtain ⟨n, c, d, g, _, _, _, _, q5, _, q7⟩ := hob b o hb
  rw [hg] at q5; cases q5
  rcases q7 with ⟨_, _, _, rfl⟩ | ⟨_, _, rfl, q8⟩
  · exact hk.elim
  · exact q8 k hk
theorem unpack_ok {n : Nat} {v : AV} {avs : List AV} {u : Value} (h : unpackR n v = some avs) (hv : VR ρ G v u) : ∃ ub, u = packU ub ∧ ub.length = n ∧ VRs ρ G avs ub.toArray := by
  unfold unpackR at h
  cases hb : Nat.beq n 1 with
  | true =>
    rw [hb] at h
    cases h
    exact ⟨[u], rfl, ((beq_iff _ _).1 hb).symm, vrs_cons hv vrs_nil'⟩
  | false =>
    rw [hb] at h
    simp only [cond_false] at h
    split at h
    · rename_i vs
      cases hc : Nat.beq vs.length n with
      | false => rw [hc] at h; cases h
      | true =>
        rw [hc] at h
        cases h
        have hl := (beq_iff _ _).1 hc
        obtain ⟨us, rfl, hus⟩ := hv.tup_inv
        refine ⟨us.toList, ?_, by have := hus.1; simp; omega, by simpa using hus⟩
        have hn : n ≠ 1 := fun e => by rw [(beq_iff _ _).2 e] at hb; cases hb
        have : us.toList.length ≠ 1 := by have := hus.1; simp; omega
        unfold packU
        split
        · rename_i heq; rw [heq] at this; simp at this
        · simp
    · cases h
theorem nrmL_get : ∀ {cs : List Cl} {a b : List DV}, a.length = cs.length → nrmL cs a = nrmL cs b → ∀ (i : Nat) c x, cs[i]? = some c → a[i]? = some x → ∃ y, b[i]? = some y ∧ c.nrm x = c.nrm y
  | [], a, b, hl, h, i, c, x, hc, hx => by simp at hc
  | c0 :: cs, [], b, hl, h, i, c, x, hc, hx => by simp at hl
  | c0 :: cs, x0 :: a, b, hl, h, i, c, x, hc, hx => by
    cases b with
    | nil => simp [nrmL] at h
    | cons y0 b =>
      simp only [nrmL, List.cons.injEq] at h
      cases i with
      | zero => simp at hc hx; subst hc hx; exact ⟨y0, rfl, h.1⟩
      | succ i => obtain ⟨y, h1, h2⟩ := nrmL_get (by simpa using hl) h.2 i c x (by simpa using hc) (by simpa using hx); exact ⟨y, by simpa using h1, h2⟩
theorem nrm_nil {own : Bool} {ks : List CK} {a b : DV} (h : (Cl.rows own ks).nrm a = (Cl.rows own ks).nrm b) : a.l ≠ [] → b.l ≠ [] := by
  intro ha hb
  have h : a.l.map (rowN ks) = b.l.map (rowN ks) := by have := congrArg DV.l h; exact this
  rw [hb] at h
  exact ha (List.map_eq_nil_iff.1 h)
theorem told_nrm {c : Cl} {a b : DV} {g : GI} {k : Nat} (h : c.nrm a = c.nrm b) (ht : c.told a g k) : c.told b g k := by
  cases c with
  | pl k => exact ht
  | rows o ks => cases o with
    | true => exact ht
    | false => exact ⟨nrm_nil h ht.1, ht.2⟩
  | nst ns =>
    rcases ht with ⟨h1, h2⟩ | h1
    · refine .inl ⟨fun hb => h1 ?_, h2⟩
      have h : a.l.map (nrowN ns) = b.l.map (nrowN ns) := by have := congrArg DV.l h; exact this
      rw [hb] at h
      exact List.map_eq_nil_iff.1 h
    · exact .inr h1
theorem cellX_sl {hp : List (Nat × Ob)} {o : Bool} {ks : List CK} {a : AV} {r : SE × List SE} (h : cellX hp (.rows o ks) a = some r) : (a = .nils ∧ r.1 = .nil) ∨ ∃ b s off len cap, a = .sl b s off len cap := by
  unfold cellX at h
  simp only at h
  cases hke : ks.isEmpty with
  | true => rw [hke] at h; cases h
  | false =>
    rw [hke] at h
    simp only [cond_false] at h
    cases a with
    | sl b s off len cap => exact .inr ⟨b, s, off, len, cap, rfl⟩
    | nils =>
      simp only [srcRows, srcCells, allData, List.length_nil] at h
      cases h
      exact .inl ⟨rfl, rfl⟩
    | _ => simp only [srcRows, srcCells] at h; cases h
theorem gOf_some {a : AV} {v : Value} (h : VR ρ G a v) : ∀ b s off len cap, a = .sl b s off len cap → (G b).isSome = true := by
  intro b s off len cap ha
  subst ha
  obtain ⟨g0, _, _, _, hg0, _⟩ := h.sl_inv
  rw [hg0]; rfl
end
def bodyOk (P : Program) (f : FuncId) : Bool := match P.funcs[f]? with | some fn => !fn.body.isNone | none => false
theorem pure_of {X : Cx} {φ : Fs} (hnp : φ.np = X.P.funcs.size) (hmix : X.P.follows .mixedOrders = true) (hS : SmyOk X.E X.P φ X.S) (hname : namesOk X.P = true) {n : Nat} {f : FuncId} {ins outs : List Sh} {fs : List LF} {pre : List DV → Prop} {F : List DV → List DV} (hb : bodyOk X.P f = true)
    {t : PT} (hsc : (callD X n f ins outs fs).chk (clsOf ins).length t = true)
    (hfs : (fs.all fun f => LF.sc (clsOf ins).length f) = true)
    (main : ∀ ds, ds.length = (clsOf ins).length → pre ds → Facts (envL φ (nrmL (clsOf ins) ds)) fs ∧ t.satE (fun es => nrmL (clsOf outs) es = nrmL (clsOf outs) (F ds)) (envL φ (nrmL (clsOf ins) ds))) :
    PureE X.E X.P f ins outs pre F := by
  refine ⟨?_, fun w va vs ds gs hgrp hrd hp => ?_⟩
  · unfold bodyOk at hb
    split at hb
    · rename_i fn hfn; exact ⟨fn, hfn, by simpa using hb⟩
    · cases hb
  obtain ⟨lv, ld, lg⟩ := reads_len hrd
  have hrd' := reads_nrm hrd
  obtain ⟨_, ldn, _⟩ := reads_len hrd'
  let ρ0 : Env := envL φ (nrmL (clsOf ins) ds)
  obtain ⟨hfacts0, hsat⟩ := main ds ld hp
  obtain ⟨ρ, hA, hsat⟩ := chk_sat _ _ _ ρ0 _ hsc hsat
  have hρ : ∀ (i : Nat) d, (nrmL (clsOf ins) ds)[i]? = some d → ρ.v i = d := fun i d h => by
    have hi := (List.getElem?_eq_some_iff.1 h).1
    rw [hA.1 i (by omega)]
    show ((nrmL (clsOf ins) ds)[i]?).getD (.int 0) = d
    rw [h]; rfl
  have hφ : ρ.f = φ := hA.2
  have hfacts : Facts ρ fs := fun f hf => by
    have := hfacts0 f hf
    unfold LF.val at this ⊢
    rw [sumT_sc hA _ (List.all_eq_true.1 hfs f hf)]
    exact this
  cases hcond : ((clsOf outs).any Cl.shares && (clsOf ins).any Cl.nests) with
  | true => unfold callD at hsat; rw [hcond] at hsat; exact hsat.elim
  | false =>
  unfold callD at hsat
  rw [hcond] at hsat
  simp only [cond_false] at hsat
  let G : Gh := fun b => gs[b]?
  obtain ⟨hvs, hob⟩ := inX_ok (ρ := ρ) (G := G) (clsOf ins) 0 vs (nrmL (clsOf ins) ds) gs hrd' (fun n d h => by rw [Nat.zero_add]; exact hρ n d h) (fun n g h => by rw [Nat.zero_add]; exact h)
  have hM : MR ρ G ⟨(inX (clsOf ins) 0).2, (clsOf ins).length, (clsOf ins).length, ⟨[], fs⟩⟩ w := start_okN hfacts (fun b g hb => by have := (List.getElem?_eq_some_iff.1 hb).1; omega) (fun b o hb => by
    obtain ⟨n, c, d, g, _, _, _, _, h5, h7, _⟩ := hob b o hb
    exact ⟨g, h5, h7⟩) (inX_own _ _) (inX_also (vs := vs) hob)
  have hva := pack_ok ins _ va vs hgrp hvs
  refine (call_soundX (X := X) (by rw [hφ]; exact hnp) hmix (by rw [hφ]; exact hS) (namesOk_ok hname) hsat hM hva fun e w' hr => ?_).2
  obtain ⟨G', M', h1, h2, h3⟩ := hr
  cases e with
  | outgrown => exact h3.elim
  | panicked ch => obtain ⟨v, u, _, _, hk⟩ := h3; exact hk.elim
  | returned u =>
    obtain ⟨v, hv, hk⟩ := h3
    unfold leafD at hk
    simp only at hk
    split at hk
    · exact hk.elim
    · rename_i avs havs
      split at hk
      · exact hk.elim
      · rename_i fl hfl
        split at hk
        · exact hk.elim
        · rename_i es cs hes
          cases hown : ownOk (clsOf ins).length M'.hp (clsOf outs) fl with
          | false => rw [hown] at hk; exact hk.elim
          | true =>
            rw [hown] at hk
            obtain ⟨hcs, p, ⟨es', hee, hK⟩, hpp⟩ := needs_pc cs hk h1.pc
            cases hee
            obtain ⟨ub, rfl, hubl, hub⟩ := unpack_ok havs hv
            obtain ⟨us, hgu, hus, hfll⟩ := flat_ok outs avs fl ub hfl hub
            obtain ⟨hs, hrd2, hsl, hel, hat⟩ := cells_rd h1 (clsOf outs) fl us es cs hes hcs hus
            obtain ⟨lu, _, _⟩ := reads_len hrd2
            have hD : ∀ (i : Nat) c e, (clsOf outs)[i]? = some c → es[i]? = some e → c.nrm (e.den ρ) = c.nrm (((F ds)[i]?).getD (.int 0)) := fun i c e hc he => by
              obtain ⟨y, hy, hn⟩ := nrmL_get (by simpa using hel) hK i c (e.den ρ) hc (by simp [he])
              rw [hn, hy]; rfl
            have hesome : ∀ (i : Nat) c, (clsOf outs)[i]? = some c → ∃ e a g v, es[i]? = some e ∧ fl[i]? = some a ∧ hs[i]? = some g ∧ us[i]? = some v ∧ VR ρ G' a v := fun i c hc => by
              have hi := (List.getElem?_eq_some_iff.1 hc).1
              obtain ⟨a, ha⟩ := listGet (l := fl) (i := i) (by omega)
              obtain ⟨v, hv⟩ := listGet (l := us) (i := i) (by omega)
              exact ⟨_, a, _, v, List.getElem?_eq_getElem (by omega), ha, List.getElem?_eq_getElem (by omega), hv, hus.2 i a v ha (by simpa using hv)⟩
            have noMine : ∀ k, k < w.heap.size → Mine ρ G' M' k → False := fun k hk hm => by
              obtain ⟨b, o, g, q1, q2, _⟩ := h2.mine k hm hk
              rw [inX_own (clsOf ins) 0 b o q1] at q2; cases q2
            have hownP : ∀ (i : Nat) ks a, (clsOf outs)[i]? = some (.rows true ks) → fl[i]? = some a → (match a with
                | .nils => true
                | .sl b _ off _ _ => Nat.ble (clsOf ins).length b && (decide (off = .int 0) && ((match hget M'.hp b with | some (.rows _ _) | some (.cells _) => true | _ => false) &&
                    fl.zipIdx.all fun q => Nat.beq q.2 i || (match slId q.1 with | some b' => !Nat.beq b' b | none => true)))
                | _ => false) = true := fun i ks a hc ha => by
              have hm : (((Cl.rows true ks), a), i) ∈ ((clsOf outs).zip fl).zipIdx := by
                rw [List.mem_iff_getElem?]
                refine ⟨i, ?_⟩
                rw [List.getElem?_zipIdx, (List.getElem?_zip_eq_some (z := (Cl.rows true ks, a))).2 ⟨hc, ha⟩]
                simp
              unfold ownOk at hown
              exact List.all_eq_true.1 hown _ hm
            have place : ∀ (i : Nat) c a e g k, (clsOf outs)[i]? = some c → fl[i]? = some a → es[i]? = some e → hs[i]? = some g → c.told (((F ds)[i]?).getD (.int 0)) g k → ∃ b s off len cap ob g', a = .sl b s off len cap ∧ hget M'.hp b = some ob ∧ G' b = some g' ∧ ((Solid ρ g' ob ∧ g'.blk = k) ∨ ob.also g' k) := by
              intro i c a e g k hc ha he hg hsol
              obtain ⟨hgo, q, hx⟩ := hat i c a e g hc ha he hg
              obtain ⟨e2, a2, g2, v2, k1, k2, k3, k4, k5⟩ := hesome i c hc
              rw [ha] at k2; cases k2
              cases c with
              | pl k => exact hsol.elim
              | nst ns =>
                obtain ⟨_, g2, hg2, _, _, hpl⟩ := nstX h1.ob hx k5
                rw [hgo] at hg2; cases hg2
                obtain ⟨b, s, off, len, cap, ob, m1, m2, m3, m4⟩ := hpl k (told_nrm (hD i _ e hc he).symm hsol)
                exact ⟨b, s, off, len, cap, ob, g, m1, m2, m3, m4⟩
              | rows o ks =>
                rcases cellX_sl hx with ⟨rfl, hnil⟩ | ⟨b, s, off, len, cap, rfl⟩
                · exfalso
                  simp only [gOf, Option.some.injEq] at hgo
                  cases o with
                  | true => rw [← hgo] at hsol; exact hsol.1 rfl
                  | false =>
                    have hne : (e.den ρ).l ≠ [] := nrm_nil (hD i _ e hc he).symm hsol.1
                    simp only at hnil
                    rw [hnil] at hne
                    exact hne rfl
                · cases o with
                  | false =>
                    have hne : (e.den ρ).l ≠ [] := nrm_nil (hD i _ e hc he).symm hsol.1
                    obtain ⟨_, g2, hg2, _, hkw⟩ := rowX h1.ob hx (gOf_some k5)
                    rw [hgo] at hg2; cases hg2
                    obtain ⟨ob, g', m1, m2, m3, m4, _⟩ := (hkw hne).2 b s off len cap rfl
                    exact ⟨b, s, off, len, cap, ob, g', rfl, m1, m2, .inl ⟨m3, m4.trans hsol.2⟩⟩
                  | true =>
                    have hp := hownP i ks _ hc ha
                    simp only [Bool.and_eq_true, decide_eq_true_eq] at hp
                    obtain ⟨_, rfl, hob', _⟩ := hp
                    obtain ⟨g0, hg0⟩ := Option.isSome_iff_exists.1 (gOf_some k5 b s _ len cap rfl)
                    simp only [gOf, hg0, Option.map_some, Option.some.injEq] at hgo
                    obtain ⟨hsol, hbk⟩ : g.sz ≠ 0 ∧ g.blk = k := hsol
                    rw [← hgo] at hsol hbk
                    simp only [SE.den, DV.i, Int.toNat_zero, Nat.zero_mul, Nat.sub_zero] at hsol
                    split at hob'
                    · rename_i hm; exact ⟨b, s, _, len, cap, _, g0, rfl, hm, hg0, .inl ⟨hsol, hbk⟩⟩
                    · rename_i hm; exact ⟨b, s, _, len, cap, _, g0, rfl, hm, hg0, .inl ⟨trivial, hbk⟩⟩
                    · cases hob'
            refine ⟨ub, us, hs, rfl, hubl, hgu, ⟨h2.os, h2.tape, h2.output, h2.size, fun k hk => h2.keep k hk fun ⟨b, o, g, q1, q2, _⟩ => by rw [inX_own (clsOf ins) 0 b o q1] at q2; cases q2⟩, lu, hsl, fun i c v h hc hv hh => ?_, fun i ks h hc hh => ?_, fun i c h k hc hsh hh hne => ?_, fun i j ks c hi hj k hij hc hcj hhi hhj hz hsol => ?_⟩
            · obtain ⟨e2, a2, g2, v2, k1, k2, k3, k4, k5⟩ := hesome i c hc
              have := reads_at hrd2 i c v (e2.den ρ) h hc hv (by simp [k1]) hh
              exact rdg_nrm this (hD i c e2 hc k1)
            · obtain ⟨e2, a2, g2, v2, k1, k2, k3, k4, k5⟩ := hesome i _ hc
              rw [hh] at k3; cases k3
              obtain ⟨hgo, q, hx⟩ := hat i _ a2 e2 h hc k2 k1 hh
              have hp := hownP i ks _ hc k2
              rcases cellX_sl hx with ⟨rfl, _⟩ | ⟨b, s, off, len, cap, rfl⟩
              · simp only [gOf, Option.some.injEq] at hgo
                rw [← hgo]
                exact ⟨rfl, fun h => absurd rfl h⟩
              · simp only [Bool.and_eq_true, decide_eq_true_eq] at hp
                obtain ⟨_, rfl, hob', _⟩ := hp
                obtain ⟨g0, hg0⟩ := Option.isSome_iff_exists.1 (gOf_some k5 b s _ len cap rfl)
                simp only [gOf, hg0, Option.map_some, Option.some.injEq] at hgo
                rw [← hgo]
                simp only [SE.den, DV.i, Int.toNat_zero, Nat.zero_mul, Nat.sub_zero, Nat.add_zero]
                have fresh : ∀ ob, hget M'.hp b = some ob → ob.own = true → Solid ρ g0 ob → w.heap.size ≤ g0.blk := fun ob hm ho hs => by
                  rcases Nat.lt_or_ge g0.blk w.heap.size with h | h
                  · exact (noMine _ h ⟨b, ob, g0, hm, ho, hg0, hs, rfl⟩).elim
                  · exact h
                split at hob'
                · rename_i hm
                  obtain ⟨g3, hg3, h0, _, _, hor⟩ := h1.ob b _ hm
                  rw [hg0] at hg3; cases hg3
                  refine ⟨h0, fun hz => ⟨fresh _ hm rfl hz, ?_⟩⟩
                  obtain ⟨arr, t, r1, r2, _⟩ := hor hz
                  exact ⟨arr, ⟨t.ty, t.fz, fun i hi => t.ok i (Nat.lt_of_lt_of_le hi (Nat.sub_le _ _))⟩, r1, r2⟩
                · rename_i hm
                  obtain ⟨g3, hg3, h0, arr, t, r1, r2, _⟩ := h1.ob b _ hm
                  rw [hg0] at hg3; cases hg3
                  exact ⟨h0, fun hz => ⟨fresh _ hm rfl trivial, arr, ⟨t.ty, t.fz, fun i hi => t.ok i (Nat.lt_of_lt_of_le hi (Nat.sub_le _ _))⟩, r1, r2⟩⟩
                · cases hob'
            · obtain ⟨e2, a2, g2, v2, k1, k2, k3, k4, k5⟩ := hesome i _ hc
              rw [hh] at k3; cases k3
              obtain ⟨b, s, off, len, cap, ob, g', rfl, m1, m2, m3⟩ := place i _ a2 e2 h k hc k2 k1 hh hne
              rcases Nat.lt_or_ge k w.heap.size with hlt | hge
              · refine .inr ?_
                obtain ⟨b0, o0, g0, q1, q2, q3⟩ := h2.seen k ⟨b, ob, g', m1, m2, m3⟩ hlt
                obtain ⟨n, c0, d, g, r1, r2, r3, r4, r5, r7, r8⟩ := hob b0 o0 q1
                rw [q2] at r5; cases r5
                rcases r8 with ⟨own, ks', rfl, r6⟩ | ⟨ns, rfl, _, _⟩
                rotate_left
                · have h1 : (clsOf outs).any Cl.shares = true := List.any_eq_true.2 ⟨_, List.mem_of_getElem? hc, hsh⟩
                  have h2 : (clsOf ins).any Cl.nests = true := List.any_eq_true.2 ⟨_, List.mem_of_getElem? r2, rfl⟩
                  rw [h1, h2] at hcond
                  cases hcond
                rw [Nat.zero_add] at r1
                subst r1 r6
                rcases q3 with ⟨q3, q4⟩ | q3
                rotate_left
                · exact q3.elim
                obtain ⟨d0, hd0⟩ := listGet (l := ds) (i := b0) (by rw [ld]; exact (List.getElem?_eq_some_iff.1 r2).1)
                refine ⟨b0, own, ks', d0, g0, r2, hd0, r4, ?_, q4⟩
                have q3 : (ρ.v b0).l ≠ [] := q3
                rw [hρ b0 d r3] at q3
                have : (Cl.rows own ks').nrm d0 = d := by
                  have : ∀ (cs : List Cl) (ds : List DV) (i : Nat) c x y, cs[i]? = some c → ds[i]? = some x → (nrmL cs ds)[i]? = some y → c.nrm x = y := by
                    intro cs
                    induction cs with
                    | nil => intro ds i c x y h; simp at h
                    | cons c0 cs ih =>
                      intro ds i c x y h1 h2 h3
                      cases ds with
                      | nil => simp at h2
                      | cons d0 ds =>
                        cases i with
                        | zero => simp [nrmL] at h1 h2 h3; subst h1 h2; exact h3
                        | succ i => exact ih ds i c x y (by simpa using h1) (by simpa using h2) (by simpa [nrmL] using h3)
                  exact this _ _ b0 _ _ _ r2 hd0 r3
                intro hn
                rw [← this] at q3
                exact q3 (by show d0.l.map (rowN ks') = []; rw [hn]; rfl)
              · exact .inl hge
            · obtain ⟨ei, ai, gi, vi, k1, k2, k3, k4, k5⟩ := hesome i _ hc
              obtain ⟨ej, aj, gj, vj, l1, l2, l3, l4, l5⟩ := hesome j _ hcj
              rw [hhi] at k3; cases k3
              rw [hhj] at l3; cases l3
              obtain ⟨bi, si, offi, leni, capi, obi, gi', rfl, m1, m2, m3'⟩ := place i _ ai ei hi hi.blk hc k2 k1 hhi ⟨hz, rfl⟩
              obtain ⟨bj, sj, offj, lenj, capj, obj, gj', rfl, n1, n2, n3'⟩ := place j _ aj ej hj k hcj l2 l1 hhj hsol
              have hp := hownP i ks _ hc k2
              simp only [Bool.and_eq_true, decide_eq_true_eq] at hp
              obtain ⟨_, rfl, hob', hall⟩ := hp
              have hm : ((AV.sl bj sj offj lenj capj), j) ∈ fl.zipIdx := by
                rw [List.mem_iff_getElem?]
                refine ⟨j, ?_⟩
                rw [List.getElem?_zipIdx, l2]
                simp
              have := List.all_eq_true.1 hall _ hm
              simp only [slId, Bool.or_eq_true, beq_iff, Bool.not_eq_true'] at this
              have hbb : bi ≠ bj := by
                rcases this with h | h
                · exact absurd h.symm hij
                · intro e; subst e; rw [(beq_iff _ _).2 rfl] at h; cases h
              have hio : obi.own = true := by
                rw [m1] at hob'
                cases obi <;> first | rfl | cases hob'
              have hna : ¬ obi.also gi' hi.blk := fun h => by
                rw [m1] at hob'
                cases obi <;> first | exact h | cases hob'
              obtain ⟨m3, m4⟩ : Solid ρ gi' obi ∧ gi'.blk = hi.blk := m3'.resolve_right hna
              rw [← m4]
              rcases n3' with ⟨n3, n4⟩ | n3
              · rw [← n4]
                exact h1.apart bi obi bj obj gi' gj' m1 n1 hio hbb m2 n2 m3 n3
              · exact fun e => (h1.sub bj obj gj' k n1 n2 n3).2 ⟨bi, obi, gi', m1, hio, m2, m3, e⟩
theorem smy_cons {E : Bool} {P : Program} {φ : Fs} {fid : Nat} {sm : Smy} {l : List (Nat × Smy)} (pre : List DV → Prop) (F : List DV → List DV) (h : PureE E P fid sm.ins sm.outs pre F) (hp : ∀ (ρ : Env) (es : List SE), ρ.f = φ → (∀ c ∈ sm.pre es, (c.den ρ).b = true) → pre (es.map (·.den ρ)))
    (hF : ∀ ds, (φ sm.sym (.list ds)).l = F ds) (hev : ∀ g, sm.ev = some g → g = F) (hl : SmyOk E P φ l) : SmyOk E P φ ((fid, sm) :: l) := by
  intro f s hs
  unfold getS at hs
  cases hb : Nat.beq fid f with
  | true => rw [hb] at hs; cases hs; have := (beq_iff _ _).1 hb; subst this; exact ⟨pre, F, h, hp, hF, hev⟩
  | false => rw [hb] at hs; exact hl f s hs
def treeOk (X : Cx) (n : Nat) (f : FuncId) (ins outs : List Sh) (fs : List LF) (t : PT) : Bool := (callD X n f ins outs fs).chk (clsOf ins).length t
theorem pure_tree {X : Cx} {φ : Fs} (hnp : φ.np = X.P.funcs.size) (hmix : X.P.follows .mixedOrders = true) (hS : SmyOk X.E X.P φ X.S) (hname : namesOk X.P = true) {n : Nat} {f : FuncId} {ins outs : List Sh} {fs : List LF} {pre : List DV → Prop} {F : List DV → List DV} {t : PT} (hb : bodyOk X.P f = true) (ht : treeOk X n f ins outs fs t = true)
    (hfs : (fs.all fun f => LF.sc (clsOf ins).length f) = true)
    (main : ∀ ds, ds.length = (clsOf ins).length → pre ds → Facts (envL φ (nrmL (clsOf ins) ds)) fs ∧ Sat φ t (fun es => nrmL (clsOf outs) es = nrmL (clsOf outs) (F ds)) (nrmL (clsOf ins) ds)) :
    PureE X.E X.P f ins outs pre F := by
  exact pure_of hnp hmix hS hname hb ht hfs fun ds h1 h2 => ⟨(main ds h1 h2).1, sat_E _ _ _ (main ds h1 h2).2⟩
end Go.Proofs.YtkfjgggiopegbaaDoor
namespace Go.Proofs.YtkfjgggiopegbaaDoor
open Go.RowKit Go.Deep Go.ChangeShapes Go.WideShapes
def CK.wt : CK → DV → Prop
  | .int k, d => ∃ n, d = .int n ∧ k.min ≤ n ∧ n ≤ k.max
  | .bool, d => ∃ b, d = .bool b
  | .str, d => ∃ s, d = .str s ∧ s.length ≤ 9223372036854775807
def rowWt (ks : List CK) (x : DV) : Prop := match ks with
  | [k] => k.wt x
  | ks => ∃ xs, x = .list xs ∧ xs.length = ks.length ∧ ∀ (j : Nat) k y, ks[j]? = some k → xs[j]? = some y → k.wt y
def NK.wt : NK → DV → Prop
  | .pl k, d => k.wt d
  | .sub ks, d => ∃ l, d = .list l ∧ l.length ≤ 9223372036854775807 ∧ ∀ x ∈ l, rowWt ks x
def nrowWt (ns : List NK) (x : DV) : Prop := ∃ xs, x = .list xs ∧ xs.length = ns.length ∧ ∀ (j : Nat) k y, ns[j]? = some k → xs[j]? = some y → k.wt y
def Cl.wt : Cl → DV → Prop
  | .pl k, d => k.wt d
  | .rows _ ks, d => ∃ l, d = .list l ∧ l.length ≤ 9223372036854775807 ∧ ∀ x ∈ l, rowWt ks x
  | .nst ns, d => ∃ l, d = .list l ∧ l.length ≤ 9223372036854775807 ∧ ∀ x ∈ l, nrowWt ns x
def Wts : List Cl → List DV → Prop
  | [], ds => ds = []
  | c :: cs, ds => ∃ d ds', ds = d :: ds' ∧ c.wt d ∧ Wts cs ds'
def plainK (cs : List Cl) : Option (List CK) :=
  match cs with
  | [] => some []
  | .pl k :: r => (match plainK r with | some ks => some (k :: ks) | none => none)
  | _ => none
def subK (cs : List Cl) : Option (List NK) :=
  match cs with
  | [] => some []
  | .pl k :: r => (match subK r with | some ks => some (.pl k :: ks) | none => none)
  | .rows false ks :: r => (match subK r with | some ns => some (.sub ks :: ns) | none => none)
  | _ => none
def flatF (g : TypeId → Option (List Cl)) (P : Program) : List Field → Nat → Option (List Cl)
  | [], _ => some []
  | f :: r, o => bif Nat.beq f.offset o then
      (match g f.type with
      | some cs => bif Nat.beq cs.length (P.cellsOf f.type) then (match flatF g P r (o + cs.length) with | some l => some (cs ++ l) | none => none) else none
      | none => none) else none
def repL (n : Nat) (l : List Cl) : List Cl := match n with | 0 => [] | n + 1 => l ++ repL n l
def flatT (P : Program) (f : Nat) (t : TypeId) : Option (List Cl) :=
  match f with
  | 0 => none
  | f + 1 =>
    match P.underlying t with
    | some .bool => some [.pl .bool]
    | some (.int k) => some [.pl (.int k)]
    | some .string => some [.pl .str]
    | some (.slice e) => (match flatT P f e with
      | some cs => (match plainK cs with
        | some (k :: ks) => bif Nat.beq cs.length (P.cellsOf e) then some [.rows false (k :: ks)] else none
        | _ => (match subK cs with
          | some (n :: ns) => bif Nat.beq cs.length (P.cellsOf e) then some [.nst (n :: ns)] else none
          | _ => none))
      | none => none)
    | some (.struct fs) => (match flatF (flatT P f) P fs.toList 0 with
      | some cs => bif Nat.beq cs.length (P.cellsOf t) then some cs else none
      | none => none)
    | some (.array n e) => (match flatT P f e with
      | some cs => bif Nat.beq cs.length (P.cellsOf e) && Nat.beq (n * cs.length) (P.cellsOf t) then some (repL n cs) else none
      | none => none)
    | _ => none
def shT (P : Program) (t : TypeId) : Option Sh :=
  match P.underlying t with
  | some (.struct _) | some (.array _ _) => (match flatT P 20 t with | some cs => some (.agg cs) | none => none)
  | _ => (match flatT P 20 t with | some [c] => some (.one c) | _ => none)
def shsT (P : Program) : List TypeId → Option (List Sh)
  | [] => some []
  | t :: r => (match shT P t, shsT P r with | some s, some l => some (s :: l) | _, _ => none)
section
variable {H : Type} {enc : TypeId × Value → H} {P : Program} {w : World} {base : Nat} {held : Bool}
theorem reads_app {cs1 : List Cl} : ∀ {cs2 : List Cl} {vs1 vs2 : List Value} {ds1 ds2 : List DV} {gs1 gs2 : List GI}, Reads w cs1 vs1 ds1 gs1 → Reads w cs2 vs2 ds2 gs2 → Reads w (cs1 ++ cs2) (vs1 ++ vs2) (ds1 ++ ds2) (gs1 ++ gs2) := by
  induction cs1 with
  | nil => intro cs2 vs1 vs2 ds1 ds2 gs1 gs2 h k; obtain ⟨rfl, rfl, rfl⟩ := h; exact k
  | cons c cs ih =>
    intro cs2 vs1 vs2 ds1 ds2 gs1 gs2 h k
    obtain ⟨v, vs', d, ds', g, gs', rfl, rfl, rfl, h1, h2⟩ := h
    exact ⟨v, _, d, _, g, _, rfl, rfl, rfl, h1, ih h2 k⟩
theorem wts_app {cs1 : List Cl} : ∀ {cs2 : List Cl} {ds1 ds2 : List DV}, Wts cs1 ds1 → Wts cs2 ds2 → Wts (cs1 ++ cs2) (ds1 ++ ds2) := by
  induction cs1 with
  | nil => intro cs2 ds1 ds2 h k; have h : ds1 = [] := h; subst h; exact k
  | cons c cs ih =>
    intro cs2 ds1 ds2 h k
    obtain ⟨d, ds', rfl, h1, h2⟩ := h
    exact ⟨d, _, rfl, h1, ih h2 k⟩
theorem plainK_ok : ∀ {cs : List Cl} {ks : List CK}, plainK cs = some ks → cs = ks.map .pl
  | [], ks, h => by cases h; rfl
  | .pl k :: r, ks, h => by
    unfold plainK at h
    split at h
    · rename_i l hl; cases h; rw [plainK_ok hl]; rfl
    · cases h
  | .rows _ _ :: r, ks, h => by cases h
  | .nst _ :: r, ks, h => by cases h
theorem subK_ok : ∀ {cs : List Cl} {ns : List NK}, subK cs = some ns → cs = ns.map NK.cl
  | [], ns, h => by cases h; rfl
  | .pl k :: r, ns, h => by
    unfold subK at h
    split at h
    · rename_i l hl; cases h; rw [subK_ok hl]; rfl
    · cases h
  | .rows false ks :: r, ns, h => by
    unfold subK at h
    split at h
    · rename_i l hl; cases h; rw [subK_ok hl]; rfl
    · cases h
  | .rows true _ :: r, ks, h => by cases h
  | .nst _ :: r, ks, h => by cases h
def NK.rdv (w : World) (d : DV) (v : Value) : NK → Prop
  | .pl k => v = k.val d
  | .sub ks => SubAt w ks d.l v
theorem subAt_of {v : Value} {d : DV} {g : GI} {o : Bool} {ks : List CK} (h : Cl.rdg w (.rows o ks) v d g) : SubAt w ks d.l v := by
  obtain ⟨h1, h2, ad, n, cp, rfl, h3, h4, h5, h6⟩ := h
  refine ⟨h1, ad, n, cp, rfl, h3, h4, fun hc => ⟨_, _, h5 hc⟩, fun i j x k hi hj => ?_⟩
  have := (List.getElem?_eq_some_iff.1 hi).1
  exact ⟨_, _, h5 (by omega), h2 i j x k hi hj⟩
theorem subAt_lt {ks : List CK} {l : List DV} {a : Addr} {n c : Nat} (h : SubAt w ks l (.slice (some a) n c)) (hn : 0 < n) : a.block < w.heap.size := by
  obtain ⟨h1, a', n', c', he, h2, h3, h4, h5⟩ := h
  cases he
  obtain ⟨x, hx⟩ := listGet (l := l) (i := 0) (by omega)
  obtain ⟨k, hk⟩ := listGet (l := ks) (i := 0) (by cases ks with | nil => exact absurd rfl h1 | cons _ _ => simp)
  obtain ⟨blk, off, he, hc⟩ := h5 0 0 x k hx hk
  cases he
  have := cell_lt hc
  exact this
theorem nest_reads : ∀ {ns : List NK} {vs : List Value} {ds : List DV} {gs : List GI}, Reads w (ns.map NK.cl) vs ds gs → Wts (ns.map NK.cl) ds → vs.length = ns.length ∧ ds.length = ns.length ∧ ∀ (j : Nat) k d v, ns[j]? = some k → ds[j]? = some d → vs[j]? = some v → k.rdv w d v ∧ k.wt d
  | [], vs, ds, gs, h, hw => by obtain ⟨rfl, rfl, rfl⟩ := h; exact ⟨rfl, rfl, fun j k d v h => by simp at h⟩
  | k :: ns, vs, ds, gs, h, hw => by
    obtain ⟨v, vs', d, ds', g, gs', rfl, rfl, rfl, h1, h2⟩ := h
    obtain ⟨d', ds2, he, h3, h4⟩ := hw
    cases he
    obtain ⟨l1, l2, l3⟩ := nest_reads h2 h4
    refine ⟨by simp [l1], by simp [l2], fun j k' d' v' hk hd hv => ?_⟩
    cases j with
    | zero =>
      simp at hk hd hv
      subst hk hd hv
      cases k with
      | pl k => exact ⟨h1, h3⟩
      | sub ks => exact ⟨subAt_of h1, h3⟩
    | succ j => exact l3 j k' d' v' (by simpa using hk) (by simpa using hd) (by simpa using hv)
theorem int_wf {k : IntKind} {n : Int} (h : (Lit.int k n).wf = true) : k.min ≤ n ∧ n ≤ k.max := by simpa [Lit.wf] using h
def rowD (ks : List CK) (ds : List DV) : DV := match ks with | [_] => ds[0]?.getD (.int 0) | _ => .list ds
theorem plain_reads {vs : List Value} : ∀ {ks : List CK} {vs : List Value} {ds : List DV} {gs : List GI}, Reads w (ks.map .pl) vs ds gs → Wts (ks.map .pl) ds → vs.length = ks.length ∧ ds.length = ks.length ∧ ∀ (j : Nat) k d, ks[j]? = some k → ds[j]? = some d → vs[j]? = some (k.val d) ∧ k.wt d
  | [], vs, ds, gs, h, hw => by obtain ⟨rfl, rfl, rfl⟩ := h; exact ⟨rfl, rfl, fun j k d h => by simp at h⟩
  | k :: ks, vs, ds, gs, h, hw => by
    obtain ⟨v, vs', d, ds', g, gs', rfl, rfl, rfl, h1, h2⟩ := h
    obtain ⟨d', ds2, he, h3, h4⟩ := hw
    cases he
    obtain ⟨l1, l2, l3⟩ := plain_reads (vs := vs') h2 h4
    refine ⟨by simp [l1], by simp [l2], fun j k' d' hk hd => ?_⟩
    cases j with
    | zero => simp at hk hd; subst hk hd; exact ⟨by have h1 : v = k.val d := h1; simp [h1], h3⟩
    | succ j => simpa using l3 j k' d' (by simpa using hk) (by simpa using hd)
theorem rowD_ok {ks : List CK} {ds : List DV} (hl : ds.length = ks.length) (hk : ks ≠ []) : (∀ (j : Nat) k, ks[j]? = some k → ∃ d, ds[j]? = some d ∧ cellD ks (rowD ks ds) j = d) ∧ ((∀ (j : Nat) k d, ks[j]? = some k → ds[j]? = some d → k.wt d) → rowWt ks (rowD ks ds)) := by
  match ks, hk with
  | [k], _ =>
    match ds, hl with
    | [d], _ =>
      refine ⟨fun j k' hj => ?_, fun h => h 0 k d rfl rfl⟩
      cases j with
      | zero => exact ⟨d, rfl, rfl⟩
      | succ j => simp at hj
  | a :: b :: r, _ =>
    refine ⟨fun j k' hj => ?_, fun h => ⟨ds, rfl, hl, fun j k y h1 h2 => h j k y h1 h2⟩⟩
    have hj' := (List.getElem?_eq_some_iff.1 hj).1
    refine ⟨_, List.getElem?_eq_getElem (by omega), ?_⟩
    show ds[j]?.getD (.int 0) = _
    rw [List.getElem?_eq_getElem (by omega)]
    rfl
theorem open_flat : ∀ (f : Nat) (t : TypeId) (cs : List Cl), flatT P f t = some cs → ∀ (fuel : Nat) (vs : List Value) (x : DataW H × List MemPlace), DataW.trod enc P w base (fun _ => true) held fuel t vs = some x →
    ∃ ds gs, Reads w cs vs ds gs ∧ Wts cs ds
  | 0, t, cs, h, fuel, vs, x, hx => by cases h
  | f + 1, t, cs, h, fuel, vs, x, hx => by
    unfold flatT at h
    split at h
    · rename_i hu
      cases h
      obtain ⟨b, rfl, _⟩ := DataW.trod_bool hu hx
      exact ⟨[.bool b], [⟨0, 0, 0, default⟩], ⟨_, _, _, _, _, _, rfl, rfl, rfl, rfl, rfl, rfl, rfl⟩, _, _, rfl, ⟨b, rfl⟩, rfl⟩
    · rename_i k hu
      cases h
      obtain ⟨n, rfl, _, hw⟩ := DataW.trod_int hu hx
      exact ⟨[.int n], [⟨0, 0, 0, default⟩], ⟨_, _, _, _, _, _, rfl, rfl, rfl, rfl, rfl, rfl, rfl⟩, _, _, rfl, ⟨n, rfl, int_wf hw⟩, rfl⟩
    · rename_i hu
      cases h
      obtain ⟨s, rfl, _, hw⟩ := DataW.trod_string hu hx
      exact ⟨[.str s.data.toList], [⟨0, 0, 0, default⟩], ⟨_, _, _, _, _, _, rfl, rfl, rfl, rfl, rfl, rfl, rfl⟩, _, _, rfl, ⟨s.data.toList, rfl, by
        have : s.data.toList.length = s.size := by rw [Array.length_toList]; rfl
        have hm : maxLen = 9223372036854775807 := rfl
        omega⟩, rfl⟩
    · -- slice
      rename_i e hu
      split at h
      · rename_i ecs hecs
        split at h
        · rename_i k ks hks
          cases hlen : Nat.beq ecs.length (P.cellsOf e) with
          | false => rw [hlen] at h; cases h
          | true =>
            rw [hlen] at h
            cases h
            have hlen := (beq_iff _ _).1 hlen
            have hpl := plainK_ok hks
            have hkl : (k :: ks).length = P.cellsOf e := by rw [← hlen, hpl]; simp
            rcases open_slice hu hx with ⟨rfl, _⟩ | ⟨a, len, cap, m, n, D, Pl, rfl, _, hl, hm, hmm, _, hel⟩
            · exact ⟨[.list []], [⟨0, 0, 0, default⟩], ⟨_, _, _, _, _, _, rfl, rfl, rfl, ⟨by simp, fun i j x k hi => by simp [DV.l] at hi, none, 0, 0, rfl, rfl, Nat.le_refl _, fun h => absurd h (by omega), by omega⟩, rfl, rfl, rfl⟩, _, _, rfl, ⟨[], rfl, Nat.zero_le _, fun x hx => by simp at hx⟩, rfl⟩
            · have hcap : m = cap := by rw [hmm]; rfl
              have hml : maxLen = 9223372036854775807 := rfl
              have one : ∀ i, i < m → ∃ ds : List DV, (ds.length = (k :: ks).length ∧ ∀ (j : Nat) kk d, (k :: ks)[j]? = some kk → ds[j]? = some d → w.cell? (a.add (i * (k :: ks).length + j)) = some (kk.val d) ∧ kk.wt d) := by
                intro i hi
                obtain ⟨cs', h1, h2⟩ := hel i hi
                obtain ⟨ds, gs, h3, h4⟩ := open_flat f e ecs hecs n cs' _ h2
                rw [hpl] at h3 h4
                obtain ⟨l1, l2, l3⟩ := plain_reads (vs := cs') h3 h4
                refine ⟨ds, l2, fun j kk d hk hd => ?_⟩
                obtain ⟨q1, q2⟩ := l3 j kk d hk hd
                have hj := (List.getElem?_eq_some_iff.1 hk).1
                have := (World.cells?_some h1).2.2 j (by omega)
                rw [Go.Deep.add_add] at this
                rw [hkl, this]
                exact ⟨q1, q2⟩
              obtain ⟨E, hE⟩ := choose_lt (α := List DV) (p := fun (i : Nat) (ds : List DV) => ds.length = (k :: ks).length ∧ ∀ (j : Nat) kk d, (k :: ks)[j]? = some kk → ds[j]? = some d → w.cell? (a.add (i * (k :: ks).length + j)) = some (kk.val d) ∧ kk.wt d) one
              have hspot : 0 < cap → a.spot = none := fun hpos => by
                obtain ⟨l1, l2⟩ := hE 0 (by omega)
                obtain ⟨d0, hd0⟩ := listGet (l := E 0) (i := 0) (by rw [l1]; simp)
                have h1 := (l2 0 k d0 rfl hd0).1
                have e0 : a.add (0 * (k :: ks).length + 0) = a := by simp [Addr.add]
                rw [e0] at h1
                unfold World.cell? at h1
                split at h1
                · split at h1
                  · cases h1
                  · rename_i hsp; simpa using hsp
                · cases h1
              refine ⟨[.list ((List.range len).map fun i => rowD (k :: ks) (E i))], [⟨a.block, a.off, cap * (k :: ks).length, default⟩], ⟨_, _, _, _, _, _, rfl, rfl, rfl, ⟨by simp, fun i j x kk hi hj => ?_, some a, len, cap, rfl, by simp [DV.l], hl, fun hc => ?_, Nat.le_refl _⟩, rfl, rfl, rfl⟩, _, _, rfl, ⟨_, rfl, by simp; omega, fun x hx => ?_⟩, rfl⟩
              · have hi : ((List.range len).map fun i => rowD (k :: ks) (E i))[i]? = some x := hi
                rw [List.getElem?_map] at hi
                cases hr : (List.range len)[i]? with
                | none => rw [hr] at hi; cases hi
                | some q =>
                  rw [hr] at hi
                  obtain ⟨hlt, hq⟩ := List.getElem?_eq_some_iff.1 hr
                  simp only [List.getElem_range] at hq
                  subst hq
                  simp only [List.length_range] at hlt
                  simp only [Option.map_some, Option.some.injEq] at hi
                  subst hi
                  obtain ⟨l1, l2⟩ := hE i (by omega)
                  obtain ⟨d, hd, hcd⟩ := (rowD_ok l1 (by simp)).1 j kk hj
                  rw [hcd]
                  have := (l2 j kk d hj hd).1
                  have hs := hspot (by omega)
                  obtain ⟨b, o, s⟩ := a
                  simp only at hs
                  subst hs
                  rw [addr_add] at this
                  rw [← this]
                  simp only [Nat.add_assoc]
              · have hs := hspot hc
                obtain ⟨b, o, s⟩ := a
                simp only at hs
                subst hs
                rfl
              · rw [List.mem_map] at hx
                obtain ⟨i, hi, rfl⟩ := hx
                simp only [List.mem_range] at hi
                obtain ⟨l1, l2⟩ := hE i (by omega)
                exact (rowD_ok l1 (by simp)).2 fun j kk d h1 h2 => (l2 j kk d h1 h2).2
        · split at h
          · rename_i k ns hns
            cases hlen : Nat.beq ecs.length (P.cellsOf e) with
            | false => rw [hlen] at h; cases h
            | true =>
              rw [hlen] at h
              cases h
              have hlen := (beq_iff _ _).1 hlen
              have hpl := subK_ok hns
              have hkl : (k :: ns).length = P.cellsOf e := by rw [← hlen, hpl]; simp
              rcases open_slice hu hx with ⟨rfl, _⟩ | ⟨a, len, cap, m, n, D, Pl, rfl, _, hl, hm, hmm, _, hel⟩
              · exact ⟨[.list []], [⟨0, 0, 0, default⟩], ⟨_, _, _, _, _, _, rfl, rfl, rfl, ⟨by simp, fun i j x k hi => by simp [DV.l] at hi, ⟨none, 0, 0, rfl, rfl, Nat.le_refl _, fun h => absurd h (by omega), by omega⟩, fun q a n c hq => by rw [hd_def] at hq; cases hq⟩, rfl, rfl, rfl⟩, _, _, rfl, ⟨[], rfl, Nat.zero_le _, fun x hx => by simp at hx⟩, rfl⟩
              · have hcap : m = cap := by rw [hmm]; rfl
                have hml : maxLen = 9223372036854775807 := rfl
                have one : ∀ i, i < m → ∃ q : List DV × List Value, (q.1.length = (k :: ns).length ∧ q.2.length = (k :: ns).length ∧ ∀ (j : Nat) kk d v, (k :: ns)[j]? = some kk → q.1[j]? = some d → q.2[j]? = some v → w.cell? (a.add (i * (k :: ns).length + j)) = some v ∧ kk.rdv w d v ∧ kk.wt d) := by
                  intro i hi
                  obtain ⟨cs', h1, h2⟩ := hel i hi
                  obtain ⟨ds, gs, h3, h4⟩ := open_flat f e ecs hecs n cs' _ h2
                  rw [hpl] at h3 h4
                  obtain ⟨l1, l2, l3⟩ := nest_reads h3 h4
                  refine ⟨(ds, cs'), l2, l1, fun j kk d v hk hd hv => ?_⟩
                  obtain ⟨q1, q2⟩ := l3 j kk d v hk hd hv
                  have hj := (List.getElem?_eq_some_iff.1 hk).1
                  have := (World.cells?_some h1).2.2 j (by omega)
                  rw [Go.Deep.add_add] at this
                  rw [hkl, this]
                  exact ⟨hv, q1, q2⟩
                obtain ⟨E, hE⟩ := choose_lt (α := List DV × List Value) (p := fun (i : Nat) (q : List DV × List Value) => q.1.length = (k :: ns).length ∧ q.2.length = (k :: ns).length ∧ ∀ (j : Nat) kk d v, (k :: ns)[j]? = some kk → q.1[j]? = some d → q.2[j]? = some v → w.cell? (a.add (i * (k :: ns).length + j)) = some v ∧ kk.rdv w d v ∧ kk.wt d) one
                have hat : ∀ i j kk, i < m → (k :: ns)[j]? = some kk → ∃ d v, (E i).1[j]? = some d ∧ (E i).2[j]? = some v ∧ w.cell? (a.add (i * (k :: ns).length + j)) = some v ∧ kk.rdv w d v ∧ kk.wt d := by
                  intro i j kk hi hj
                  obtain ⟨l1, l2, l3⟩ := hE i hi
                  have hjl := (List.getElem?_eq_some_iff.1 hj).1
                  obtain ⟨d, hd⟩ := listGet (l := (E i).1) (i := j) (by omega)
                  obtain ⟨v, hv⟩ := listGet (l := (E i).2) (i := j) (by omega)
                  exact ⟨d, v, hd, hv, l3 j kk d v hj hd hv⟩
                have hspot : 0 < cap → a.spot = none := fun hpos => by
                  obtain ⟨d0, v0, _, _, h1, _⟩ := hat 0 0 k (by omega) rfl
                  have e0 : a.add (0 * (k :: ns).length + 0) = a := by simp [Addr.add]
                  rw [e0] at h1
                  unfold World.cell? at h1
                  split at h1
                  · split at h1
                    · cases h1
                    · rename_i hsp; simpa using hsp
                  · cases h1
                let T : Array Value := ((List.range (len * (k :: ns).length)).map fun q => (w.cell? (a.add q)).getD undef).toArray
                let g0 : GI := ⟨a.block, a.off, cap * (k :: ns).length, { (default : Loop) with tmps := T }⟩
                have hhd : ∀ q v, g0.hd q = some v → q < len * (k :: ns).length ∧ v = (w.cell? (a.add q)).getD undef := fun q v hq => by
                  have hq : T[q]? = some v := hq
                  rw [List.getElem?_toArray, List.getElem?_map] at hq
                  cases hr : (List.range (len * (k :: ns).length))[q]? with
                  | none => rw [hr] at hq; cases hq
                  | some q' =>
                    rw [hr] at hq
                    obtain ⟨hlt, hq'⟩ := List.getElem?_eq_some_iff.1 hr
                    simp only [List.getElem_range] at hq'
                    subst hq'
                    simp only [List.length_range] at hlt
                    simp only [Option.map_some, Option.some.injEq] at hq
                    exact ⟨hlt, hq.symm⟩
                have hhd' : ∀ q v, q < len * (k :: ns).length → w.cell? (a.add q) = some v → g0.hd q = some v := fun q v hq hv => by
                  show T[q]? = some v
                  rw [List.getElem?_toArray, List.getElem?_map, List.getElem?_range hq]
                  simp [hv]
                refine ⟨[.list ((List.range len).map fun i => .list (E i).1)], [g0], ⟨_, _, _, _, _, _, rfl, rfl, rfl, ⟨by simp, fun i j x kk hi hj => ?_, ⟨some a, len, cap, rfl, by simp [DV.l], hl, fun hc => ?_, Nat.le_refl _⟩, fun q a' n' c' hq hn => ?_⟩, rfl, rfl, rfl⟩, _, _, rfl, ⟨_, rfl, by simp; omega, fun x hx => ?_⟩, rfl⟩
                · have hi : ((List.range len).map fun i => DV.list (E i).1)[i]? = some x := hi
                  rw [List.getElem?_map] at hi
                  cases hr : (List.range len)[i]? with
                  | none => rw [hr] at hi; cases hi
                  | some q =>
                    rw [hr] at hi
                    obtain ⟨hlt, hq⟩ := List.getElem?_eq_some_iff.1 hr
                    simp only [List.getElem_range] at hq
                    subst hq
                    simp only [List.length_range] at hlt
                    simp only [Option.map_some, Option.some.injEq] at hi
                    subst hi
                    obtain ⟨d, v, h1, h2, h3, h4, h5⟩ := hat i j kk (by omega) hj
                    have hs := hspot (by omega)
                    have hjl := (List.getElem?_eq_some_iff.1 hj).1
                    have hqlt : i * (k :: ns).length + j < len * (k :: ns).length := by
                      have : (i + 1) * (k :: ns).length ≤ len * (k :: ns).length := Nat.mul_le_mul_right _ hlt
                      rw [Nat.succ_mul] at this
                      omega
                    have hcd : cellN (.list (E i).1) j = d := by show ((E i).1[j]?).getD (.int 0) = d; rw [h1]; rfl
                    refine ⟨v, ?_, ?_⟩
                    · rw [← h3]
                      show w.cell? ⟨a.block, a.off + i * (k :: ns).length + j, none⟩ = _
                      obtain ⟨b, o, s⟩ := a
                      simp only at hs
                      subst hs
                      rw [addr_add]
                      simp only [Nat.add_assoc]
                    · rw [hcd]
                      cases kk with
                      | pl k' => exact h4
                      | sub ks => exact ⟨hhd' _ _ hqlt h3, h4⟩
                · have hs := hspot hc
                  obtain ⟨b, o, s⟩ := a
                  simp only at hs
                  subst hs
                  rfl
                · obtain ⟨h1, h2⟩ := hhd q _ hq
                  have hkpos : 0 < (k :: ns).length := by simp
                  have hi : q / (k :: ns).length < len := (Nat.div_lt_iff_lt_mul hkpos).2 h1
                  have hj : q % (k :: ns).length < (k :: ns).length := Nat.mod_lt _ hkpos
                  have hqe : q / (k :: ns).length * (k :: ns).length + q % (k :: ns).length = q := by rw [Nat.mul_comm]; exact Nat.div_add_mod _ _
                  obtain ⟨d, v, _, _, h3, h4, _⟩ := hat (q / (k :: ns).length) (q % (k :: ns).length) _ (by omega) (List.getElem?_eq_getElem hj)
                  rw [hqe] at h3
                  rw [h3] at h2
                  have h2 : Value.slice (some a') n' c' = v := h2
                  subst h2
                  cases hk : (k :: ns)[q % (k :: ns).length] with
                  | pl k' => rw [hk] at h4; cases k' <;> cases h4
                  | sub ks => rw [hk] at h4; exact subAt_lt h4 hn
                · rw [List.mem_map] at hx
                  obtain ⟨i, hi, rfl⟩ := hx
                  simp only [List.mem_range] at hi
                  refine ⟨_, rfl, (hE i (by omega)).1, fun j kk y hk hy => ?_⟩
                  obtain ⟨d, v, h1, h2, h3, h4, h5⟩ := hat i j kk (by omega) hk
                  rw [hy] at h1; cases h1
                  exact h5
          · cases h
      · cases h
    · -- struct
      rename_i fs hu
      split at h
      · rename_i ccs hccs
        cases hlen : Nat.beq ccs.length (P.cellsOf t) with
        | false => rw [hlen] at h; cases h
        | true =>
          rw [hlen] at h
          cases h
          have hlen := (beq_iff _ _).1 hlen
          obtain ⟨xs, n, _, _, hvl, hxl, hf⟩ := DataW.trod_struct hu hx
          have key : ∀ (r : List Field) (o : Nat) (ccs : List Cl), flatF (flatT P f) P r o = some ccs → (∀ fl ∈ r, ∃ y, DataW.trod enc P w base (fun _ => true) held n fl.type ((vs.drop fl.offset).take (P.cellsOf fl.type)) = some y) → o + ccs.length = vs.length → ∃ ds gs, Reads w ccs (vs.drop o) ds gs ∧ Wts ccs ds := by
            intro r
            induction r with
            | nil =>
              intro o ccs h _ hl
              unfold flatF at h
              cases h
              refine ⟨[], [], ⟨?_, rfl, rfl⟩, rfl⟩
              rw [List.drop_eq_nil_iff]
              simp at hl
              omega
            | cons fl r ih =>
              intro o ccs h hall hl
              unfold flatF at h
              cases ho : Nat.beq fl.offset o with
              | false => rw [ho] at h; cases h
              | true =>
                rw [ho] at h
                simp only [cond_true] at h
                have ho := (beq_iff _ _).1 ho
                split at h
                · rename_i fcs hfcs
                  cases hfl : Nat.beq fcs.length (P.cellsOf fl.type) with
                  | false => rw [hfl] at h; cases h
                  | true =>
                    rw [hfl] at h
                    simp only [cond_true] at h
                    have hfl := (beq_iff _ _).1 hfl
                    split at h
                    · rename_i l hl2
                      cases h
                      obtain ⟨y, hy⟩ := hall fl (List.mem_cons_self ..)
                      obtain ⟨ds1, gs1, h1, h2⟩ := open_flat f fl.type fcs hfcs n _ y hy
                      rw [List.length_append] at hl
                      obtain ⟨ds2, gs2, h3, h4⟩ := ih (o + fcs.length) l hl2 (fun fl2 h => hall fl2 (List.mem_cons_of_mem _ h)) (by omega)
                      refine ⟨ds1 ++ ds2, gs1 ++ gs2, ?_, wts_app h2 h4⟩
                      have := reads_app h1 h3
                      rw [ho, ← hfl, ← List.drop_drop, List.take_append_drop] at this
                      exact this
                    · cases h
                · cases h
          have := key fs.toList 0 cs hccs (fun fl hm => by
            obtain ⟨i, hi⟩ := List.getElem?_of_mem hm
            have hi' : fs[i]? = some fl := by rw [← hi]; simp
            have := hf i fl hi'
            have hil := (Array.getElem?_eq_some_iff.1 hi').1
            rw [List.getElem?_eq_getElem (by omega)] at this
            exact ⟨_, this⟩) (by omega)
          simpa using this
      · cases h
    · -- array
      rename_i n e hu
      split at h
      · rename_i ecs hecs
        cases hlen : (Nat.beq ecs.length (P.cellsOf e) && Nat.beq (n * ecs.length) (P.cellsOf t)) with
        | false => rw [hlen] at h; cases h
        | true =>
          rw [hlen] at h
          cases h
          simp only [Bool.and_eq_true, beq_iff] at hlen
          obtain ⟨hl1, hl2⟩ := hlen
          have hxx : vs.length = P.cellsOf t ∧ ∃ n', ∀ i, i < n → ∃ y, DataW.trod enc P w base (fun _ => true) held n' e ((vs.drop (i * P.cellsOf e)).take (P.cellsOf e)) = some y := by
            cases fuel with
            | zero => simp [DataW.trod] at hx
            | succ n' =>
              unfold DataW.trod at hx
              rw [hu] at hx
              split at hx <;> simp_all
              obtain ⟨_, xs, hp, _⟩ := hx
              refine ⟨n', fun i hi => ?_⟩
              have hl := mapM_some_length hp
              have := mapM_some_get hp i i (by simp [hi])
              rw [List.getElem?_eq_getElem (by simp at hl; omega)] at this
              exact ⟨_, _, this⟩
          obtain ⟨hvl, n', hall⟩ := hxx
          have key : ∀ (d i : Nat), i + d = n → ∃ ds gs, Reads w (repL d ecs) (vs.drop (i * ecs.length)) ds gs ∧ Wts (repL d ecs) ds := by
            intro d
            induction d with
            | zero =>
              intro i hi
              refine ⟨[], [], ⟨?_, rfl, rfl⟩, rfl⟩
              rw [List.drop_eq_nil_iff]
              have : i = n := by omega
              subst this
              omega
            | succ d ih =>
              intro i hi
              obtain ⟨y, hy⟩ := hall i (by omega)
              obtain ⟨ds1, gs1, h1, h2⟩ := open_flat f e ecs hecs n' _ y hy
              obtain ⟨ds2, gs2, h3, h4⟩ := ih (i + 1) (by omega)
              refine ⟨ds1 ++ ds2, gs1 ++ gs2, ?_, wts_app h2 h4⟩
              have := reads_app h1 h3
              rw [← hl1, Nat.succ_mul, ← List.drop_drop, List.take_append_drop] at this
              exact this
          have := key n 0 (by omega)
          simpa using this
      · cases h
    · cases h
theorem wide_cells {t : TypeId} {v : Value} {c : Cl} {ds : List DV} {gs : List GI} (hn : ∀ fs, P.underlying t ≠ some (.struct fs)) (hn2 : ∀ n e, P.underlying t ≠ some (.array n e)) {f : Nat} (hf : flatT P f t = some [c]) {r : Go.Reach} {b0 : Nat} (hv : Value.okWide P w r b0 t v) : v.cells.toList = [v] := by
  cases f with
  | zero => cases hf
  | succ f =>
    unfold flatT at hf
    split at hf
    · rename_i hu; obtain ⟨b, rfl⟩ := okWide_bool hu hv; rfl
    · rename_i hu; obtain ⟨b, rfl⟩ := okWide_int hu hv; rfl
    · rename_i hu; obtain ⟨b, rfl⟩ := okWide_string hu hv; rfl
    · rename_i hu; obtain ⟨a, len, cap, rfl⟩ := okWide_slice hu hv; rfl
    · rename_i fs hu; exact absurd hu (hn fs)
    · rename_i n e hu; exact absurd hu (hn2 n e)
    · cases hf
theorem open_args : ∀ (ts : List TypeId) (vs : List Value) (ds : List (DataW H)) (ps : List MemPlace) (shs : List Sh), shsT P ts = some shs → DataW.TrodAll enc P w 0 (fun _ => true) held ts vs ds ps → (∀ (j : Nat) t v, ts[j]? = some t → vs[j]? = some v → Value.okWide P w .any base t v) →
    ∃ fl dd gs, Grp shs vs fl ∧ Reads w (clsOf shs) fl dd gs ∧ Wts (clsOf shs) dd
  | [], vs, ds, ps, shs, h, ht, hv => by
    cases h
    cases vs with
    | nil => exact ⟨[], [], [], ⟨rfl, rfl⟩, ⟨rfl, rfl, rfl⟩, rfl⟩
    | cons v vs => exact ht.elim
  | t :: ts, vs, ds, ps, shs, h, ht, hv => by
    cases vs with
    | nil => exact ht.elim
    | cons v vs =>
      cases ds with
      | nil => exact ht.elim
      | cons d ds =>
        obtain ⟨p, q, ⟨fuel, h1⟩, h2, _⟩ := ht
        unfold shsT at h
        split at h
        · rename_i s l hs hl
          cases h
          obtain ⟨fl, dd, gs, k1, k2, k3⟩ := open_args ts vs ds q l hl h2 fun j t v a b => hv (j + 1) t v (by simpa using a) (by simpa using b)
          have hv0 := hv 0 t v rfl rfl
          have agg : ∀ cs, flatT P 20 t = some cs → (∃ us, v = .agg us ∧ us.size = P.cellsOf t) → s = .agg cs → ∃ fl dd gs, Grp (s :: l) (v :: vs) fl ∧ Reads w (clsOf (s :: l)) fl dd gs ∧ Wts (clsOf (s :: l)) dd := by
            rintro cs hcs ⟨us, rfl, hus⟩ rfl
            obtain ⟨ds1, gs1, j1, j2⟩ := open_flat 20 t cs hcs fuel _ _ h1
            obtain ⟨l1, _, _⟩ := reads_len j1
            have l1 : us.toList.length = cs.length := l1
            exact ⟨us.toList ++ fl, ds1 ++ dd, gs1 ++ gs, ⟨us, vs, fl, rfl, by simpa using l1, rfl, k1⟩, reads_app j1 k2, wts_app j2 k3⟩
          unfold shT at hs
          split at hs
          · rename_i fs hu
            split at hs
            · rename_i cs hcs
              cases hs
              exact agg cs hcs (okWide_struct hu hv0) rfl
            · cases hs
          · rename_i n e hu
            split at hs
            · rename_i cs hcs
              cases hs
              have : ∃ us, v = .agg us ∧ us.size = P.cellsOf t := by
                unfold Value.okWide at hv0
                rw [hu] at hv0
                obtain ⟨us, a, b, _⟩ := hv0
                exact ⟨us, a, b⟩
              exact agg cs hcs this rfl
            · cases hs
          · rename_i hn1 hn2
            split at hs
            · rename_i c hc
              cases hs
              obtain ⟨ds1, gs1, j1, j2⟩ := open_flat 20 t [c] hc fuel _ _ h1
              rw [wide_cells (w := w) (ds := []) (gs := []) (fun fs h => hn1 fs h) (fun n e h => hn2 n e h) hc hv0] at j1
              exact ⟨v :: fl, ds1 ++ dd, gs1 ++ gs, ⟨v, vs, fl, rfl, rfl, k1⟩, reads_app j1 k2, wts_app j2 k3⟩
            · cases hs
        · cases h
theorem law_of {E : Bool} {f : FuncId} {shs : List Sh} {pre : List DV → Prop} (hp : PureE E P f shs [.one (.pl .bool)] pre (fun _ => [.bool true])) (hpre : ∀ dd, Wts (clsOf shs) dd → pre dd) {ts : List TypeId} {vs : List Value} {ds : List (DataW H)} {ps : List MemPlace} (hs : shsT P ts = some shs)
    (ht : DataW.TrodAll enc P w 0 (fun _ => true) held ts vs ds ps) (hv : ∀ (j : Nat) t v, ts[j]? = some t → vs[j]? = some v → Value.okWide P w .any base t v) : Calls P f vs.toArray w fun e w' => e = .returned (.bool true) ∧ Below w.heap.size w w' := by
  obtain ⟨fl, dd, gs, h1, h2, h3⟩ := open_args ts vs ds ps shs hs ht hv
  refine Calls.mono (callsIn_down (hp.2 w vs fl dd gs h1 h2 (hpre dd h3))) ?_
  rintro e w' ⟨ub, us, hs', rfl, hl, hg, hb, ho⟩
  refine ⟨?_, hb⟩
  obtain ⟨u, va, vs', rfl, rfl, hg2⟩ := hg
  obtain ⟨rfl, rfl⟩ := hg2
  obtain ⟨g, hg'⟩ := listGet (l := hs') (i := 0) (by have := ho.lh; simp [clsOf, Sh.cls] at this; omega)
  have := ho.rd 0 (.pl .bool) u g rfl rfl hg'
  have : u = .bool true := this
  rw [this]
  rfl
end
end Go.Proofs.YtkfjgggiopegbaaDoor
namespace Go.Proofs.YtkfjgggiopegbaaDoor
def gi (ds : List DV) (n : Nat) : Int := (ds[n]?.getD (.int 0)).i
def gb (ds : List DV) (n : Nat) : Bool := (ds[n]?.getD (.int 0)).b
def gs (ds : List DV) (n : Nat) : List UInt8 := (ds[n]?.getD (.int 0)).s
def gLi (ds : List DV) (n : Nat) : List Int := (ds[n]?.getD (.int 0)).l.map DV.i
def gLs (ds : List DV) (n : Nat) : List (List UInt8) := (ds[n]?.getD (.int 0)).l.map DV.s
theorem map_Li (k : IntKind) (l : List DV) : l.map (rowN [.int k]) = (l.map DV.i).map .int := by rw [List.map_map]; rfl
theorem map_Ls (l : List DV) : l.map (rowN [.str]) = (l.map DV.s).map .str := by rw [List.map_map]; rfl
theorem wt_i {k : IntKind} {d : DV} {lo hi : Int} (h : CK.wt (.int k) d) (h0 : k.min = lo) (h1 : k.max = hi) : lo ≤ d.i ∧ d.i ≤ hi := by
  obtain ⟨n, rfl, a, b⟩ := h
  subst h0 h1
  exact ⟨a, b⟩
theorem wt_len {o : Bool} {ks : List CK} {d : DV} (h : (Cl.rows o ks).wt d) : (d.l.length : Int) ≤ 9223372036854775807 := by
  obtain ⟨l, rfl, a, _⟩ := h
  show (l.length : Int) ≤ _
  omega
theorem wt_all {o : Bool} {ks : List CK} {d : DV} (h : (Cl.rows o ks).wt d) : ∀ x ∈ d.l, rowWt ks x := by
  obtain ⟨l, rfl, _, a⟩ := h
  exact a
theorem wt_ints {o : Bool} {k : IntKind} {d : DV} {lo hi : Int} (h : (Cl.rows o [.int k]).wt d) (h0 : k.min = lo) (h1 : k.max = hi) : ∀ v ∈ d.l.map DV.i, lo ≤ v ∧ v ≤ hi := by
  intro v hv
  obtain ⟨x, hx, rfl⟩ := List.mem_map.1 hv
  exact wt_i (wt_all h x hx) h0 h1
theorem rounds_at {B : List DV → List DV → Prop} {R : List DV → Prop} {x : List DV} (n : Nat) (st : Nat → List DV) (h0 : x = st 0) (hl : ∀ i, (st i).length = x.length) (hB : ∀ i, i < n → B (st i) (st (i + 1))) (hR : R (st n)) : Rounds B R x := by
  have : ∀ d i, i + d = n → Rounds B R (st i) := by
    intro d
    induction d with
    | zero => intro i hi; have : i = n := by omega
              subst this; exact .done hR
    | succ d ih => intro i hi; exact .step (st (i + 1)) (hB i (by omega)) (by rw [hl, hl]) (ih (i + 1) (by omega))
  rw [h0]
  exact this n 0 (by omega)
theorem rounds_find {B : List DV → List DV → Prop} {R : List DV → Prop} {x : List DV} (N : Nat) (st : Nat → List DV) (stop : Nat → Prop) (h0 : x = st 0) (hl : ∀ i, (st i).length = x.length) (hB : ∀ i, i < N → ¬ stop i → (∀ j, j < i → ¬ stop j) → B (st i) (st (i + 1)))
    (hR1 : ∀ i, i < N → stop i → (∀ j, j < i → ¬ stop j) → R (st i)) (hR2 : (∀ j, j < N → ¬ stop j) → R (st N)) : Rounds B R x := by
  have : ∀ d i, i + d = N → (∀ j, j < i → ¬ stop j) → Rounds B R (st i) := by
    intro d
    induction d with
    | zero => intro i hi hj; have : i = N := by omega
              subst this; exact .done (hR2 hj)
    | succ d ih =>
      intro i hi hj
      by_cases hs : stop i
      · exact .done (hR1 i (by omega) hs hj)
      · refine .step (st (i + 1)) (hB i (by omega) hs hj) (by rw [hl, hl]) (ih (i + 1) (by omega) fun j hji => ?_)
        rcases Nat.lt_or_ge j i with h | h
        · exact hj j h
        · have : j = i := by omega
          subst this; exact hs
  rw [h0]
  exact this N 0 (by omega) (fun j hj => absurd hj (by omega))
theorem rounds_inv {B : List DV → List DV → Prop} {R : List DV → Prop} {x : List DV} (I : List DV → Prop) (μ : List DV → Nat) (h0 : I x) (hs : ∀ y, I y → R y ∨ ∃ z, B y z ∧ z.length = y.length ∧ I z ∧ μ z < μ y) : Rounds B R x := by
  have : ∀ n y, μ y ≤ n → I y → Rounds B R y := by
    intro n
    induction n with
    | zero =>
      intro y hy hI
      rcases hs y hI with h | ⟨z, _, _, _, h⟩
      · exact .done h
      · omega
    | succ n ih =>
      intro y hy hI
      rcases hs y hI with h | ⟨z, h1, h2, h3, h4⟩
      · exact .done h
      · exact .step z h1 h2 (ih z (by omega) h3)
  exact this (μ x) x (Nat.le_refl _) h0
theorem w64 {n : Int} (h0 : -9223372036854775808 ≤ n) (h1 : n ≤ 9223372036854775807) : IntKind.i64.wrap n = n := wrap_in .i64 n h0 h1
theorem w64_eq (n : Int) : IntKind.i64.wrap n = (n + 9223372036854775808) % 18446744073709551616 - 9223372036854775808 := by
  simp [IntKind.wrap, IntKind.bits, IntKind.signed]
  split <;> omega
def lenC (l : List (Nat × Int)) (es : List SE) : List SE := l.map fun p => mkB .le (lenE (es.getD p.1 .nil)) (.int p.2)
def lenP (l : List (Nat × Int)) (ds : List DV) : Prop := ∀ p ∈ l, ((ds[p.1]?.getD (.int 0)).l.length : Int) ≤ p.2
theorem len_hp {φ : Fs} (l : List (Nat × Int)) (ρ : Env) (es : List SE) (_ : ρ.f = φ) (h : ∀ c ∈ lenC l es, (c.den ρ).b = true) : lenP l (es.map (·.den ρ)) := by
  intro p hp
  have := h _ (List.mem_map.2 ⟨p, hp, rfl⟩)
  rw [mkB_den] at this
  have this : ((lenE (es.getD p.1 .nil)).den ρ).i ≤ p.2 := of_decide_eq_true this
  rw [lenE_den] at this
  rw [List.getElem?_map]
  rw [List.getD_eq_getElem?_getD] at this
  cases he : es[p.1]? with
  | none => rw [he] at this; exact this
  | some e => rw [he] at this; exact this
theorem rows_i (k : IntKind) (l : List Int) : (l.map DV.int).map (rowN [.int k]) = l.map .int := by rw [List.map_map]; rfl
theorem rows_s (l : List (List UInt8)) : (l.map DV.str).map (rowN [.str]) = l.map .str := by rw [List.map_map]; rfl
theorem dece_i (l : List Int) : (l.map DV.int).map DV.i = l := by rw [List.map_map]; exact List.map_id l
theorem dece_s (l : List (List UInt8)) : (l.map DV.str).map DV.s = l := by rw [List.map_map]; exact List.map_id l
theorem i_int (n : Int) : (DV.int n).i = n := rfl
theorem b_bool (n : Bool) : (DV.bool n).b = n := rfl
theorem s_str (n : List UInt8) : (DV.str n).s = n := rfl
theorem l_list (n : List DV) : (DV.list n).l = n := rfl
theorem q_le {a b : SE} {ρ : Env} {q : Bool} : (((SE.bin .le a b).den ρ).b = q) = (((a.den ρ).i ≤ (b.den ρ).i) ↔ q = true) := by
  show (decide ((a.den ρ).i ≤ (b.den ρ).i) = q) = _
  cases q <;> simp
theorem q_eq {a b : SE} {ρ : Env} {q : Bool} : (((SE.bin .eq a b).den ρ).b = q) = (((a.den ρ).i = (b.den ρ).i) ↔ q = true) := by
  show (decide ((a.den ρ).i = (b.den ρ).i) = q) = _
  cases q <;> simp
theorem q_eqs {a b : SE} {ρ : Env} {q : Bool} : (((SE.bin .eqs a b).den ρ).b = q) = (((a.den ρ).s = (b.den ρ).s) ↔ q = true) := by
  show (decide ((a.den ρ).s = (b.den ρ).s) = q) = _
  cases q <;> simp
theorem q_and {a b : SE} {ρ : Env} {q : Bool} : (((SE.bin .and a b).den ρ).b = q) = (((a.den ρ).b = true ∧ (b.den ρ).b = true) ↔ q = true) := by
  show (((a.den ρ).b && (b.den ρ).b) = q) = _
  cases q <;> simp
theorem q_not {a : SE} {ρ : Env} {q : Bool} : (((SE.un .not a).den ρ).b = q) = ((a.den ρ).b = !q) := by
  show ((!(a.den ρ).b) = q) = _
  cases q <;> simp
theorem q_bool {v : Bool} {ρ : Env} {q : Bool} : (((SE.bool v).den ρ).b = q) = (v = q) := rfl
theorem get_Li (l : List Int) (j : Nat) : (((l.map DV.int)[j]?).getD (.int 0)).i = (l[j]?).getD 0 := by rw [List.getElem?_map]; cases l[j]? <;> rfl
theorem get_Ls (l : List (List UInt8)) (j : Nat) : (((l.map DV.str)[j]?).getD (.int 0)).s = (l[j]?).getD [] := by rw [List.getElem?_map]; cases l[j]? <;> rfl
theorem set_Li (l : List Int) (j : Nat) (n : Int) : (l.map DV.int).set j (.int n) = (l.set j n).map .int := by rw [List.map_set]
theorem inj_Li {l m : List Int} : (l.map DV.int = m.map DV.int) = (l = m) := propext ⟨fun h => by rw [← dece_i l, h, dece_i], fun h => by rw [h]⟩
theorem inj_Ls {l m : List (List UInt8)} : (l.map DV.str = m.map DV.str) = (l = m) := propext ⟨fun h => by rw [← dece_s l, h, dece_s], fun h => by rw [h]⟩
theorem set_same {α : Type} (l : List α) (j : Nat) (d : α) (h : j < l.length) : l.set j ((l[j]?).getD d) = l := by rw [List.getElem?_eq_getElem h]; simp
abbrev Tib := Int × Bool
def decib (d : DV) : Tib := ((d.l[0]?.getD (DV.int 0)).i, (d.l[1]?.getD (DV.int 0)).b)
def encib (t : Tib) : DV := .list [.int t.1, .bool t.2]
theorem rows_ib (l : List Tib) : (l.map encib).map (rowN [.int .i64, .bool]) = l.map encib := by rw [List.map_map]; rfl
theorem inj_Lib {l m : List Tib} : (l.map encib = m.map encib) = (l = m) := propext ⟨fun h => by rw [← List.map_id l, ← List.map_id m, show (id : Tib → Tib) = decib ∘ encib from rfl, ← List.map_map, ← List.map_map, h], fun h => by rw [h]⟩
abbrev Tis := Int × List UInt8
def decis (d : DV) : Tis := ((d.l[0]?.getD (DV.int 0)).i, (d.l[1]?.getD (DV.int 0)).s)
def encis (t : Tis) : DV := .list [.int t.1, .str t.2]
def dis : Tis := (0, [])
theorem f_is_0 (l : List Tis) (j : Nat) : (((((l.map encis)[j]?).getD (DV.int 0)).l[0]?).getD (DV.int 0)).i = ((l[j]?).getD dis).1 := by rw [List.getElem?_map]; cases l[j]? <;> rfl
theorem f_is_1 (l : List Tis) (j : Nat) : (((((l.map encis)[j]?).getD (DV.int 0)).l[1]?).getD (DV.int 0)).s = ((l[j]?).getD dis).2 := by rw [List.getElem?_map]; cases l[j]? <;> rfl
def gLis (ds : List DV) (n : Nat) : List Tis := (ds[n]?.getD (.int 0)).l.map decis
theorem map_Lis (l : List DV) : l.map (rowN [.int .i64, .str]) = (l.map decis).map encis := by rw [List.map_map]; rfl
theorem rows_is (l : List Tis) : (l.map encis).map (rowN [.int .i64, .str]) = l.map encis := by rw [List.map_map]; rfl
theorem inj_Lis {l m : List Tis} : (l.map encis = m.map encis) = (l = m) := propext ⟨fun h => by rw [← List.map_id l, ← List.map_id m, show (id : Tis → Tis) = decis ∘ encis from rfl, ← List.map_map, ← List.map_map, h], fun h => by rw [h]⟩
theorem deces_is (l : List Tis) : (l.map encis).map decis = l := by rw [List.map_map]; exact List.map_id l
abbrev Tii := Int × Int
def decii (d : DV) : Tii := ((d.l[0]?.getD (DV.int 0)).i, (d.l[1]?.getD (DV.int 0)).i)
def encii (t : Tii) : DV := .list [.int t.1, .int t.2]
def dii : Tii := (0, 0)
theorem f_ii_0 (l : List Tii) (j : Nat) : (((((l.map encii)[j]?).getD (DV.int 0)).l[0]?).getD (DV.int 0)).i = ((l[j]?).getD dii).1 := by rw [List.getElem?_map]; cases l[j]? <;> rfl
theorem f_ii_1 (l : List Tii) (j : Nat) : (((((l.map encii)[j]?).getD (DV.int 0)).l[1]?).getD (DV.int 0)).i = ((l[j]?).getD dii).2 := by rw [List.getElem?_map]; cases l[j]? <;> rfl
def gLii (ds : List DV) (n : Nat) : List Tii := (ds[n]?.getD (.int 0)).l.map decii
theorem map_Lii (l : List DV) : l.map (rowN [.int .i64, .int .i64]) = (l.map decii).map encii := by rw [List.map_map]; rfl
theorem rows_ii (l : List Tii) : (l.map encii).map (rowN [.int .i64, .int .i64]) = l.map encii := by rw [List.map_map]; rfl
theorem inj_Lii {l m : List Tii} : (l.map encii = m.map encii) = (l = m) := propext ⟨fun h => by rw [← List.map_id l, ← List.map_id m, show (id : Tii → Tii) = decii ∘ encii from rfl, ← List.map_map, ← List.map_map, h], fun h => by rw [h]⟩
theorem deces_ii (l : List Tii) : (l.map encii).map decii = l := by rw [List.map_map]; exact List.map_id l
abbrev Tiiiis := Int × Int × Int × Int × List UInt8
def deciiiis (d : DV) : Tiiiis := ((d.l[0]?.getD (DV.int 0)).i, (d.l[1]?.getD (DV.int 0)).i, (d.l[2]?.getD (DV.int 0)).i, (d.l[3]?.getD (DV.int 0)).i, (d.l[4]?.getD (DV.int 0)).s)
def enciiiis (t : Tiiiis) : DV := .list [.int t.1, .int t.2.1, .int t.2.2.1, .int t.2.2.2.1, .str t.2.2.2.2]
def diiiis : Tiiiis := (0, 0, 0, 0, [])
theorem f_iiiis_0 (l : List Tiiiis) (j : Nat) : (((((l.map enciiiis)[j]?).getD (DV.int 0)).l[0]?).getD (DV.int 0)).i = ((l[j]?).getD diiiis).1 := by rw [List.getElem?_map]; cases l[j]? <;> rfl
theorem f_iiiis_1 (l : List Tiiiis) (j : Nat) : (((((l.map enciiiis)[j]?).getD (DV.int 0)).l[1]?).getD (DV.int 0)).i = ((l[j]?).getD diiiis).2.1 := by rw [List.getElem?_map]; cases l[j]? <;> rfl
theorem f_iiiis_2 (l : List Tiiiis) (j : Nat) : (((((l.map enciiiis)[j]?).getD (DV.int 0)).l[2]?).getD (DV.int 0)).i = ((l[j]?).getD diiiis).2.2.1 := by rw [List.getElem?_map]; cases l[j]? <;> rfl
theorem f_iiiis_3 (l : List Tiiiis) (j : Nat) : (((((l.map enciiiis)[j]?).getD (DV.int 0)).l[3]?).getD (DV.int 0)).i = ((l[j]?).getD diiiis).2.2.2.1 := by rw [List.getElem?_map]; cases l[j]? <;> rfl
theorem f_iiiis_4 (l : List Tiiiis) (j : Nat) : (((((l.map enciiiis)[j]?).getD (DV.int 0)).l[4]?).getD (DV.int 0)).s = ((l[j]?).getD diiiis).2.2.2.2 := by rw [List.getElem?_map]; cases l[j]? <;> rfl
def gLiiiis (ds : List DV) (n : Nat) : List Tiiiis := (ds[n]?.getD (.int 0)).l.map deciiiis
theorem map_Liiiis (l : List DV) : l.map (rowN [.int .i64, .int .i64, .int .i64, .int .i64, .str]) = (l.map deciiiis).map enciiiis := by rw [List.map_map]; rfl
theorem row_iiiis (t : Tiiiis) : rowN [.int .i64, .int .i64, .int .i64, .int .i64, .str] (enciiiis t) = enciiiis t := rfl
theorem rows_iiiis (l : List Tiiiis) : (l.map enciiiis).map (rowN [.int .i64, .int .i64, .int .i64, .int .i64, .str]) = l.map enciiiis := by rw [List.map_map]; rfl
theorem deces_iiiis (l : List Tiiiis) : (l.map enciiiis).map deciiiis = l := by rw [List.map_map]; exact List.map_id l
abbrev NSEn : List NK := [.pl (.int .i64), .sub [.int .i64, .int .i64]]
abbrev TEn := Int × List Tii
def decEn (d : DV) : TEn := ((d.l[0]?.getD (DV.int 0)).i, (d.l[1]?.getD (DV.int 0)).l.map decii)
def encEn (t : TEn) : DV := .list [.int t.1, .list (t.2.map encii)]
def dEn : TEn := (0, [])
theorem f_En_0 (l : List TEn) (j : Nat) : (((((l.map encEn)[j]?).getD (DV.int 0)).l[0]?).getD (DV.int 0)).i = ((l[j]?).getD dEn).1 := by rw [List.getElem?_map]; cases l[j]? <;> rfl
theorem f_En_1 (l : List TEn) (j : Nat) : (((((l.map encEn)[j]?).getD (DV.int 0)).l[1]?).getD (DV.int 0)).l = ((l[j]?).getD dEn).2.map encii := by rw [List.getElem?_map]; cases l[j]? <;> rfl
theorem nrow_En (d : DV) : nrowN NSEn d = encEn (decEn d) := by
  show DV.list [DV.int (cellN d 0).i, DV.list ((cellN d 1).l.map (rowN [.int .i64, .int .i64]))] = _
  rw [map_Lii]
  rfl
theorem dece_En (t : TEn) : decEn (encEn t) = t := by
  show (t.1, (t.2.map encii).map decii) = t
  rw [deces_ii]
theorem row_En (t : TEn) : nrowN NSEn (encEn t) = encEn t := by rw [nrow_En, dece_En]
theorem rows_En (l : List TEn) : (l.map encEn).map (nrowN NSEn) = l.map encEn := by
  rw [List.map_map]
  exact List.map_congr_left fun x _ => row_En x
theorem deces_En (l : List TEn) : (l.map encEn).map decEn = l := by
  rw [List.map_map]
  conv => rhs; rw [← List.map_id l]
  exact List.map_congr_left fun x _ => dece_En x
theorem inj_LEn {l m : List TEn} : (l.map encEn = m.map encEn) = (l = m) := propext ⟨fun h => by rw [← deces_En l, h, deces_En], fun h => by rw [h]⟩
def leB (a b : Int) : Bool := decide (a ≤ b)
theorem leB_q {a b : Int} {q : Bool} : (leB a b = q) = (a ≤ b ↔ q = true) := by unfold leB; cases q <;> simp
theorem not_q {a q : Bool} : ((!a) = q) = (a = !q) := by cases a <;> cases q <;> simp
theorem ev_le (a b : DV) : evB .le a b = .bool (leB a.i b.i) := rfl
theorem ev_add (a b : DV) : evB .add a b = .int (a.i + b.i) := rfl
theorem ev_sub (a b : DV) : evB .sub a b = .int (a.i - b.i) := rfl
theorem ev_mul (a b : DV) : evB .mul a b = .int (a.i * b.i) := rfl
theorem ev_tdiv (a b : DV) : evB .tdiv a b = .int (a.i.tdiv b.i) := rfl
theorem ev_tmod (a b : DV) : evB .tmod a b = .int (a.i.tmod b.i) := rfl
theorem ev_band (k : IntKind) (a b : DV) : evB (.band k) a b = .int (k.wrap (BitVec.ofInt k.bits a.i &&& BitVec.ofInt k.bits b.i).toNat) := rfl
theorem ev_bor (k : IntKind) (a b : DV) : evB (.bor k) a b = .int (k.wrap (BitVec.ofInt k.bits a.i ||| BitVec.ofInt k.bits b.i).toNat) := rfl
theorem ev_bxor (k : IntKind) (a b : DV) : evB (.bxor k) a b = .int (k.wrap (BitVec.ofInt k.bits a.i ^^^ BitVec.ofInt k.bits b.i).toNat) := rfl
theorem ev_bandn (k : IntKind) (a b : DV) : evB (.bandn k) a b = .int (k.wrap (BitVec.ofInt k.bits a.i &&& ~~~ BitVec.ofInt k.bits b.i).toNat) := rfl
theorem ev_shl (k : IntKind) (a b : DV) : evB (.shl k) a b = .int (k.wrap (a.i * 2 ^ (min b.i.toNat k.bits))) := rfl
theorem ev_shr (k : IntKind) (a b : DV) : evB (.shr k) a b = .int (a.i.fdiv (2 ^ (min b.i.toNat k.bits))) := rfl
theorem ev_cat (a b : DV) : evB .cat a b = .str (a.s ++ b.s) := rfl
theorem ev_byte (a b : DV) : evB .byte a b = .int (a.s[b.i.toNat]?.getD 0).toNat := rfl
theorem ev_idx (a b : DV) : evB .idx a b = a.l[b.i.toNat]?.getD (.int 0) := rfl
theorem ev_cons (a b : DV) : evB .cons a b = .list (a :: b.l) := rfl
theorem ev_snoc (a b : DV) : evB .snoc a b = .list (a.l ++ [b]) := rfl
theorem ev_app (a b : DV) : evB .app a b = .list (a.l ++ b.l) := rfl
theorem ev_take (a b : DV) : evB .take a b = .list (a.l.take b.i.toNat) := rfl
theorem ev_drop (a b : DV) : evB .drop a b = .list (a.l.drop b.i.toNat) := rfl
theorem ev_stake (a b : DV) : evB .stake a b = .str (a.s.take b.i.toNat) := rfl
theorem ev_sdrop (a b : DV) : evB .sdrop a b = .str (a.s.drop b.i.toNat) := rfl
theorem ev_rep (a b : DV) : evB .rep a b = .list (List.replicate a.i.toNat b) := rfl
theorem i_if {p : Prop} [Decidable p] (a b : DV) : (if p then a else b).i = if p then a.i else b.i := by split <;> rfl
def rgeC (l : List (Nat × Int × Int)) (es : List SE) : List SE := l.flatMap fun p => [mkB .le (.int p.2.1) (es.getD p.1 .nil), mkB .le (es.getD p.1 .nil) (.int p.2.2)]
def rgeP (l : List (Nat × Int × Int)) (ds : List DV) : Prop := ∀ p ∈ l, p.2.1 ≤ (ds[p.1]?.getD (.int 0)).i ∧ (ds[p.1]?.getD (.int 0)).i ≤ p.2.2
theorem rge_hp {φ : Fs} (l : List (Nat × Int × Int)) (ρ : Env) (es : List SE) (_ : ρ.f = φ) (h : ∀ c ∈ rgeC l es, (c.den ρ).b = true) : rgeP l (es.map (·.den ρ)) := by
  intro p hp
  have h1 := h _ (List.mem_flatMap.2 ⟨p, hp, List.mem_cons_self ..⟩)
  have h2 := h _ (List.mem_flatMap.2 ⟨p, hp, List.mem_cons_of_mem _ (List.mem_cons_self ..)⟩)
  rw [mkB_den] at h1 h2
  have h1 : p.2.1 ≤ ((es.getD p.1 .nil).den ρ).i := of_decide_eq_true h1
  have h2 : ((es.getD p.1 .nil).den ρ).i ≤ p.2.2 := of_decide_eq_true h2
  rw [List.getElem?_map]
  rw [List.getD_eq_getElem?_getD] at h1 h2
  cases he : es[p.1]? with
  | none => rw [he] at h1 h2; exact ⟨h1, h2⟩
  | some e => rw [he] at h1 h2; exact ⟨h1, h2⟩
theorem both_hp {φ : Fs} (l : List (Nat × Int)) (r : List (Nat × Int × Int)) (ρ : Env) (es : List SE) (hf : ρ.f = φ) (h : ∀ c ∈ lenC l es ++ rgeC r es, (c.den ρ).b = true) : lenP l (es.map (·.den ρ)) ∧ rgeP r (es.map (·.den ρ)) :=
  ⟨len_hp l ρ es hf fun c hc => h c (List.mem_append_left _ hc), rge_hp r ρ es hf fun c hc => h c (List.mem_append_right _ hc)⟩
def lyC (es : List SE) : List SE := [mkB .le (mkB .add (es.getD 11 .nil) (mkB .mul (.int 4) (es.getD 1 .nil))) (es.getD 12 .nil)]
def lyP (ds : List DV) : Prop := (ds[11]?.getD (DV.int 0)).i + 4 * (ds[1]?.getD (DV.int 0)).i ≤ (ds[12]?.getD (DV.int 0)).i
theorem lyGet (es : List SE) (ρ : Env) (n : Nat) : (((es.map (fun e => SE.den ρ e))[n]?).getD (DV.int 0)).i = ((es.getD n .nil).den ρ).i := by
  rw [List.getElem?_map, List.getD_eq_getElem?_getD]
  cases es[n]? <;> rfl
theorem ly_hp {φ : Fs} {C : List SE → List SE} {Q : List DV → Prop} (hq : ∀ (ρ : Env) (es : List SE), ρ.f = φ → (∀ c ∈ C es, (c.den ρ).b = true) → Q (es.map (·.den ρ))) (ρ : Env) (es : List SE) (hf : ρ.f = φ) (h : ∀ c ∈ C es ++ lyC es, (c.den ρ).b = true) : Q (es.map (·.den ρ)) ∧ lyP (es.map (·.den ρ)) := by
  refine ⟨hq ρ es hf fun c hc => h c (List.mem_append_left _ hc), ?_⟩
  have h1 := h _ (List.mem_append_right _ (List.mem_singleton.2 rfl))
  rw [mkB_den, mkB_den, mkB_den] at h1
  have h1 : ((es.getD 11 .nil).den ρ).i + 4 * ((es.getD 1 .nil).den ρ).i ≤ ((es.getD 12 .nil).den ρ).i := of_decide_eq_true h1
  unfold lyP
  rw [lyGet, lyGet, lyGet]
  exact h1
def slenC (l : List (Nat × Int × Int)) (es : List SE) : List SE := l.flatMap fun p => [mkB .le (.int p.2.1) (mkU .slen (es.getD p.1 .nil)), mkB .le (mkU .slen (es.getD p.1 .nil)) (.int p.2.2)]
def slenP (l : List (Nat × Int × Int)) (ds : List DV) : Prop := ∀ p ∈ l, p.2.1 ≤ ((ds[p.1]?.getD (.int 0)).s.length : Int) ∧ ((ds[p.1]?.getD (.int 0)).s.length : Int) ≤ p.2.2
theorem slen_hp {φ : Fs} {C : List SE → List SE} {Q : List DV → Prop} (l : List (Nat × Int × Int)) (hq : ∀ (ρ : Env) (es : List SE), ρ.f = φ → (∀ c ∈ C es, (c.den ρ).b = true) → Q (es.map (·.den ρ))) (ρ : Env) (es : List SE) (hf : ρ.f = φ) (h : ∀ c ∈ C es ++ slenC l es, (c.den ρ).b = true) : Q (es.map (·.den ρ)) ∧ slenP l (es.map (·.den ρ)) := by
  refine ⟨hq ρ es hf fun c hc => h c (List.mem_append_left _ hc), fun p hp => ?_⟩
  have h1 := h _ (List.mem_append_right _ (List.mem_flatMap.2 ⟨p, hp, List.mem_cons_self ..⟩))
  have h2 := h _ (List.mem_append_right _ (List.mem_flatMap.2 ⟨p, hp, List.mem_cons_of_mem _ (List.mem_cons_self ..)⟩))
  rw [mkB_den, mkU_den] at h1 h2
  have h1 : p.2.1 ≤ (((es.getD p.1 .nil).den ρ).s.length : Int) := of_decide_eq_true h1
  have h2 : (((es.getD p.1 .nil).den ρ).s.length : Int) ≤ p.2.2 := of_decide_eq_true h2
  rw [List.getElem?_map]
  rw [List.getD_eq_getElem?_getD] at h1 h2
  cases he : es[p.1]? with
  | none => rw [he] at h1 h2; exact ⟨h1, h2⟩
  | some e => rw [he] at h1 h2; exact ⟨h1, h2⟩
theorem bytes_len (s : List UInt8) : (bytesN s).length = s.length := by simp [bytesN]
def strN (l : List Int) : List UInt8 := l.map fun n => UInt8.ofNat n.toNat
theorem str8_Li (l : List Int) : (l.map DV.int).map (fun d => UInt8.ofNat d.i.toNat) = strN l := by rw [List.map_map]; rfl
theorem str_bytes (s : List UInt8) : strN (bytesN s) = s := by
  unfold strN bytesN
  rw [List.map_map]
  have : ((fun n : Int => UInt8.ofNat n.toNat) ∘ fun c : UInt8 => (c.toNat : Int)) = id := by
    funext c
    simp
  rw [this, List.map_id]
theorem strN_app (a b : List Int) : strN (a ++ b) = strN a ++ strN b := by simp [strN]
theorem strN_len (l : List Int) : (strN l).length = l.length := by simp [strN]
theorem bytes_str {l : List Int} (h : ∀ v ∈ l, 0 ≤ v ∧ v ≤ 255) : bytesN (strN l) = l := by
  unfold strN bytesN
  rw [List.map_map]
  conv => rhs; rw [← List.map_id l]
  apply List.map_congr_left
  intro v hv
  obtain ⟨h0, h1⟩ := h v hv
  simp
  omega
theorem bytes_rge (s : List UInt8) : ∀ v ∈ bytesN s, 0 ≤ v ∧ v ≤ 255 := by
  intro v hv
  unfold bytesN at hv
  obtain ⟨c, _, rfl⟩ := List.mem_map.1 hv
  have := c.toNat_lt
  constructor <;> omega
theorem bytes_app (a b : List UInt8) : bytesN (a ++ b) = bytesN a ++ bytesN b := by simp [bytesN]
theorem take_Li (l : List Int) (n : Nat) : (l.map DV.int).take n = (l.take n).map DV.int := by rw [List.map_take]
theorem drop_Li (l : List Int) (n : Nat) : (l.map DV.int).drop n = (l.drop n).map DV.int := by rw [List.map_drop]
theorem app_Li (l m : List Int) : l.map DV.int ++ m.map DV.int = (l ++ m).map DV.int := by rw [List.map_append]
theorem snoc_Li (l : List Int) (n : Int) : l.map DV.int ++ [DV.int n] = (l ++ [n]).map DV.int := by rw [List.map_append]; rfl
theorem snoc_Ls (l : List (List UInt8)) (n : List UInt8) : l.map DV.str ++ [DV.str n] = (l ++ [n]).map DV.str := by rw [List.map_append]; rfl
theorem len0 {ds : List DV} (h : ds.length = 0) : ds = [] := by
  match ds, h with
  | [], _ => exact rfl
theorem len1 {ds : List DV} (h : ds.length = 1) : ∃ d0, ds = [d0] := by
  match ds, h with
  | [d0], _ => exact ⟨d0, rfl⟩
theorem len2 {ds : List DV} (h : ds.length = 2) : ∃ d0 d1, ds = [d0, d1] := by
  match ds, h with
  | [d0, d1], _ => exact ⟨d0, d1, rfl⟩
theorem len3 {ds : List DV} (h : ds.length = 3) : ∃ d0 d1 d2, ds = [d0, d1, d2] := by
  match ds, h with
  | [d0, d1, d2], _ => exact ⟨d0, d1, d2, rfl⟩
theorem len4 {ds : List DV} (h : ds.length = 4) : ∃ d0 d1 d2 d3, ds = [d0, d1, d2, d3] := by
  match ds, h with
  | [d0, d1, d2, d3], _ => exact ⟨d0, d1, d2, d3, rfl⟩
theorem len5 {ds : List DV} (h : ds.length = 5) : ∃ d0 d1 d2 d3 d4, ds = [d0, d1, d2, d3, d4] := by
  match ds, h with
  | [d0, d1, d2, d3, d4], _ => exact ⟨d0, d1, d2, d3, d4, rfl⟩
theorem len6 {ds : List DV} (h : ds.length = 6) : ∃ d0 d1 d2 d3 d4 d5, ds = [d0, d1, d2, d3, d4, d5] := by
  match ds, h with
  | [d0, d1, d2, d3, d4, d5], _ => exact ⟨d0, d1, d2, d3, d4, d5, rfl⟩
theorem len8 {ds : List DV} (h : ds.length = 8) : ∃ d0 d1 d2 d3 d4 d5 d6 d7, ds = [d0, d1, d2, d3, d4, d5, d6, d7] := by
  match ds, h with
  | [d0, d1, d2, d3, d4, d5, d6, d7], _ => exact ⟨d0, d1, d2, d3, d4, d5, d6, d7, rfl⟩
theorem len14 {ds : List DV} (h : ds.length = 14) : ∃ d0 d1 d2 d3 d4 d5 d6 d7 d8 d9 d10 d11 d12 d13, ds = [d0, d1, d2, d3, d4, d5, d6, d7, d8, d9, d10, d11, d12, d13] := by
  match ds, h with
  | [d0, d1, d2, d3, d4, d5, d6, d7, d8, d9, d10, d11, d12, d13], _ => exact ⟨d0, d1, d2, d3, d4, d5, d6, d7, d8, d9, d10, d11, d12, d13, rfl⟩
theorem len16 {ds : List DV} (h : ds.length = 16) : ∃ d0 d1 d2 d3 d4 d5 d6 d7 d8 d9 d10 d11 d12 d13 d14 d15, ds = [d0, d1, d2, d3, d4, d5, d6, d7, d8, d9, d10, d11, d12, d13, d14, d15] := by
  match ds, h with
  | [d0, d1, d2, d3, d4, d5, d6, d7, d8, d9, d10, d11, d12, d13, d14, d15], _ => exact ⟨d0, d1, d2, d3, d4, d5, d6, d7, d8, d9, d10, d11, d12, d13, d14, d15, rfl⟩
end Go.Proofs.YtkfjgggiopegbaaDoor
end
section
set_option linter.unusedSimpArgs false
namespace Go.Proofs.YtkfjgggiopegbaaDoor
open Go.Joins Go.ChangeShapes Go.WideShapes Go.RowKit Go.Deep Go.ChangeAt
set_option linter.unusedVariables false
theorem own : ownKnob Tryd.prog.godebug = none := by kernel_rfl
theorem laidOut : laidOutB Tryd.prog = true := by kernel_rfl
end Go.Proofs.YtkfjgggiopegbaaDoor
end
section
namespace Go.Proofs.YtkfjgggiopegbaaDoor
set_option linter.unusedVariables false
set_option linter.unusedSimpArgs false
set_option maxRecDepth 100000
def rightM (k c o n : Int) (s : List UInt8) : Bool := decide (1 ≤ k ∧ k ≤ 4 ∧ 0 ≤ c ∧ s = [] ∧ (k = 3 ∨ o = 0) ∧ (k ≠ 1 ∨ n = 0))
end Go.Proofs.YtkfjgggiopegbaaDoor
end
section
namespace Go.Proofs.YtkfjgggiopegbaaDoor
set_option linter.unusedVariables false
set_option linter.unusedSimpArgs false
set_option maxRecDepth 100000
def nextM (was k o n : Int) : Int × Bool := if k = 2 then (n, true) else if k = 4 then (IntKind.i64.wrap (was + n), true) else if k = 3 then (if was = o then (n, true) else (was, false)) else (was, true)
def doM (l : List Int) (k c o n : Int) (s : List UInt8) : List Int × Tib × Int :=
  if rightM k c o n s = true then
    (if c < l.length then (l.set c.toNat (nextM (l[c.toNat]?.getD 0) k o n).1, (l[c.toNat]?.getD 0, (nextM (l[c.toNat]?.getD 0) k o n).2), 0) else (l, (0, false), 8))
  else (l, (0, false), 1)
def memDoE (l : List Int) (k c o n : Int) (s : List UInt8) : List DV := [.list ((doM l k c o n s).1.map DV.int), .int (doM l k c o n s).2.1.1, .bool (doM l k c o n s).2.1.2, .int (doM l k c o n s).2.2]
def memDoF (ds : List DV) : List DV := memDoE (gLi ds 0) (gi ds 1) (gi ds 2) (gi ds 3) (gi ds 4) (gs ds 5)
def memDoTree : PT :=
(.br (.bin .le (.int 0) (.var 2))
 (.br (.bin .eq (.var 1) (.int 1))
  (.br (.bin .eqs (.var 5) (.str []))
   (.br (.bin .eq (.var 4) (.int 0))
    (.br (.un .not (.bin .eq (.var 3) (.int 0)))
     (.leaf [(.var 0), (.int 0), (.bool false), (.int 1)])
     (.br (.bin .le (.un .len (.var 0)) (.var 2))
      (.leaf [(.var 0), (.int 0), (.bool false), (.int 8)])
      (.leaf [(.var 0), (.bin .idx (.var 0) (.bin .add (.int 0) (.var 2))), (.bool true), (.int 0)])))
    (.leaf [(.var 0), (.int 0), (.bool false), (.int 1)]))
   (.leaf [(.var 0), (.int 0), (.bool false), (.int 1)]))
  (.br (.bin .eq (.var 1) (.int 2))
   (.br (.bin .eqs (.var 5) (.str []))
    (.br (.un .not (.bin .eq (.var 3) (.int 0)))
     (.leaf [(.var 0), (.int 0), (.bool false), (.int 1)])
     (.br (.bin .le (.un .len (.var 0)) (.var 2))
      (.leaf [(.var 0), (.int 0), (.bool false), (.int 8)])
      (.br (.bin .eq (.var 4) (.bin .idx (.var 0) (.bin .add (.int 0) (.var 2))))
       (.leaf [(.var 0), (.bin .idx (.var 0) (.bin .add (.int 0) (.var 2))), (.bool true), (.int 0)])
       (.asrt (.bin .le (.un .len (.var 0)) (.int 1000000))
        (.asrt (.bin .eq (.un .len (.bin .rep (.un .len (.var 0)) (.int 0))) (.un .len (.var 0)))
         (.leaf [(.tri .set (.var 0) (.bin .add (.int 0) (.var 2)) (.var 4)), (.bin .idx (.var 0) (.bin .add (.int 0) (.var 2))), (.bool true), (.int 0)]))))))
    (.leaf [(.var 0), (.int 0), (.bool false), (.int 1)]))
   (.br (.bin .eq (.var 1) (.int 4))
    (.br (.bin .eqs (.var 5) (.str []))
     (.br (.un .not (.bin .eq (.var 3) (.int 0)))
      (.leaf [(.var 0), (.int 0), (.bool false), (.int 1)])
      (.br (.bin .le (.un .len (.var 0)) (.var 2))
       (.leaf [(.var 0), (.int 0), (.bool false), (.int 8)])
       (.br (.bin .eq (.un (.wrap .i64) (.bin .add (.bin .idx (.var 0) (.bin .add (.int 0) (.var 2))) (.var 4))) (.bin .idx (.var 0) (.bin .add (.int 0) (.var 2))))
        (.leaf [(.var 0), (.bin .idx (.var 0) (.bin .add (.int 0) (.var 2))), (.bool true), (.int 0)])
        (.asrt (.bin .le (.un .len (.var 0)) (.int 1000000))
         (.asrt (.bin .eq (.un .len (.bin .rep (.un .len (.var 0)) (.int 0))) (.un .len (.var 0)))
          (.leaf [(.tri .set (.var 0) (.bin .add (.int 0) (.var 2)) (.un (.wrap .i64) (.bin .add (.bin .idx (.var 0) (.bin .add (.int 0) (.var 2))) (.var 4)))), (.bin .idx (.var 0) (.bin .add (.int 0) (.var 2))), (.bool true), (.int 0)]))))))
     (.leaf [(.var 0), (.int 0), (.bool false), (.int 1)]))
    (.br (.bin .eq (.var 1) (.int 3))
     (.br (.un .not (.bin .eqs (.var 5) (.str [])))
      (.leaf [(.var 0), (.int 0), (.bool false), (.int 1)])
      (.br (.bin .le (.un .len (.var 0)) (.var 2))
       (.leaf [(.var 0), (.int 0), (.bool false), (.int 8)])
       (.br (.un .not (.bin .eq (.bin .idx (.var 0) (.bin .add (.int 0) (.var 2))) (.var 3)))
        (.leaf [(.var 0), (.bin .idx (.var 0) (.bin .add (.int 0) (.var 2))), (.bool false), (.int 0)])
        (.br (.bin .eq (.var 4) (.bin .idx (.var 0) (.bin .add (.int 0) (.var 2))))
         (.leaf [(.var 0), (.bin .idx (.var 0) (.bin .add (.int 0) (.var 2))), (.bool true), (.int 0)])
         (.asrt (.bin .le (.un .len (.var 0)) (.int 1000000))
          (.asrt (.bin .eq (.un .len (.bin .rep (.un .len (.var 0)) (.int 0))) (.un .len (.var 0)))
           (.leaf [(.tri .set (.var 0) (.bin .add (.int 0) (.var 2)) (.var 4)), (.bin .idx (.var 0) (.bin .add (.int 0) (.var 2))), (.bool true), (.int 0)])))))))
     (.leaf [(.var 0), (.int 0), (.bool false), (.int 1)])))))
 (.leaf [(.var 0), (.int 0), (.bool false), (.int 1)]))
def memDoSm : List (Nat × Smy) := []
def memDoLa : List (LK × LA) := []
def memDoPhi : Fs := ⟨fun n d => match n with
  | _ => d, 147⟩
theorem memDoS : SmyOk true Tryd.prog memDoPhi memDoSm := smy_nil
theorem memDoT : treeOk ⟨Tryd.prog, memDoSm, memDoLa, true⟩ 4000 68 [.agg [.rows false [.int .i64]], .agg [.pl (.int .i64), .pl (.int .i64), .pl (.int .i64), .pl (.int .i64), .pl .str]] [.agg [.rows false [.int .i64]], .agg [.pl (.int .i64), .pl .bool], .one (.pl (.int .i64))] ([]) memDoTree = true := by decide +kernel
set_option maxHeartbeats 1000000 in
theorem memDo_pure : PureE true Tryd.prog 68 [.agg [.rows false [.int .i64]], .agg [.pl (.int .i64), .pl (.int .i64), .pl (.int .i64), .pl (.int .i64), .pl .str]] [.agg [.rows false [.int .i64]], .agg [.pl (.int .i64), .pl .bool], .one (.pl (.int .i64))] (lenP [(0, 1000000)]) memDoF := by
  refine pure_tree (X := ⟨Tryd.prog, memDoSm, memDoLa, true⟩) (by decide +kernel) (Checked.mixed Tryd.checked) memDoS (by decide +kernel) (by decide +kernel) memDoT (by decide +kernel) ?_
  intro ds hl hp
  obtain ⟨d0, d1, d2, d3, d4, d5, rfl⟩ := len6 hl
  have b0 : (d0.l.length : Int) ≤ 1000000 := hp (0, 1000000) (by simp)
  have hF : memDoF [d0, d1, d2, d3, d4, d5] = memDoE (d0.l.map DV.i) d1.i d2.i d3.i d4.i d5.s := rfl
  rw [hF]
  clear hF hp hl
  have hN : nrmL (clsOf [.agg [.rows false [.int .i64]], .agg [.pl (.int .i64), .pl (.int .i64), .pl (.int .i64), .pl (.int .i64), .pl .str]]) [d0, d1, d2, d3, d4, d5] = [.list ((d0.l.map DV.i).map DV.int), .int d1.i, .int d2.i, .int d3.i, .int d4.i, .str d5.s] := by
    simp only [clsOf, Sh.cls, List.append_nil, List.cons_append, List.nil_append, nrmL, Cl.nrm, CK.nrm, map_Li]
  rw [hN]
  clear hN
  rw [← List.length_map (f := DV.i)] at b0
  generalize d0.l.map DV.i = x0 at b0 ⊢
  generalize d1.i = x1
  generalize d2.i = x2
  generalize d3.i = x3
  generalize d4.i = x4
  generalize d5.s = x5
  refine ⟨facts_nil _, ?_⟩
  unfold memDoTree memDoE
  simp only [Sat, clsOf, Sh.cls, List.append_nil, List.cons_append, List.nil_append, nrmL, Cl.nrm, CK.nrm, List.map_cons, List.map_nil, List.cons.injEq, DV.bool.injEq, DV.int.injEq, DV.list.injEq, and_true]
  simp only [q_le, q_eq, q_eqs, q_not, q_bool, iff_true, iff_false, Bool.not_true, Bool.not_false, Bool.false_eq_true, eq_self]
  simp only [SE.den, evU, evT, ev_add, ev_idx, ev_rep, i_int, b_bool, s_str, l_list, envL, List.getElem?_cons_succ, List.getElem?_cons_zero, Option.getD_some, Int.toNat_natCast, List.length_map, get_Li, set_Li, inj_Li, rows_i, Int.zero_add, true_and, eq_self, List.length_replicate]
  have hs : ∀ v, ¬ (x0.length : Int) ≤ x2 → 0 ≤ x2 → v = x0[x2.toNat]?.getD 0 → x0.set x2.toNat v = x0 := fun v h h0 e => by rw [e]; exact set_same _ _ _ (by omega)
  repeat' (first | apply And.intro | intro)
  all_goals grind [doM, rightM, nextM]
end Go.Proofs.YtkfjgggiopegbaaDoor
end
section
namespace Go.Proofs.YtkfjgggiopegbaaDoor
set_option linter.unusedVariables false
set_option linter.unusedSimpArgs false
set_option maxRecDepth 100000
def clSE (l : List (List UInt8)) : List DV := [.list (l.map DV.str)]
def clSF (ds : List DV) : List DV := clSE (gLs ds 0)
def clSTree : PT :=
(.br (.bin .le (.un .len (.var 0)) (.int 0))
 (.both
  (.leaf [.nil])
  (.leaf [(.var 0)]))
 (.asrt (.bin .le (.un .len (.var 0)) (.int 4294967296))
  (.leaf [(.var 0)])))
def clSSm : List (Nat × Smy) := []
def clSLa : List (LK × LA) := []
def clSPhi : Fs := ⟨fun n d => match n with
  | _ => d, 147⟩
theorem clSS : SmyOk true Tryd.prog clSPhi clSSm := smy_nil
theorem clST : treeOk ⟨Tryd.prog, clSSm, clSLa, true⟩ 4000 94 [.one (.rows false [.str])] [.one (.rows true [.str])] ([]) clSTree = true := by decide +kernel
set_option maxHeartbeats 1000000 in
theorem clS_pure : PureE true Tryd.prog 94 [.one (.rows false [.str])] [.one (.rows true [.str])] (lenP [(0, 1000000)]) clSF := by
  refine pure_tree (X := ⟨Tryd.prog, clSSm, clSLa, true⟩) (by decide +kernel) (Checked.mixed Tryd.checked) clSS (by decide +kernel) (by decide +kernel) clST (by decide +kernel) ?_
  intro ds hl hp
  obtain ⟨d0, rfl⟩ := len1 hl
  have b0 : (d0.l.length : Int) ≤ 1000000 := hp (0, 1000000) (by simp)
  have hF : clSF [d0] = clSE (d0.l.map DV.s) := rfl
  rw [hF]
  clear hF hp hl
  have hN : nrmL (clsOf [.one (.rows false [.str])]) [d0] = [.list ((d0.l.map DV.s).map DV.str)] := by
    simp only [clsOf, Sh.cls, List.append_nil, nrmL, Cl.nrm, map_Ls]
  rw [hN]
  clear hN
  rw [← List.length_map (f := DV.s)] at b0
  generalize d0.l.map DV.s = x0 at b0 ⊢
  refine ⟨facts_nil _, ?_⟩
  unfold clSTree clSE
  simp only [Sat, clsOf, Sh.cls, List.append_nil, nrmL, Cl.nrm, List.map_cons, List.map_nil, List.cons.injEq, DV.list.injEq, and_true]
  try simp only [q_le, iff_true, iff_false, Bool.false_eq_true, eq_self]
  simp only [SE.den, evU, i_int, l_list, envL, List.getElem?_cons_zero, Option.getD_some, List.length_map, rows_s, and_true, eq_self]
  refine ⟨fun h => ?_, fun _ => by omega⟩
  have : x0 = [] := List.eq_nil_of_length_eq_zero (by omega)
  subst this; rfl
end Go.Proofs.YtkfjgggiopegbaaDoor
end
section
namespace Go.Proofs.YtkfjgggiopegbaaDoor
set_option linter.unusedVariables false
set_option linter.unusedSimpArgs false
set_option maxRecDepth 100000
def clWE (l : List Tis) : List DV := [.list (l.map encis)]
def clWF (ds : List DV) : List DV := clWE (gLis ds 0)
def clWTree : PT :=
(.br (.bin .le (.un .len (.var 0)) (.int 0))
 (.both
  (.leaf [.nil])
  (.leaf [(.var 0)]))
 (.asrt (.bin .le (.un .len (.var 0)) (.int 4294967296))
  (.leaf [(.var 0)])))
def clWSm : List (Nat × Smy) := []
def clWLa : List (LK × LA) := []
def clWPhi : Fs := ⟨fun n d => match n with
  | _ => d, 147⟩
theorem clWS : SmyOk true Tryd.prog clWPhi clWSm := smy_nil
theorem clWT : treeOk ⟨Tryd.prog, clWSm, clWLa, true⟩ 4000 95 [.one (.rows false [.int .i64, .str])] [.one (.rows true [.int .i64, .str])] ([]) clWTree = true := by decide +kernel
set_option maxHeartbeats 1000000 in
theorem clW_pure : PureE true Tryd.prog 95 [.one (.rows false [.int .i64, .str])] [.one (.rows true [.int .i64, .str])] (lenP [(0, 1000000)]) clWF := by
  refine pure_tree (X := ⟨Tryd.prog, clWSm, clWLa, true⟩) (by decide +kernel) (Checked.mixed Tryd.checked) clWS (by decide +kernel) (by decide +kernel) clWT (by decide +kernel) ?_
  intro ds hl hp
  obtain ⟨d0, rfl⟩ := len1 hl
  have b0 : (d0.l.length : Int) ≤ 1000000 := hp (0, 1000000) (by simp)
  have hF : clWF [d0] = clWE (d0.l.map decis) := rfl
  rw [hF]
  clear hF hp hl
  have hN : nrmL (clsOf [.one (.rows false [.int .i64, .str])]) [d0] = [.list ((d0.l.map decis).map encis)] := by
    simp only [clsOf, Sh.cls, List.append_nil, nrmL, Cl.nrm, map_Lis]
  rw [hN]
  clear hN
  rw [← List.length_map (f := decis)] at b0
  generalize d0.l.map decis = x0 at b0 ⊢
  refine ⟨facts_nil _, ?_⟩
  unfold clWTree clWE
  simp only [Sat, clsOf, Sh.cls, List.append_nil, nrmL, Cl.nrm, List.map_cons, List.map_nil, List.cons.injEq, DV.list.injEq, and_true]
  try simp only [q_le, iff_true, iff_false, Bool.false_eq_true, eq_self]
  simp only [SE.den, evU, i_int, l_list, envL, List.getElem?_cons_zero, Option.getD_some, List.length_map, and_true, eq_self, rows_is, rows_is]
  refine ⟨fun h => ?_, fun _ => by omega⟩
  have : x0 = [] := List.eq_nil_of_length_eq_zero (by omega)
  subst this; rfl
end Go.Proofs.YtkfjgggiopegbaaDoor
end
section
namespace Go.Proofs.YtkfjgggiopegbaaDoor
set_option linter.unusedVariables false
set_option linter.unusedSimpArgs false
set_option maxRecDepth 100000
def writeM (sec : List (List UInt8)) (was : List Tis) (at' : Int) (b : List UInt8) : List (List UInt8) × List Tis × Int :=
  if 0 ≤ at' ∧ at' < sec.length then (if (b.length : Int) = 32 then (sec.set at'.toNat b, was ++ [(at', sec[at'.toNat]?.getD [])], 0) else (sec, was, 1)) else (sec, was, 8)
def dWriteE (sec : List (List UInt8)) (was : List Tis) (at' : Int) (b : List UInt8) : List DV := [.list ((writeM sec was at' b).1.map DV.str), .list ((writeM sec was at' b).2.1.map encis), .int (writeM sec was at' b).2.2]
def dWriteF (ds : List DV) : List DV := dWriteE (gLs ds 0) (gLis ds 1) (gi ds 2) (gs ds 3)
def dWriteTree : PT :=
(.br (.bin .le (.int 0) (.var 2))
 (.br (.bin .le (.un .len (.var 0)) (.var 2))
  (.leaf [(.var 0), (.var 1), (.int 8)])
  (.br (.un .not (.bin .eq (.un .slen (.var 3)) (.int 32)))
   (.leaf [(.var 0), (.var 1), (.int 1)])
   (.asrt (.bin .le (.un .len (.var 0)) (.int 1000000))
    (.asrt (.bin .le (.un .len (.var 1)) (.int 1000000))
     (.asrt (.bin .le (.bin .add (.un .len (.bin .idx (.fn 71 (.bin .cons (.var 1) .nil)) (.int 0))) (.int 1)) (.int 4294967296))
      (.asrt (.un .not (.bin .le (.un .len (.bin .idx (.fn 65 (.bin .cons (.var 0) .nil)) (.int 0))) (.var 2)))
       (.leaf [(.tri .set (.bin .idx (.fn 65 (.bin .cons (.var 0) .nil)) (.int 0)) (.bin .add (.int 0) (.var 2)) (.var 3)), (.bin .snoc (.bin .idx (.fn 71 (.bin .cons (.var 1) .nil)) (.int 0)) (.bin .cons (.var 2) (.bin .cons (.bin .idx (.var 0) (.bin .add (.int 0) (.var 2))) .nil))), (.int 0)])))))))
 (.leaf [(.var 0), (.var 1), (.int 8)]))
def dWriteSm : List (Nat × Smy) := [(94, ⟨65, [.one (.rows false [.str])], [.one (.rows true [.str])], lenC [(0, 1000000)], none⟩), (95, ⟨71, [.one (.rows false [.int .i64, .str])], [.one (.rows true [.int .i64, .str])], lenC [(0, 1000000)], none⟩)]
def dWriteLa : List (LK × LA) := []
def dWritePhi : Fs := ⟨fun n d => match n with
  | 65 => .list (clSF d.l)
  | 71 => .list (clWF d.l)
  | _ => d, 147⟩
theorem dWriteS : SmyOk true Tryd.prog dWritePhi dWriteSm := (smy_cons (lenP [(0, 1000000)]) clSF clS_pure (len_hp [(0, 1000000)]) (fun _ => rfl) (fun _ h => by cases h) (smy_cons (lenP [(0, 1000000)]) clWF clW_pure (len_hp [(0, 1000000)]) (fun _ => rfl) (fun _ h => by cases h) smy_nil))
theorem dWriteT : treeOk ⟨Tryd.prog, dWriteSm, dWriteLa, true⟩ 4000 65 [.agg [.rows false [.str], .rows false [.int .i64, .str]], .one (.pl (.int .i64)), .one (.pl .str)] [.agg [.rows false [.str], .rows false [.int .i64, .str]], .one (.pl (.int .i64))] ([]) dWriteTree = true := by decide +kernel
set_option maxHeartbeats 1000000 in
theorem dWrite_pure : PureE true Tryd.prog 65 [.agg [.rows false [.str], .rows false [.int .i64, .str]], .one (.pl (.int .i64)), .one (.pl .str)] [.agg [.rows false [.str], .rows false [.int .i64, .str]], .one (.pl (.int .i64))] (lenP [(0, 1000000), (1, 1000000)]) dWriteF := by
  refine pure_tree (X := ⟨Tryd.prog, dWriteSm, dWriteLa, true⟩) (by decide +kernel) (Checked.mixed Tryd.checked) dWriteS (by decide +kernel) (by decide +kernel) dWriteT (by decide +kernel) ?_
  intro ds hl hp
  obtain ⟨d0, d1, d2, d3, rfl⟩ := len4 hl
  have b0 : (d0.l.length : Int) ≤ 1000000 := hp (0, 1000000) (by simp)
  have b1 : (d1.l.length : Int) ≤ 1000000 := hp (1, 1000000) (by simp)
  have hF : dWriteF [d0, d1, d2, d3] = dWriteE (d0.l.map DV.s) (d1.l.map decis) d2.i d3.s := rfl
  rw [hF]
  clear hF hp hl
  have hN : nrmL (clsOf [.agg [.rows false [.str], .rows false [.int .i64, .str]], .one (.pl (.int .i64)), .one (.pl .str)]) [d0, d1, d2, d3] = [.list ((d0.l.map DV.s).map DV.str), .list ((d1.l.map decis).map encis), .int d2.i, .str d3.s] := by
    simp only [clsOf, Sh.cls, List.append_nil, List.cons_append, List.nil_append, nrmL, Cl.nrm, CK.nrm, map_Lis, map_Ls]
  rw [hN]
  clear hN
  rw [← List.length_map (f := DV.s)] at b0
  generalize d0.l.map DV.s = x0 at b0 ⊢
  rw [← List.length_map (f := decis)] at b1
  generalize d1.l.map decis = x1 at b1 ⊢
  generalize d2.i = x2
  generalize d3.s = x3
  refine ⟨facts_nil _, ?_⟩
  unfold dWriteTree dWriteE
  simp only [Sat, clsOf, Sh.cls, List.append_nil, List.cons_append, List.nil_append, nrmL, Cl.nrm, CK.nrm, List.map_cons, List.map_nil, List.cons.injEq, DV.int.injEq, DV.list.injEq, and_true]
  try simp only [q_le, q_eq, q_not, iff_true, iff_false, Bool.not_true, Bool.not_false, Bool.false_eq_true, eq_self]
  simp only [SE.den, evU, evT, ev_add, ev_idx, ev_cons, ev_snoc, i_int, s_str, l_list, envL, List.getElem?_cons_succ, List.getElem?_cons_zero, Option.getD_some, Int.toNat_zero, List.length_map, inj_Ls, rows_s, Int.zero_add, rows_is, inj_Lis, rows_is, inj_Lis, dWritePhi, clSF, clSE, clWF, clWE, gLs, dece_s, gLis, deces_is]
  have hset : ∀ (j : Nat), (x0.map DV.str).set j (DV.str x3) = (x0.set j x3).map DV.str := fun j => by rw [List.map_set]
  have hget : ∀ j : Nat, ((x0.map DV.str)[j]?).getD (DV.int 0) = if j < x0.length then DV.str (x0[j]?.getD []) else DV.int 0 := fun j => by
    rw [List.getElem?_map]
    split
    · rw [List.getElem?_eq_getElem (by assumption)]; rfl
    · rw [List.getElem?_eq_none (by omega)]; rfl
  have happ : ∀ w : Tis, List.map encis x1 ++ [encis w] = (x1 ++ [w]).map encis := fun w => by rw [List.map_append]; rfl
  by_cases h : 0 ≤ x2 ∧ x2 < x0.length
  · have e1 : x2.toNat < x0.length := by omega
    have hw : DV.list [DV.int x2, DV.str (x0[x2.toNat]?.getD [])] = encis (x2, x0[x2.toNat]?.getD []) := rfl
    have h2 : ¬ (x0.length : Int) ≤ x2 := by omega
    simp only [hset, hget, e1, if_true, hw, happ, rows_s, rows_is]
    by_cases h32 : (x3.length : Int) = 32
    · have hm : writeM x0 x1 x2 x3 = (x0.set x2.toNat x3, x1 ++ [(x2, x0[x2.toNat]?.getD [])], 0) := by unfold writeM; rw [if_pos h, if_pos h32]
      simp only [hm, h.1, h2, h32]
      simp
      omega
    · have hm : writeM x0 x1 x2 x3 = (x0, x1, 1) := by unfold writeM; rw [if_pos h, if_neg h32]
      simp only [hm, h.1, h2, h32]
      simp
  · have hm : writeM x0 x1 x2 x3 = (x0, x1, 8) := by unfold writeM; rw [if_neg h]
    simp only [hm]
    by_cases h0 : 0 ≤ x2
    · have h2 : (x0.length : Int) ≤ x2 := by omega
      simp only [h0, h2]
      simp
    · simp only [h0]
      simp
end Go.Proofs.YtkfjgggiopegbaaDoor
end
section
namespace Go.Proofs.YtkfjgggiopegbaaDoor
set_option linter.unusedVariables false
set_option linter.unusedSimpArgs false
set_option maxRecDepth 100000
def dSyncE (sec : List (List UInt8)) (was : List Tis) : List DV := [.list (sec.map DV.str), .list []]
def dSyncF (ds : List DV) : List DV := dSyncE (gLs ds 0) (gLis ds 1)
def dSyncTree : PT :=
(.asrt (.bin .le (.un .len (.var 0)) (.int 1000000))
 (.leaf [(.bin .idx (.fn 65 (.bin .cons (.var 0) .nil)) (.int 0)), .nil]))
def dSyncSm : List (Nat × Smy) := [(94, ⟨65, [.one (.rows false [.str])], [.one (.rows true [.str])], lenC [(0, 1000000)], none⟩)]
def dSyncLa : List (LK × LA) := []
def dSyncPhi : Fs := ⟨fun n d => match n with
  | 65 => .list (clSF d.l)
  | _ => d, 147⟩
theorem dSyncS : SmyOk true Tryd.prog dSyncPhi dSyncSm := (smy_cons (lenP [(0, 1000000)]) clSF clS_pure (len_hp [(0, 1000000)]) (fun _ => rfl) (fun _ h => by cases h) smy_nil)
theorem dSyncT : treeOk ⟨Tryd.prog, dSyncSm, dSyncLa, true⟩ 4000 67 [.agg [.rows false [.str], .rows false [.int .i64, .str]]] [.agg [.rows false [.str], .rows false [.int .i64, .str]]] ([]) dSyncTree = true := by decide +kernel
set_option maxHeartbeats 1000000 in
theorem dSync_pure : PureE true Tryd.prog 67 [.agg [.rows false [.str], .rows false [.int .i64, .str]]] [.agg [.rows false [.str], .rows false [.int .i64, .str]]] (lenP [(0, 1000000)]) dSyncF := by
  refine pure_tree (X := ⟨Tryd.prog, dSyncSm, dSyncLa, true⟩) (by decide +kernel) (Checked.mixed Tryd.checked) dSyncS (by decide +kernel) (by decide +kernel) dSyncT (by decide +kernel) ?_
  intro ds hl hp
  obtain ⟨d0, d1, rfl⟩ := len2 hl
  have b0 : (d0.l.length : Int) ≤ 1000000 := hp (0, 1000000) (by simp)
  have hF : dSyncF [d0, d1] = dSyncE (d0.l.map DV.s) (d1.l.map decis) := rfl
  rw [hF]
  clear hF hp hl
  have hN : nrmL (clsOf [.agg [.rows false [.str], .rows false [.int .i64, .str]]]) [d0, d1] = [.list ((d0.l.map DV.s).map DV.str), .list ((d1.l.map decis).map encis)] := by
    simp only [clsOf, Sh.cls, List.append_nil, nrmL, Cl.nrm, map_Lis, map_Ls]
  rw [hN]
  clear hN
  rw [← List.length_map (f := DV.s)] at b0
  generalize d0.l.map DV.s = x0 at b0 ⊢
  generalize d1.l.map decis = x1
  refine ⟨facts_nil _, ?_⟩
  unfold dSyncTree dSyncE
  simp only [Sat, clsOf, Sh.cls, List.append_nil, nrmL, Cl.nrm, List.map_cons, List.map_nil, List.cons.injEq, DV.list.injEq, and_true]
  try simp only [q_le, iff_true, eq_self]
  simp only [SE.den, evU, ev_idx, ev_cons, i_int, l_list, envL, List.getElem?_cons_zero, Option.getD_some, Int.toNat_zero, List.length_map, rows_s, and_true, eq_self, dSyncPhi, clSF, clSE, gLs, dece_s]
  repeat' (first | apply And.intro | intro)
  all_goals first
    | omega
    | trivial
    | rfl
    | (simp; done)
    | trace_state
end Go.Proofs.YtkfjgggiopegbaaDoor
end
section
namespace Go.Proofs.YtkfjgggiopegbaaDoor
set_option linter.unusedVariables false
set_option linter.unusedSimpArgs false
set_option maxRecDepth 100000
def duM (l : List Int) (sec : List (List UInt8)) (was : List Tis) (k c o n : Int) (b : List UInt8) : List Int × List (List UInt8) × List Tis × Tib × Int :=
  if k = 5 then
    (if o = 0 ∧ n = 0 then (if (writeM sec was c b).2.2 = 0 then (l, (writeM sec was c b).1, (writeM sec was c b).2.1, (0, true), 0) else (l, sec, was, (0, false), (writeM sec was c b).2.2))
    else (l, sec, was, (0, false), 1))
  else if k = 6 then
    (if c = 0 ∧ o = 0 ∧ n = 0 ∧ b = [] then (l, sec, [], (0, true), 0) else (l, sec, was, (0, false), 1))
  else ((doM l k c o n b).1, sec, was, (doM l k c o n b).2.1, (doM l k c o n b).2.2)
def duD (r : List Int × List (List UInt8) × List Tis × Tib × Int) : List DV := [.list (r.1.map DV.int), .list (r.2.1.map DV.str), .list (r.2.2.1.map encis), .int r.2.2.2.1.1, .bool r.2.2.2.1.2, .int r.2.2.2.2]
def uDoE (l : List Int) (sec : List (List UInt8)) (was : List Tis) (k c o n : Int) (b : List UInt8) : List DV := duD (duM l sec was k c o n b)
theorem nrm_du (r : List Int × List (List UInt8) × List Tis × Tib × Int) : nrmL [Cl.rows false [CK.int IntKind.i64], Cl.rows false [CK.str], Cl.rows false [CK.int IntKind.i64, CK.str], Cl.pl (CK.int IntKind.i64), Cl.pl CK.bool, Cl.pl (CK.int IntKind.i64)] (duD r) = duD r := by
  unfold duD
  simp only [nrmL, Cl.nrm, CK.nrm, map_Li, map_Ls, map_Lis, DV.i, DV.b, l_list, dece_i, dece_s, deces_is]
def uDoF (ds : List DV) : List DV := uDoE (gLi ds 0) (gLs ds 1) (gLis ds 2) (gi ds 3) (gi ds 4) (gi ds 5) (gi ds 6) (gs ds 7)
def uDoTree : PT :=
(.br (.bin .eq (.var 3) (.int 5))
 (.br (.un .not (.bin .eq (.var 5) (.int 0)))
  (.leaf [(.var 0), (.var 1), (.var 2), (.int 0), (.bool false), (.int 1)])
  (.br (.un .not (.bin .eq (.var 6) (.int 0)))
   (.leaf [(.var 0), (.var 1), (.var 2), (.int 0), (.bool false), (.int 1)])
   (.asrt (.bin .le (.un .len (.var 1)) (.int 1000000))
    (.asrt (.bin .le (.un .len (.var 2)) (.int 1000000))
     (.br (.un .not (.bin .eq (.bin .idx (.fn 79 (.bin .cons (.var 1) (.bin .cons (.var 2) (.bin .cons (.var 4) (.bin .cons (.var 7) .nil))))) (.int 2)) (.int 0)))
      (.leaf [(.var 0), (.var 1), (.var 2), (.int 0), (.bool false), (.bin .idx (.fn 79 (.bin .cons (.var 1) (.bin .cons (.var 2) (.bin .cons (.var 4) (.bin .cons (.var 7) .nil))))) (.int 2))])
      (.leaf [(.var 0), (.bin .idx (.fn 79 (.bin .cons (.var 1) (.bin .cons (.var 2) (.bin .cons (.var 4) (.bin .cons (.var 7) .nil))))) (.int 0)), (.bin .idx (.fn 79 (.bin .cons (.var 1) (.bin .cons (.var 2) (.bin .cons (.var 4) (.bin .cons (.var 7) .nil))))) (.int 1)), (.int 0), (.bool true), (.int 0)]))))))
 (.br (.bin .eq (.var 3) (.int 6))
  (.br (.un .not (.bin .and (.bin .eq (.var 3) (.int 6)) (.bin .and (.bin .eq (.var 4) (.int 0)) (.bin .and (.bin .eq (.var 5) (.int 0)) (.bin .and (.bin .eq (.var 6) (.int 0)) (.bin .eqs (.var 7) (.str [])))))))
   (.leaf [(.var 0), (.var 1), (.var 2), (.int 0), (.bool false), (.int 1)])
   (.asrt (.bin .le (.un .len (.var 1)) (.int 1000000))
    (.leaf [(.var 0), (.bin .idx (.fn 81 (.bin .cons (.var 1) (.bin .cons (.var 2) .nil))) (.int 0)), (.bin .idx (.fn 81 (.bin .cons (.var 1) (.bin .cons (.var 2) .nil))) (.int 1)), (.int 0), (.bool true), (.int 0)])))
  (.asrt (.bin .le (.un .len (.var 0)) (.int 1000000))
   (.leaf [(.bin .idx (.fn 0 (.bin .cons (.var 0) (.bin .cons (.var 3) (.bin .cons (.var 4) (.bin .cons (.var 5) (.bin .cons (.var 6) (.bin .cons (.var 7) .nil))))))) (.int 0)), (.var 1), (.var 2), (.bin .idx (.fn 0 (.bin .cons (.var 0) (.bin .cons (.var 3) (.bin .cons (.var 4) (.bin .cons (.var 5) (.bin .cons (.var 6) (.bin .cons (.var 7) .nil))))))) (.int 1)), (.bin .idx (.fn 0 (.bin .cons (.var 0) (.bin .cons (.var 3) (.bin .cons (.var 4) (.bin .cons (.var 5) (.bin .cons (.var 6) (.bin .cons (.var 7) .nil))))))) (.int 2)), (.bin .idx (.fn 0 (.bin .cons (.var 0) (.bin .cons (.var 3) (.bin .cons (.var 4) (.bin .cons (.var 5) (.bin .cons (.var 6) (.bin .cons (.var 7) .nil))))))) (.int 3))]))))
def uDoSm : List (Nat × Smy) := [(68, ⟨0, [.agg [.rows false [.int .i64]], .agg [.pl (.int .i64), .pl (.int .i64), .pl (.int .i64), .pl (.int .i64), .pl .str]], [.agg [.rows false [.int .i64]], .agg [.pl (.int .i64), .pl .bool], .one (.pl (.int .i64))], lenC [(0, 1000000)], none⟩), (65, ⟨79, [.agg [.rows false [.str], .rows false [.int .i64, .str]], .one (.pl (.int .i64)), .one (.pl .str)], [.agg [.rows false [.str], .rows false [.int .i64, .str]], .one (.pl (.int .i64))], lenC [(0, 1000000), (1, 1000000)], none⟩), (67, ⟨81, [.agg [.rows false [.str], .rows false [.int .i64, .str]]], [.agg [.rows false [.str], .rows false [.int .i64, .str]]], lenC [(0, 1000000)], none⟩)]
def uDoLa : List (LK × LA) := []
def uDoPhi : Fs := ⟨fun n d => match n with
  | 0 => .list (memDoF d.l)
  | 79 => .list (dWriteF d.l)
  | 81 => .list (dSyncF d.l)
  | _ => d, 147⟩
theorem uDoS : SmyOk true Tryd.prog uDoPhi uDoSm := (smy_cons (lenP [(0, 1000000)]) memDoF memDo_pure (len_hp [(0, 1000000)]) (fun _ => rfl) (fun _ h => by cases h) (smy_cons (lenP [(0, 1000000), (1, 1000000)]) dWriteF dWrite_pure (len_hp [(0, 1000000), (1, 1000000)]) (fun _ => rfl) (fun _ h => by cases h) (smy_cons (lenP [(0, 1000000)]) dSyncF dSync_pure (len_hp [(0, 1000000)]) (fun _ => rfl) (fun _ h => by cases h) smy_nil)))
theorem uDoT : treeOk ⟨Tryd.prog, uDoSm, uDoLa, true⟩ 4000 32 [.agg [.rows false [.int .i64]], .agg [.rows false [.str], .rows false [.int .i64, .str]], .agg [.pl (.int .i64), .pl (.int .i64), .pl (.int .i64), .pl (.int .i64), .pl .str]] [.agg [.rows false [.int .i64]], .agg [.rows false [.str], .rows false [.int .i64, .str]], .agg [.pl (.int .i64), .pl .bool], .one (.pl (.int .i64))] ([]) uDoTree = true := by decide +kernel
set_option maxHeartbeats 1000000 in
theorem uDo_pure : PureE true Tryd.prog 32 [.agg [.rows false [.int .i64]], .agg [.rows false [.str], .rows false [.int .i64, .str]], .agg [.pl (.int .i64), .pl (.int .i64), .pl (.int .i64), .pl (.int .i64), .pl .str]] [.agg [.rows false [.int .i64]], .agg [.rows false [.str], .rows false [.int .i64, .str]], .agg [.pl (.int .i64), .pl .bool], .one (.pl (.int .i64))] (lenP [(0, 1000000), (1, 1000000), (2, 1000000)]) uDoF := by
  refine pure_tree (X := ⟨Tryd.prog, uDoSm, uDoLa, true⟩) (by decide +kernel) (Checked.mixed Tryd.checked) uDoS (by decide +kernel) (by decide +kernel) uDoT (by decide +kernel) ?_
  intro ds hl hp
  obtain ⟨d0, d1, d2, d3, d4, d5, d6, d7, rfl⟩ := len8 hl
  have b0 : (d0.l.length : Int) ≤ 1000000 := hp (0, 1000000) (by simp)
  have b1 : (d1.l.length : Int) ≤ 1000000 := hp (1, 1000000) (by simp)
  have b2 : (d2.l.length : Int) ≤ 1000000 := hp (2, 1000000) (by simp)
  have hF : uDoF [d0, d1, d2, d3, d4, d5, d6, d7] = uDoE (d0.l.map DV.i) (d1.l.map DV.s) (d2.l.map decis) d3.i d4.i d5.i d6.i d7.s := rfl
  rw [hF]
  clear hF hp hl
  have hN : nrmL (clsOf [.agg [.rows false [.int .i64]], .agg [.rows false [.str], .rows false [.int .i64, .str]], .agg [.pl (.int .i64), .pl (.int .i64), .pl (.int .i64), .pl (.int .i64), .pl .str]]) [d0, d1, d2, d3, d4, d5, d6, d7] = [.list ((d0.l.map DV.i).map DV.int), .list ((d1.l.map DV.s).map DV.str), .list ((d2.l.map decis).map encis), .int d3.i, .int d4.i, .int d5.i, .int d6.i, .str d7.s] := by
    simp only [clsOf, Sh.cls, List.append_nil, List.cons_append, List.nil_append, nrmL, Cl.nrm, CK.nrm, map_Li, map_Lis, map_Ls]
  rw [hN]
  clear hN
  rw [← List.length_map (f := DV.i)] at b0
  generalize d0.l.map DV.i = x0 at b0 ⊢
  rw [← List.length_map (f := DV.s)] at b1
  generalize d1.l.map DV.s = x1 at b1 ⊢
  rw [← List.length_map (f := decis)] at b2
  generalize d2.l.map decis = x2 at b2 ⊢
  generalize d3.i = x3
  generalize d4.i = x4
  generalize d5.i = x5
  generalize d6.i = x6
  generalize d7.s = x7
  refine ⟨facts_nil _, ?_⟩
  unfold uDoTree uDoE
  simp only [Sat, clsOf, Sh.cls, List.append_nil, List.cons_append, List.nil_append, nrmL, Cl.nrm, CK.nrm, List.map_cons, List.map_nil]
  simp only [q_le, q_eq, q_eqs, q_and, q_not, iff_true, iff_false, Bool.not_true, Bool.not_false, Bool.false_eq_true, eq_self]
  simp only [SE.den, evU, ev_idx, ev_cons, i_int, b_bool, s_str, l_list, envL, List.getElem?_cons_succ, List.getElem?_cons_zero, Option.getD_some, Int.toNat_zero, Int.reduceToNat, List.length_map, rows_i, rows_s, rows_is, rows_is, uDoPhi, memDoF, memDoE, dWriteF, dWriteE, dSyncF, dSyncE, gi, gs, gLi, gLs, dece_i, dece_s, gLis, deces_is, nrm_du]
  repeat' (first | apply And.intro | intro)
  all_goals first | omega | (simp_all [duD, duM]; done) | (simp only [duM, duD]; simp_all; done) | skip
  · rename_i h5 h6 hn
    rw [show duM x0 x1 x2 x3 x4 x5 x6 x7 = (x0, x1, x2, (0, false), 1) by
      unfold duM
      rw [if_neg h5, if_pos h6, if_neg (fun h => hn ⟨h6, h⟩)]]
    rfl
end Go.Proofs.YtkfjgggiopegbaaDoor
end
section
namespace Go.Proofs.YtkfjgggiopegbaaDoor
set_option linter.unusedVariables false
set_option linter.unusedSimpArgs false
set_option maxRecDepth 100000
def rSameE (a b : List Int) : List DV := [.bool (decide (a = b))]
def rSameF (ds : List DV) : List DV := rSameE (gLi ds 0) (gLi ds 1)
def rSameTree : PT :=
(.br (.un .not (.bin .eq (.un .len (.var 0)) (.un .len (.var 1))))
 (.leaf [(.bool false)])
 (.loop 2 [(.int 0)]
  (.br (.un .not (.bin .le (.un .len (.var 0)) (.var 2)))
   (.asrt (.bin .le (.int 0) (.var 2))
    (.asrt (.un .not (.bin .le (.un .len (.var 1)) (.var 2)))
     (.br (.un .not (.bin .eq (.bin .idx (.var 0) (.bin .add (.int 0) (.var 2))) (.bin .idx (.var 1) (.bin .add (.int 0) (.var 2)))))
      .fail
      (.leaf [(.un (.wrap .i64) (.bin .add (.var 2) (.int 1)))]))))
   .fail)
  (.br (.un .not (.bin .le (.un .len (.var 0)) (.var 2)))
   (.asrt (.bin .le (.int 0) (.var 2))
    (.asrt (.un .not (.bin .le (.un .len (.var 1)) (.var 2)))
     (.br (.un .not (.bin .eq (.bin .idx (.var 0) (.bin .add (.int 0) (.var 2))) (.bin .idx (.var 1) (.bin .add (.int 0) (.var 2)))))
      (.leaf [(.bool false)])
      .fail)))
   (.leaf [(.bool true)]))))
def rSameSm : List (Nat × Smy) := []
def rSameLa : List (LK × LA) := [(⟨31, 4, 4, 2, 1⟩, ⟨[(5, (.int .i64 (.var 2))), (13, .any), (14, .any), (15, .any), (16, .any), (17, .any), (18, .any), (19, .any), (20, .any), (21, .any), (22, .any), (23, .any), (24, .any), (25, .any), (26, .any), (27, .any), (28, .any), (29, .any), (30, .any)], [], [], 1, 0⟩)]
def rSamePhi : Fs := ⟨fun n d => match n with
  | _ => d, 147⟩
theorem rSameS : SmyOk true Tryd.prog rSamePhi rSameSm := smy_nil
theorem rSameT : treeOk ⟨Tryd.prog, rSameSm, rSameLa, true⟩ 4000 27 [.agg [.rows false [.int .i64]], .agg [.rows false [.int .i64]]] [.one (.pl .bool)] ([]) rSameTree = true := by decide +kernel
set_option maxHeartbeats 1000000 in
theorem rSame_pure : PureE true Tryd.prog 27 [.agg [.rows false [.int .i64]], .agg [.rows false [.int .i64]]] [.one (.pl .bool)] (lenP [(0, 1000000), (1, 1000000)]) rSameF := by
  refine pure_tree (X := ⟨Tryd.prog, rSameSm, rSameLa, true⟩) (by decide +kernel) (Checked.mixed Tryd.checked) rSameS (by decide +kernel) (by decide +kernel) rSameT (by decide +kernel) ?_
  intro ds hl hp
  obtain ⟨d0, d1, rfl⟩ := len2 hl
  have b0 : (d0.l.length : Int) ≤ 1000000 := hp (0, 1000000) (by simp)
  have b1 : (d1.l.length : Int) ≤ 1000000 := hp (1, 1000000) (by simp)
  have hF : rSameF [d0, d1] = rSameE (d0.l.map DV.i) (d1.l.map DV.i) := rfl
  rw [hF]
  clear hF hp hl
  have hN : nrmL (clsOf [.agg [.rows false [.int .i64]], .agg [.rows false [.int .i64]]]) [d0, d1] = [.list ((d0.l.map DV.i).map DV.int), .list ((d1.l.map DV.i).map DV.int)] := by
    simp only [clsOf, Sh.cls, List.append_nil, List.cons_append, List.nil_append, nrmL, Cl.nrm, map_Li]
  rw [hN]
  clear hN
  rw [← List.length_map (f := DV.i)] at b0
  generalize d0.l.map DV.i = x0 at b0 ⊢
  rw [← List.length_map (f := DV.i)] at b1
  generalize d1.l.map DV.i = x1 at b1 ⊢
  refine ⟨facts_nil _, ?_⟩
  unfold rSameTree rSameE
  simp only [Sat, clsOf, Sh.cls, List.append_nil, List.cons_append, List.nil_append, nrmL, Cl.nrm, CK.nrm, List.map_cons, List.map_nil, List.length_cons, List.length_nil, List.cons.injEq, DV.bool.injEq, and_true, true_and]
  simp only [q_le, q_eq, q_not, q_bool, iff_true, iff_false, Bool.not_true, Bool.not_false, Bool.false_eq_true, eq_self]
  simp only [SE.den, evU, ev_add, ev_idx, i_int, b_bool, l_list, envL, List.getElem?_cons_succ, List.getElem?_cons_zero, Option.getD_some, List.length_map, get_Li, Int.zero_add]
  refine ⟨fun h => ?_, fun h => ?_⟩
  · exact (decide_eq_false (fun e => h (by rw [e]))).symm
  · have hl : x0.length = x1.length := by omega
    refine rounds_find x0.length (fun i => [DV.int i]) (fun i => x0[i]?.getD 0 ≠ x1[i]?.getD 0) rfl (fun _ => rfl) (fun i hi hs hj => ?_) (fun i hi hs hj => ?_) (fun hj => ?_)
    · simp only [i_int, List.getElem?_cons_zero, Option.getD_some, Int.toNat_natCast, and_true, eq_self, DV.int.injEq, List.cons.injEq]
      simp only [w64 (n := (i : Int) + 1) (by omega) (by omega)]
      grind
    · simp only [i_int, List.getElem?_cons_zero, Option.getD_some, Int.toNat_natCast]
      grind
    · simp only [i_int, List.getElem?_cons_zero, Option.getD_some, Int.toNat_natCast]
      have : x0 = x1 := List.ext_getElem? fun i => by
        by_cases hi : i < x0.length
        · have := hj i hi
          rw [List.getElem?_eq_getElem hi, List.getElem?_eq_getElem (by omega)] at this ⊢
          simpa using this
        · rw [List.getElem?_eq_none (by omega), List.getElem?_eq_none (by omega)]
      grind
end Go.Proofs.YtkfjgggiopegbaaDoor
end
section
set_option linter.unusedSimpArgs false
namespace Go.Proofs.YtkfjgggiopegbaaDoor
theorem wrap_ofInt (n : Int) : IntKind.i64.wrap ((BitVec.ofInt 64 n).toNat : Int) = IntKind.i64.wrap n := by
  rw [BitVec.toNat_ofInt, w64_eq, w64_eq]; omega
end Go.Proofs.YtkfjgggiopegbaaDoor
end
