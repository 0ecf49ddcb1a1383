/- Code, calls and deferred calls do what the executor says. No program in sight. -/
import Derived.Test.YtbnbljeegghgiaaSndp
namespace Go.Proofs.Ytbnbljeegghgiaa
open Go.RowKit
set_option linter.unusedVariables false
set_option linter.unusedSimpArgs false

section
variable {X : Cx} {ρ : Env} {Q : Lf → Prop} {n : Nat}

theorem code_step (icode : SCode X ρ Q n) (iloop : SLoop X ρ Q n) (iops : SOps X ρ Q n) (idraw : SDraw X ρ Q n) : SCode X ρ Q (n + 1) := by
  intro c F M k G a w R h hM hF hR
  have here : ∀ x e, XR ρ G x e → (k (.code x F M)).sat Q ρ → R e a w := fun x e hx hk => hR _ _ _ ⟨x, F, G, M, hx, hF, hM, Stp.refl _ _ _ _, hk⟩
  unfold run at h
  simp only at h
  split at h
  · exact wp_skip (here .norm .normal trivial h)
  · exact wp_label (here .norm .normal trivial h)
  · -- a region
    rename_i id ops draw
    split at h
    · exact wp_region_list (iops ops ops.toList F M k G a w R h hM hF fun e a' w' hr _ => hR e a' w' hr)
    · cases hc : (tidy ops (Region.before ops) && validB ops (Region.before ops) (2 ^ ops.size - 1) (canon ops (Region.before ops) ((List.range ops.size).filter (isH ops)) 0)) with
      | false => rw [hc] at h; exact h.elim
      | true =>
        rw [hc] at h
        simp only [cond_true] at h
        simp only [Bool.and_eq_true] at hc
        split at h
        · rename_i tm htm
          exact idraw id ops _ tm F M k G a w R hc.1 hc.2 htm h hM hF hR
        · exact h.elim
  · -- seq
    rename_i x y
    refine wp_seq (icode x F M _ G a w _ h hM hF fun e a' w' hr => ?_)
    obtain ⟨z, F', G', M', h1, h2, h3, h4, h5⟩ := hr
    cases z with
    | norm =>
      cases e with
      | normal => exact icode y F' M' k G' a' w' R h5 h3 h2 fun e a2 w2 hr => hR e a2 w2 (hr.from h4)
      | _ => exact h1.elim
    | _ =>
      cases e with
      | normal => exact h1.elim
      | _ => exact hR _ _ _ ⟨_, F', G', M', h1, h2, h3, h4, h5⟩
  · -- cond
    rename_i x y z
    split at h
    · rename_i e he
      obtain ⟨p, h1, h2⟩ := test_pc h hM.pc
      have hv := hF.ev x
      rw [he] at hv
      refine wp_cond hv.bool_inv ?_
      have := icode _ F _ k G a w R h1 (hM.pcs h2) hF fun e a2 w2 hr => hR e a2 w2 (hr.from (Stp.learn M w p))
      cases hb : (e.den ρ).b <;> rw [hb] at this <;> exact this
    · exact h.elim
  · -- block
    rename_i id x
    refine wp_block (icode x F M _ G a w _ h hM hF fun e a' w' hr => ?_)
    obtain ⟨z, F', G', M', h1, h2, h3, h4, h5⟩ := hr
    cases z with
    | exit i =>
      cases e with
      | exit j =>
        have hij : i = j := h1
        subst hij
        simp only at h5
        unfold Exit.inBlock
        simp only
        cases hb : Nat.beq i id with
        | true =>
          rw [hb] at h5
          rw [if_pos ((beq_iff _ _).1 hb)]
          exact hR _ _ _ ⟨.norm, F', G', M', trivial, h2, h3, h4, h5⟩
        | false =>
          rw [hb] at h5
          rw [if_neg (fun e => by rw [(beq_iff _ _).2 e] at hb; cases hb)]
          exact hR _ _ _ ⟨.exit i, F', G', M', h1, h2, h3, h4, h5⟩
      | _ => exact h1.elim
    | _ =>
      cases e with
      | exit j => exact h1.elim
      | _ => exact hR _ _ _ ⟨_, F', G', M', h1, h2, h3, h4, h5⟩
  · -- loop
    rename_i x
    exact wp_loop_rounds n (iloop x F M k G a w R h hM hF hR)
  · exact wp_exit (here (.exit _) (.exit _) rfl h)
  · exact wp_goto (here (.goto _) (.goto _) rfl h)
  · exact wp_ret (here .ret .ret trivial h)
  · exact h.elim

theorem loop_step (icode : SCode X ρ Q n) (iloop : SLoop X ρ Q n) : SLoop X ρ Q (n + 1) := by
  intro c F M k G a w R h hM hF hR
  unfold run at h
  simp only at h
  unfold Code.rounds
  refine icode c F M _ G a w _ h hM hF fun e a' w' hr => ?_
  obtain ⟨z, F', G', M', h1, h2, h3, h4, h5⟩ := hr
  cases z with
  | norm =>
    cases e with
    | normal => exact iloop c F' M' k G' a' w' R h5 h3 h2 fun e a2 w2 hr => hR e a2 w2 (hr.from h4)
    | _ => exact h1.elim
  | _ =>
    cases e with
    | normal => exact h1.elim
    | _ => exact hR _ _ _ ⟨_, F', G', M', h1, h2, h3, h4, h5⟩

theorem results_run {P : Program} {fn : Func} {tmps : Array Value} {w : World} {us : List Value} (h : (fn.results.toList.mapM (resV tmps)).run P w = .ok us w) : (results fn tmps).run P w = .ok (match us with | [u] => u | us => .tuple us.toArray) w := by
  have h' : (fn.results.mapM (resV tmps)).run P w = .ok us.toArray w := by
    rw [Array.mapM_eq_mapM_toList]
    simp [h]
  have e : results fn tmps = (do let vs ← fn.results.mapM (resV tmps); pure (if h : vs.size = 1 then vs[0] else .tuple vs)) := by
    unfold results
    congr 2
  rw [e, Sem.run_bind, h', Result.andThen_ok, Sem.run_pure]
  cases us with
  | nil => rfl
  | cons u r =>
    cases r with
    | nil => rfl
    | cons u2 r => simp
/-- How a function's results reach its caller. -/
theorem ret_ok {P : Program} {fn : Func} {F : Fr} {M : Me} {k : Lf → T} {G : Gh} {w : World} {tmps : Array Value} (h : (resultsA P F M fn.results.toList fun vs M => (match vs with | [v] => k (.val v M) | vs => k (.val (.tup vs) M))).sat Q ρ) (hM : MR ρ G M w) (ht : ∀ t, VR ρ G ((F.tm.get t).getD .any) (tmps.getD t undef)) :
    ∃ u, (results fn tmps).run P w = .ok u w ∧ CReach ρ Q k G M w (.returned u) w := by
  obtain ⟨vs, us, p, h1, h2, h3, h4⟩ := results_sat fn.results.toList h hM ht
  refine ⟨_, results_run h4, G, _, hM.pcs h2, Stp.learn M w p, ?_⟩
  have hl := h3.1
  cases vs with
  | nil =>
    cases us with
    | nil => exact ⟨_, .tup _ _ rfl (fun i a v h => by simp at h), h1⟩
    | cons u r => simp at hl
  | cons v vs =>
    cases us with
    | nil => simp at hl
    | cons u r =>
      cases vs with
      | nil =>
        cases r with
        | nil => exact ⟨v, h3.2 0 v u rfl rfl, h1⟩
        | cons u2 r => simp at hl
      | cons v2 vs =>
        cases r with
        | nil => simp at hl
        | cons u2 r => exact ⟨_, .tup _ _ h3.1 h3.2, h1⟩
theorem CReach.from {k : Lf → T} {G G1 : Gh} {M M1 : Me} {w w1 : World} {e : Ending} {w' : World} (h : CReach ρ Q k G1 M1 w1 e w') (s : Stp ρ G M w G1 M1 w1) : CReach ρ Q k G M w e w' := by
  obtain ⟨G', M', h1, h2, h3⟩ := h
  exact ⟨G', M', h1, s.trans h2, h3⟩
theorem df_nil {G : Gh} {cs : List Deferred} (h : DfR ρ G [] cs) : cs = [] := by
  cases cs with
  | nil => rfl
  | cons d r => exact h.elim

theorem call_step (icode : SCode X ρ Q n) (idef : SDefers X ρ Q n) : SCall X ρ Q (n + 1) := by
  intro fid first cap args F M k G w vf vc va R h hM h1 h2 h3 hR
  unfold run at h
  simp only at h
  split at h
  · rename_i fn hfn
    split at h
    · rename_i c hc
      cases hle : Nat.ble (first ++ args ++ cap).length fn.ntmps with
      | false => rw [hle] at h; exact h.elim
      | true =>
        rw [hle] at h
        simp only [cond_true] at h
        have hn := Nat.le_of_ble_eq_true hle
        split at h
        · rename_i t00 t0 e1 e2
          split at h
          · rename_i tm htm
            refine ⟨⟨fn, hfn, by rw [hc]; rfl⟩, ?_⟩
            have hv : VRs ρ G (first ++ args ++ cap) (vf ++ va ++ vc) := (h1.append h3).append h2
            have hFr := enter_ok (ρ := ρ) (G := G) e2 htm hn hv
            refine calls_of_wp_defers hfn hc (icode c _ M _ G _ w _ h hM hFr fun e a' w' hr => ?_)
            obtain ⟨z, F', G', M', g1, g2, g3, g4, g5⟩ := hr
            have retk : (match F'.df with
                    | [] => resultsA X.P F' M' fn.results.toList fun vs M => (match vs with | [v] => k (.val v M) | vs => k (.val (.tup vs) M))
                    | ds => run n X (.defers fn ds none) F' M' k).sat Q ρ → Leaves X.P fn a'.tmps R a'.defers .returning w' := by
              intro g5
              have hdf := g2.df
              split at g5
              · rename_i hd
                rw [hd] at hdf
                rw [df_nil hdf]
                obtain ⟨u, hu, hcr⟩ := ret_ok g5 g3 g2.slot
                exact ⟨u, hu, hR _ _ (hcr.from g4)⟩
              · exact idef fn _ none F' M' k G' w' a'.tmps a'.defers .returning R g5 g3 g2.slot hdf rfl fun e w2 hcr => hR _ _ (hcr.from g4)
            cases z with
            | norm =>
              cases e with
              | normal => exact retk g5
              | _ => exact g1.elim
            | ret =>
              cases e with
              | ret => exact retk g5
              | _ => exact g1.elim
            | panic v =>
              cases e with
              | panic ch =>
                obtain ⟨u, hch, hu⟩ := g1
                subst hch
                have hdf := g2.df
                simp only at g5
                split at g5
                · rename_i hd
                  rw [hd] at hdf
                  show Leaves X.P fn a'.tmps R a'.defers _ w'
                  rw [df_nil hdf]
                  exact hR _ _ (CReach.from ⟨G', M', g3, Stp.refl _ _ _ _, v, u, rfl, hu, g5⟩ g4)
                · exact idef fn _ (some v) F' M' k G' w' a'.tmps a'.defers _ R g5 g3 g2.slot hdf ⟨u, rfl, hu⟩ fun e w2 hcr => hR _ _ (hcr.from g4)
              | _ => exact g1.elim
            | exit i => exact g5.elim
            | goto i => exact g5.elim
          · exact h.elim
        · exact h.elim
    · exact h.elim
  · exact h.elim

theorem defers_step (hname : ∀ (f : FuncId) (fn : Func), X.P.funcs[f]? = some fn → fn.name ≠ "runtime.NumGoroutine") (icode : SCode X ρ Q n) (idef : SDefers X ρ Q n) : SDefers X ρ Q (n + 1) := by
  intro fn ds pn F M k G w tmps cs u R h hM ht hdf hu hR
  unfold run at h
  simp only at h
  cases ds with
  | nil =>
    rw [df_nil hdf]
    cases pn with
    | none =>
      simp only at hu
      subst hu
      obtain ⟨u, hu, hcr⟩ := ret_ok h hM ht
      exact ⟨u, hu, hR _ _ hcr⟩
    | some v =>
      obtain ⟨x, hx, hv⟩ := hu
      subst hx
      exact hR _ _ ⟨G, M, hM, Stp.refl _ _ _ _, v, x, rfl, hv, h⟩
  | cons fa r =>
    obtain ⟨f, args⟩ := fa
    cases cs with
    | nil => exact hdf.elim
    | cons d cs =>
      obtain ⟨⟨fn0, first, cap, vf, vc, va, hf, h1, h2, h3, hd⟩, hdf⟩ := hdf
      subst hf
      subst hd
      simp only at h
      split at h
      · rename_i fid first' cap' heq
        cases heq
        split at h
        · rename_i fn' hfn
          split at h
          · rename_i c hc
            cases hle : Nat.ble (first ++ args ++ cap).length fn'.ntmps with
            | false => rw [hle] at h; exact h.elim
            | true =>
              rw [hle] at h
              simp only [cond_true] at h
              have hn := Nat.le_of_ble_eq_true hle
              split at h
              · rename_i t0 e2
                split at h
                · rename_i tm htm
                  split at h
                  · rename_i dd rest hrec
                    have hv : VRs ρ G (first ++ args ++ cap) (vf ++ va ++ vc) := (h1.append h3).append h2
                    have hFr := enter_ok (ρ := ρ) (G := G) e2 htm hn hv
                    have hrun : u ≠ .run := by
                      cases pn with
                      | none => simp only at hu; subst hu; simp
                      | some v => obtain ⟨x, hx, _⟩ := hu; subst hx; simp
                    refine leaves_cons hrun (call_run hname hfn (by rw [hc]; rfl) _ w) (callsD_of_wpS hfn hc fun c₀ cs0 hc0 => ?_)
                    -- the body: recover, then the rest
                    unfold recovers at hrec
                    split at hrec
                    · rename_i id ops rst
                      split at hrec
                      · rename_i d1 call ty pos aft hops
                        cases hrec
                        obtain ⟨G', g1, g2, g3, g4, g5⟩ := put_get h
                        have fin : ∀ (u' : FrameMode) (aa : Act), settle u' = .returning → FR ρ G G' aa → rest.wpS X.P (bodyPostS X.P fn' c₀ cs0 fun e u'' w' => match e with
                            | .returned _ => Leaves X.P fn tmps R cs (settle u'') w'
                            | .panicked chain => Leaves X.P fn tmps R cs (raised u'' chain) w'
                            | .outgrown => R .outgrown w') aa ({ c₀ with mode := u' } :: cs0) w := by
                          intro u' aa hset hFa
                          refine wpS_of_wp (icode rest G' M _ G aa w _ g1 hM hFa fun e a' w' hr => ?_)
                          obtain ⟨z, F', G2, M', k1, k2, k3, k4, k5⟩ := hr
                          have key : (match F'.df with
                              | [] => resultsA X.P F' M' fn'.results.toList fun _ M => run n X (.defers fn r none) F M k
                              | _ => .fail 50).sat Q ρ → a'.defers = [] ∧ ∃ u'', { c₀ with mode := u' } :: cs0 = { c₀ with mode := u'' } :: cs0 ∧ ∃ v, (results fn' a'.tmps).run X.P w' = .ok v w' ∧ Leaves X.P fn tmps R cs (settle u'') w' := by
                            intro k5
                            have hd2 := k2.df
                            split at k5
                            · rename_i hd
                              rw [hd] at hd2
                              obtain ⟨vs, us, p, l1, l2, l3, l4⟩ := results_sat fn'.results.toList k5 k3 k2.slot
                              refine ⟨df_nil hd2, u', rfl, _, results_run l4, ?_⟩
                              rw [hset]
                              exact idef fn r none F _ k G2 w' tmps cs .returning R l1 (k3.pcs l2) (fun t => (ht t).mono k4.gh) (hdf.mono k4.gh) rfl fun e w2 hcr => hR _ _ (hcr.from (k4.trans (Stp.learn M' w' p)))
                            · exact k5.elim
                          cases z with
                          | norm =>
                            cases e with
                            | normal => exact key k5
                            | _ => exact k1.elim
                          | ret =>
                            cases e with
                            | ret => exact key k5
                            | _ => exact k1.elim
                          | _ => exact k5.elim
                        refine wpS_seq (wpS_region ?_)
                        have hsz : ops = #[{ dst := dd, op := .call { callee := .builtin .recover, args := d1, argTypes := call }, type := ty, pos := pos, after := aft, guard := none }] := by
                          rw [← Array.toArray_toList (xs := ops), hops]
                        subst hsz
                        simp only [List.size_toArray, List.length_cons, List.length_nil, Nat.zero_add, show List.range 1 = [0] from rfl, wpOpsS, List.getElem?_toArray, List.getElem?_cons_zero, Region.wanted, if_true]
                        have hex : ∀ (f : Operand → Value) (o : Oper) (ar : Array Operand) (ats : Array TypeId), o.op = .call { callee := .builtin .recover, args := ar, argTypes := ats } → (execOp f o).run X.P w = .ok .recover w := fun f o ar ats ho => by
                          unfold execOp; rw [ho]; rfl
                        rw [hex _ _ _ _ rfl]
                        simp only
                        cases pn with
                        | none =>
                          simp only at hu
                          subst hu
                          have : recoverD (c₀ :: cs0) = none := by simp [recoverD, hc0]
                          rw [this]
                          have := fin c₀.mode _ (by rw [hc0]; rfl) (hFr.putS (v := .nili) (u := .nilIface) (d := dd) .nili g2 g3 g4 g5)
                          exact this
                        | some v =>
                          obtain ⟨x, hx, hv⟩ := hu
                          subst hx
                          have : recoverD (c₀ :: cs0) = some (x, { c₀ with mode := .panicking [{ v := x, recovered := true }] } :: cs0) := by simp [recoverD, hc0]
                          rw [this]
                          exact fin _ _ rfl (hFr.putS (v := v) (u := x) (d := dd) hv g2 g3 g4 g5)
                      · cases hrec
                    · cases hrec
                  · exact h.elim
                · exact h.elim
              · exact h.elim
          · exact h.elim
        · exact h.elim
      · exact h.elim
end
end Go.Proofs.Ytbnbljeegghgiaa
