/- Operations, in the order of the text, do what the executor says. No program in sight. -/
import Derived.Test.YtbnbljeegghgiaaSndo
namespace Go.Proofs.Ytbnbljeegghgiaa
open Go.RowKit
set_option linter.unusedVariables false
set_option linter.unusedSimpArgs false

section
variable {X : Cx} {ρ : Env} {Q : Lf → Prop} {n : Nat}

theorem FR.putS {G : Gh} {F F2 : Fr} {a : Act} {d : Option Tmp} {v : AV} {u : Value} (hF : FR ρ G F a) (hv : VR ρ G v u) (h1 : F2.n = F.n) (h2 : F2.df = F.df) (h3 : ∀ t, F2.tm.get t = if d = some t then some v else F.tm.get t) (h4 : ∀ t, d = some t → t < F.n) : FR ρ G F2 (a.put d u) := by
  refine ⟨by rw [put_size, hF.n, h1], fun t x ht => ?_, by rw [h2, put_defers]; exact hF.df⟩
  rw [h3] at ht
  split at ht
  · rename_i e
    subst e
    cases ht
    rw [put_self (by rw [hF.n]; exact h4 t rfl)]
    exact hv
  · rename_i e
    rw [put_getD e]
    exact hF.tm t x ht
theorem run_unit {P : Program} {s : Sem Unit} {w w' : World} (h : s.run P w = .ok () w') : (do s; pure .skip : Sem Next).run P w = .ok .skip w' := by
  rw [Sem.run_bind, h]; rfl
theorem lift_to {P : Program} {s : Sem Value} {u : Value} {w w' : World} (h : s.run P w = .ok u w') : (do pure (.value (← s)) : Sem Next).run P w = .ok (.value u) w' := by
  rw [Sem.run_bind, h]; rfl
theorem put_tmps (a : Act) (ds : List Deferred) (d : Option Tmp) (u : Value) : ((Act.mk a.tmps ds).put d u).tmps = (a.put d u).tmps := by cases d <;> rfl
theorem toListMap (l : Array Operand) (f : Operand → Value) : (l.map f).toList = l.toList.map f := by simp

/-- A call by a function value enters the function. -/
theorem call_run (hname : ∀ (f : FuncId) (fn : Func), X.P.funcs[f]? = some fn → fn.name ≠ "runtime.NumGoroutine") {fid : FuncId} {fn : Func} (hf : X.P.funcs[fid]? = some fn) (hb : fn.body.isNone = false) (args : Array Value) (w : World) : (callFunc fid args).run X.P w = .ok (.enter fid args) w := by
  have hn : (fn.name == "runtime.NumGoroutine") = false := by simpa using hname fid fn hf
  unfold callFunc
  simp only [Sem.run_bind, run_program, Result.andThen_ok, hf, hn, hb, Bool.false_eq_true, if_false, Sem.run_pure]

set_option maxHeartbeats 1000000 in
theorem ops_step (hname : ∀ (f : FuncId) (fn : Func), X.P.funcs[f]? = some fn → fn.name ≠ "runtime.NumGoroutine") (iops : SOps X ρ Q n) (icall : SCall X ρ Q n) : SOps X ρ Q (n + 1) := by
  intro ops l F M k G a w R h hM hF hR
  cases l with
  | nil =>
    exact hR _ _ _ ⟨.norm, F, G, M, trivial, hF, hM, Stp.refl _ _ _ _, h⟩ (fun _ _ => rfl)
  | cons o r =>
    -- what comes next
    have next : ∀ (F' : Fr) (M' : Me) (G' : Gh) (a' : Act) (w' : World), (run n X (.ops ops r) F' M' k).sat Q ρ → MR ρ G' M' w' → FR ρ G' F' a' → Stp ρ G M w G' M' w' → (∀ d, o.dst ≠ some d → a'.tmps.getD d undef = a.tmps.getD d undef) → wpList X.P ops R r a' w' := by
      intro F' M' G' a' w' h1 h2 h3 h4 h5
      refine iops ops r F' M' k G' a' w' R h1 h2 h3 fun e a2 w2 hr hs => hR e a2 w2 (hr.from h4) fun d hd => ?_
      rw [hs d (fun x hx => hd x (List.mem_cons_of_mem _ hx)), h5 d (hd o (List.mem_cons_self ..))]
    have put : ∀ (M' : Me) (G' : Gh) (w' : World) (v : AV) (u : Value), (F.put o.dst v fun F => run n X (.ops ops r) F M' k).sat Q ρ → MR ρ G' M' w' → Stp ρ G M w G' M' w' → VR ρ G' v u → wpList X.P ops R r (a.put o.dst u) w' := by
      intro M' G' w' v u h1 h2 h3 h4
      obtain ⟨F2, g1, g2, g3, g4, g5⟩ := put_get h1
      exact next F2 M' G' _ w' g1 h2 ((hF.mono h3.gh).putS h4 g2 g3 g4 g5) h3 fun d hd => put_getD hd
    have skip : ∀ (p : PC), holdsAll ρ p → (F.put o.dst undefA fun F => run n X (.ops ops r) F { M with pc := p } k).sat Q ρ → wpList X.P ops R r (a.put o.dst undef) w := fun p hp h1 => put _ G w _ undef h1 (hM.pcs hp) (Stp.learn M w p) undef_ok
    unfold wpList
    unfold run at h
    obtain ⟨p, hp, hg⟩ := guard_sat h hM.pc
    have hK := hF.knows ops o
    rcases hg with ⟨h, hg⟩ | ⟨h, hg⟩
    · rw [if_pos (hg G a hK)]
      refine .inl ?_
      have hMp := hM.pcs hp
      have hSp : Stp ρ G M w G { M with pc := p } w := Stp.learn M w p
      split at h
      · -- heavy
        unfold Oper.wp
        split at h
        · -- store
          rename_i t x v hop
          split at h
          · rename_i b ob cs hst
            obtain ⟨hcs, p', h1, hp'⟩ := needs_pc cs h hp
            obtain ⟨w', e1, e2, e3⟩ := store_ok (P := X.P) (w := w) (hM.pcs hp') hst hcs (hF.ev x) (hF.ev v)
            have : (execOp a.eval o).run X.P w = .ok .skip w' := by
              unfold execOp; rw [hop]; exact run_unit e1
            rw [this]
            exact put _ G w' _ undef h1 e2 ((Stp.learn M w p').trans e3) undef_ok
          · exact h.elim
        · -- insert
          rename_i t m key v hop
          split at h
          · rename_i kt el b kk q hu hm hkey
            split at h
            · rename_i k0 es hk hob
              cases hall : es.all (keyNe kk q) with
              | false => rw [hall] at h; exact h.elim
              | true =>
                rw [hall] at h
                simp only [cond_true] at h
                have vm := hF.ev m
                have vk := hF.ev key
                rw [hm] at vm
                rw [hkey] at vk
                obtain ⟨g, hgb, hmv⟩ := vm.map_inv
                obtain ⟨w', e1, e2, e3⟩ := insert_ok (P := X.P) hMp hu hk hob hgb hall (hF.ev v)
                have : (execOp a.eval o).run X.P w = .ok .skip w' := by
                  unfold execOp; rw [hop]; simp only; rw [hmv, vk.int_inv]; exact run_unit e1
                rw [this]
                exact put _ G w' _ undef h e2 (hSp.trans e3) undef_ok
            · exact h.elim
          · exact h.elim
        · -- lookup
          rename_i t m key ok hop
          split at h
          · rename_i kt el b kk e hu hm hkey
            split at h
            · rename_i k0 es z hk hob hz
              cases hall : es.all (keyIs kk) with
              | false => rw [hall] at h; exact h.elim
              | true =>
                rw [hall] at h
                simp only [cond_true] at h
                have vm := hF.ev m
                have vk := hF.ev key
                rw [hm] at vm
                rw [hkey] at vk
                obtain ⟨g, hgb, hmv⟩ := vm.map_inv
                obtain ⟨g', hg', en, clock, hheap, hsz, hvr⟩ := hM.ob _ _ hob
                rw [hgb] at hg'; cases hg'
                obtain ⟨zv, hzr, hzv⟩ := zero_ok (P := X.P) (ρ := ρ) (G := G) hz w
                obtain ⟨p', hp', hfind⟩ := findA_sat (k0 := k0) es en.toList 0 h hp hall (by simpa using hsz) (fun j p m hj hm' => hvr j p m hj (by simpa using hm'))
                have run1 : ∀ res, Instr.findNow (.int k0) (.int kk (e.den ρ).i) en.toList 0 = some res → (execOp a.eval o).run X.P w = .ok (.value (if ok then .tuple #[(res.map (·.2)).getD zv, .bool res.isSome] else (res.map (·.2)).getD zv)) w := fun res hres => by
                  unfold execOp; rw [hop]; simp only; rw [hmv, vk.int_inv]
                  exact lift_ok (lookup_run hu hk hheap hres hzr)
                rcases hfind with ⟨v, j, u, h1, hres, hvu⟩ | ⟨h1, hres⟩
                · rw [run1 _ hres]
                  refine put _ G w _ _ h1 (hM.pcs hp') (Stp.learn M w p') ?_
                  cases ok
                  · exact hvu
                  · exact tup2 hvu (.bool _ _ rfl)
                · rw [run1 _ hres]
                  refine put _ G w _ _ h1 (hM.pcs hp') (Stp.learn M w p') ?_
                  cases ok
                  · exact hzv
                  · exact tup2 hzv (.bool _ _ rfl)
            · exact h.elim
          · exact h.elim
        · -- panic
          rename_i x hop
          split at h
          · rename_i t v hx
            have vx := hF.ev x
            rw [hx] at vx
            obtain ⟨u, hu, huv⟩ := vx.iface_inv
            have : (execOp a.eval o).run X.P w = .halt (.panic (.iface t u)) w := by
              unfold execOp; rw [hop]; simp only; rw [hu]; rfl
            rw [this]
            exact hR _ _ _ ⟨.panic (.iface t v), F, G, _, ⟨_, rfl, .iface _ _ _ huv⟩, hF, hMp, hSp, h⟩ fun _ _ => rfl
          · exact h.elim
        · -- defer
          rename_i f args ats hop
          split at h
          · rename_i fid first cap hfv
            obtain ⟨F2, g1, g2, g3, g4, g5⟩ := put_get h
            have vf := hF.ev f
            rw [hfv] at vf
            obtain ⟨uf, uc, huf, h1, h2⟩ := vf.func_inv
            have : (execOp a.eval o).run X.P w = .ok (.defer { target := .fn (.func fid) uc, args := uf ++ args.map a.eval }) w := by
              unfold execOp; rw [hop]; simp only [resolve, huf, Deferred.ofValue]; rfl
            rw [this]
            have hf2 := hF.putS (v := undefA) (u := undef) (d := o.dst) undef_ok g2 g3 g4 g5
            refine next _ _ G _ w g1 hMp ⟨?_, ?_, ?_⟩ hSp fun d hd => ?_
            · rw [put_size, ← hf2.n, put_size]
            · intro t v ht
              have := hf2.tm t v ht
              rw [put_tmps]; exact this
            · rw [put_defers]
              exact ⟨⟨_, _, _, uf, uc, _, rfl, h1, h2, mapEv (fun x => hF.ev x) args, rfl⟩, by rw [g3]; exact hF.df⟩
            · rw [put_getD hd]
          · exact h.elim
        · -- append
          rename_i args ats hop
          split at h
          · rename_i s x t xt ha ht
            split at h
            · rename_i v M' cs hap
              obtain ⟨hcs, p', h1, hp'⟩ := needs_pc cs h hp
              have ea : args = #[s, x] := by rw [← Array.toArray_toList (xs := args), ha]
              have et : ats = #[t, xt] := by rw [← Array.toArray_toList (xs := ats), ht]
              obtain ⟨z, w', G', e1, e2, e3, e4⟩ := append_ok (P := X.P) (ty := o.type) hMp hap hcs (hF.ev s) (hF.ev x)
              have : (execOp a.eval o).run X.P w = .ok (.value z) w' := by
                unfold execOp; rw [hop]; simp only [resolve, ea, et]
                refine lift_to (s := Builtin.append_ #[t, xt] o.type (Array.map a.eval #[s, x])) ?_
                rw [show Array.map a.eval #[s, x] = #[a.eval s, a.eval x] by simp]
                exact e1
              rw [this]
              exact put _ G' w' _ _ h1 (e2.pcs hp') ((hSp.trans e3).pc _ _) e4
            · exact h.elim
          · exact h.elim
        · -- copy
          rename_i args ats hop
          split at h
          · rename_i s x t xt ha ht
            split at h
            · rename_i v M' cs hap
              obtain ⟨hcs, p', h1, hp'⟩ := needs_pc cs h hp
              have ea : args = #[s, x] := by rw [← Array.toArray_toList (xs := args), ha]
              have et : ats = #[t, xt] := by rw [← Array.toArray_toList (xs := ats), ht]
              obtain ⟨z, w', G', e1, e2, e3, e4⟩ := copy_ok (P := X.P) (xt := xt) (ty := o.type) hMp hap hcs (hF.ev s) (hF.ev x)
              have : (execOp a.eval o).run X.P w = .ok (.value z) w' := by
                unfold execOp; rw [hop]; simp only [resolve, ea, et]
                refine lift_to (s := Builtin.copy_ #[t, xt] o.type (Array.map a.eval #[s, x])) ?_
                rw [show Array.map a.eval #[s, x] = #[a.eval s, a.eval x] by simp]
                exact e1
              rw [this]
              exact put _ G' w' _ _ h1 (e2.pcs hp') ((hSp.trans e3).pc _ _) e4
            · exact h.elim
          · exact h.elim
        · -- a call
          rename_i f args ats hop
          split at h
          · rename_i fid first cap hfv
            have vf := hF.ev f
            rw [hfv] at vf
            obtain ⟨uf, uc, huf, h1, h2⟩ := vf.func_inv
            obtain ⟨⟨fn, hfn, hbody⟩, hcalls⟩ := icall fid first cap _ F _ _ G w uf uc (args.map a.eval) (fun | .returned v, w'' => wpList X.P ops R r (a.put o.dst v) w'' | .panicked chain, w'' => R (.panic chain) a w'' | .outgrown, _ => LetsOut R) h hMp h1 h2 (mapEv (fun x => hF.ev x) args) (fun e w' hc => by
              obtain ⟨G', M', c1, c2, c3⟩ := hc
              cases e with
              | returned u =>
                obtain ⟨v, hv, hs⟩ := c3
                exact put _ G' w' v u hs c1 (hSp.trans c2) hv
              | panicked ch =>
                obtain ⟨v, u, hch, hv, hs⟩ := c3
                exact hR _ _ _ ⟨.panic v, F, G', M', ⟨u, hch, hv⟩, hF.mono c2.gh, c1, hSp.trans c2, hs⟩ fun _ _ => rfl
              | outgrown => exact c3.elim)
            have : (execOp a.eval o).run X.P w = .ok (.enter fid (uf ++ args.map a.eval ++ uc)) w := by
              unfold execOp; rw [hop]; simp only [resolve, huf, Deferred.ofValue, Sem.run_bind, Sem.run_pure, Result.andThen_ok, invoke]
              exact call_run hname hfn hbody _ w
            rw [this, Oper.upon_enter]
            exact hcalls
          · exact h.elim
        · exact h.elim
      · -- light
        obtain ⟨v, ob, p', h1, hp', hlit, _⟩ := light_sat (P := X.P) h hp
        replace hlit := hlit.mono (hpOf_sub o _)
        have hmem : ∀ b o g, hget M.hp b = some o → G b = some g → OR ρ G w g o := fun b o g hb hg => by
          obtain ⟨g', hg', hor⟩ := hM.ob b o hb
          rw [hg] at hg'; cases hg'; exact hor
        have hl := hlit G a w hK.ops hmem
        cases ob with
        | none =>
          obtain ⟨z, hz, hv⟩ := hl
          unfold Oper.wp
          rw [hz]
          exact put _ G w v z h1 (hM.pcs hp') (Stp.learn M w p') hv
        | some ob =>
          obtain ⟨f, hfv, z, obj, sz, hz, hown, hlay⟩ := hl
          unfold Oper.wp
          rw [hz]
          have hno := hM.no
          have hG' : (G.add M.nb ⟨w.heap.size, 0, sz⟩) M.nb = some ⟨w.heap.size, 0, sz⟩ := by simp [Gh.add]
          obtain ⟨l1, l2⟩ := hlay (G.add M.nb ⟨w.heap.size, 0, sz⟩) M.nb (Gh.le_add hno) hG'
          obtain ⟨m1, m2⟩ := hM.new ob ⟨w.heap.size, 0, sz⟩ (Nat.le_refl _) l1 rfl rfl rfl (by show w.heap.size ≤ (w.heap.push obj).size; simp) (alloc_more w obj) hown
          rw [hfv] at h1
          exact put _ _ _ _ z h1 (m1.pcs hp') (m2.pc _ _) l2
    · rw [if_neg (by rw [hg G a hK]; simp)]
      exact skip p hp h
end
end Go.Proofs.Ytbnbljeegghgiaa
