/- Laws whose arguments hold slices of slices: as many as are told, or of which the number alone is told. No program in sight. -/
import Derived.Test.YtolphdchkbcoeaaCut
noncomputable section
namespace Go.Proofs.Ytolphdchkbcoeaa
open Go.RowKit Go.Deep Go.ChangeShapes Go.WideShapes
set_option linter.unusedVariables false
set_option linter.unusedSimpArgs false

/-- A cell of what is handed in: plain, a row, so many rows, rows of which the number alone is told. -/
inductive NI where
  | pl (k : CK) | rows (ks : List CK) | nest (ks : List CK) (n : Nat) | many (ks : List CK)
/-- The same laid flat (a number ahead of rows). -/
def NI.flat : NI → List Cl
  | .pl k => [.pl k]
  | .rows ks => [.rows false ks]
  | .nest ks n => .pl (.int .i64) :: List.replicate n (.rows false ks)
  | .many _ => [.pl (.int .i64)]
def flatN : List NI → List Cl
  | [] => []
  | c :: r => c.flat ++ flatN r
/-- How the values that are handed in and the flat ones belong together. -/
def Link (w : World) : List NI → List Value → List Value → List GI → Prop
  | [], vs, fs, gs => vs = [] ∧ fs = [] ∧ gs = []
  | .pl _ :: r, vs, fs, gs => ∃ v vs' fs' g gs', vs = v :: vs' ∧ fs = v :: fs' ∧ gs = g :: gs' ∧ Link w r vs' fs' gs'
  | .rows _ :: r, vs, fs, gs => ∃ v vs' fs' g gs', vs = v :: vs' ∧ fs = v :: fs' ∧ gs = g :: gs' ∧ Link w r vs' fs' gs'
  | .nest _ n :: r, vs, fs, gs => ∃ (a : Option Addr) (c : Nat) (vs' us fs' : List Value) (u : Value) (g : GI) (gs1 gs' : List GI), vs = .slice a n c :: vs' ∧ fs = u :: (us ++ fs') ∧ gs = g :: (gs1 ++ gs') ∧ us.length = n ∧ gs1.length = n ∧ n ≤ 9223372036854775807 ∧ n ≤ c ∧ (0 < c → a = some ⟨g.blk, g.off, none⟩) ∧ c ≤ g.sz ∧
      (∀ (j : Nat) x, us[j]? = some x → w.cell? ⟨g.blk, g.off + j, none⟩ = some x) ∧ Link w r vs' fs' gs'
  | .many _ :: r, vs, fs, gs => ∃ (a : Option Addr) (n c : Nat) (vs' fs' : List Value) (g : GI) (gs' : List GI), vs = .slice a n c :: vs' ∧ fs = .int .i64 n :: fs' ∧ gs = g :: gs' ∧ n ≤ c ∧ (0 < c → a = some ⟨g.blk, g.off, none⟩) ∧ c ≤ g.sz ∧ Link w r vs' fs' gs'
/-- Their abstract values out of the flat ones, and the blocks of slices. -/
def inN : List NI → Nat → List AV → List AV × List (Nat × Ob)
  | [], _, _ => ([], [])
  | .pl _ :: r, i, as => (match as with | a :: l => (match inN r (i + 1) l with | (bs, os) => (a :: bs, os)) | [] => ([], []))
  | .rows _ :: r, i, as => (match as with | a :: l => (match inN r (i + 1) l with | (bs, os) => (a :: bs, os)) | [] => ([], []))
  | .nest _ n :: r, i, as => (match as with | _ :: l => (match inN r (i + 1 + n) (l.drop n) with | (bs, os) => (.sl i 1 (.int 0) (.int n) none :: bs, (i, .roc (l.take n)) :: os)) | [] => ([], []))
  | .many _ :: r, i, as => (match as with | _ :: l => (match inN r (i + 1) l with | (bs, os) => (.sl i 1 (.int 0) (.var i) none :: bs, os)) | [] => ([], []))
theorem inN_ok {ρ : Env} {G : Gh} {w : World} : ∀ (cs : List NI) (i : Nat) (as : List AV) (vs fs : List Value) (gs : List GI), Link w cs vs fs gs → VRs ρ G as fs.toArray → (∀ (n : Nat) g, gs[n]? = some g → G (i + n) = some g) →
    (∀ (n : Nat) k m, fs[n]? = some (.int k m) → (ρ.v (i + n)).i = m) →
    VRs ρ G (inN cs i as).1 vs.toArray ∧ ∀ b o, hget (inN cs i as).2 b = some o → ∃ g, G b = some g ∧ (∃ l, o = .roc l) ∧ OR ρ G w g o
  | [], i, as, vs, fs, gs, hl, hv, hg, hi => by
    obtain ⟨rfl, rfl, rfl⟩ := hl
    exact ⟨vrs_nil', fun b o hb => by rw [inN, hget_nil] at hb; cases hb⟩
  | .pl k :: r, i, as, vs, fs, gs, hl, hv, hg, hi => by
    obtain ⟨v, vs', fs', g, gs', rfl, rfl, rfl, hl⟩ := hl
    cases as with
    | nil => have := hv.1; simp at this
    | cons a l =>
      obtain ⟨v', fs2, he, h1, h2⟩ := vrs_cons_inv hv
      cases he
      have ih := inN_ok r (i + 1) l vs' fs' gs' hl h2 (fun n g h => by rw [show i + 1 + n = i + (n + 1) by omega]; exact hg (n + 1) g (by simpa using h)) (fun n k m h => by rw [show i + 1 + n = i + (n + 1) by omega]; exact hi (n + 1) k m (by simpa using h))
      exact ⟨vrs_cons h1 ih.1, ih.2⟩
  | .rows k :: r, i, as, vs, fs, gs, hl, hv, hg, hi => by
    obtain ⟨v, vs', fs', g, gs', rfl, rfl, rfl, hl⟩ := hl
    cases as with
    | nil => have := hv.1; simp at this
    | cons a l =>
      obtain ⟨v', fs2, he, h1, h2⟩ := vrs_cons_inv hv
      cases he
      have ih := inN_ok r (i + 1) l vs' fs' gs' hl h2 (fun n g h => by rw [show i + 1 + n = i + (n + 1) by omega]; exact hg (n + 1) g (by simpa using h)) (fun n k m h => by rw [show i + 1 + n = i + (n + 1) by omega]; exact hi (n + 1) k m (by simpa using h))
      exact ⟨vrs_cons h1 ih.1, ih.2⟩
  | .many k :: r, i, as, vs, fs, gs, hl, hv, hg, hi => by
    obtain ⟨a, n, c, vs', fs', g, gs', rfl, rfl, rfl, hnc, had, hsz, hl⟩ := hl
    cases as with
    | nil => have := hv.1; simp at this
    | cons a0 l =>
      obtain ⟨v', fs2, he, h1, h2⟩ := vrs_cons_inv hv
      cases he
      have ih := inN_ok r (i + 1) l vs' fs' gs' hl h2 (fun n g h => by rw [show i + 1 + n = i + (n + 1) by omega]; exact hg (n + 1) g (by simpa using h)) (fun n k m h => by rw [show i + 1 + n = i + (n + 1) by omega]; exact hi (n + 1) k m (by simpa using h))
      refine ⟨vrs_cons ?_ ih.1, ih.2⟩
      refine .sl _ _ _ _ _ g _ _ _ (hg 0 g rfl) (hi 0 _ _ rfl) (Int.le_refl 0) hnc (fun e he => by cases he) (fun hc => by rw [had hc]; simp [SE.den, DV.i]) (by simp [SE.den, DV.i]; exact hsz)
  | .nest ks n :: r, i, as, vs, fs, gs, hl, hv, hg, hi => by
    obtain ⟨a, c, vs', us, fs', u, g, gs1, gs', rfl, rfl, rfl, hul, hgl, _, hnc, had, hsz, hcell, hl⟩ := hl
    cases as with
    | nil => have := hv.1; simp at this
    | cons a0 l =>
      obtain ⟨v', fs2, he, h1, h2⟩ := vrs_cons_inv hv
      cases he
      have t1 := vrs_take n h2
      have t2 := vrs_drop n h2
      rw [List.take_left' hul] at t1
      rw [List.drop_left' hul] at t2
      have hG : ∀ (q : Nat) y, gs'[q]? = some y → G (i + 1 + n + q) = some y := fun q y h => by
        rw [show i + 1 + n + q = i + (n + q + 1) by omega]
        refine hg (n + q + 1) y ?_
        rw [List.getElem?_cons_succ, List.getElem?_append_right (by omega), hgl, show n + q - n = q by omega]
        exact h
      have hI : ∀ (q : Nat) k m, fs'[q]? = some (.int k m) → (ρ.v (i + 1 + n + q)).i = m := fun q k m h => by
        rw [show i + 1 + n + q = i + (n + q + 1) by omega]
        refine hi (n + q + 1) k m ?_
        rw [List.getElem?_cons_succ, List.getElem?_append_right (by omega), hul, show n + q - n = q by omega]
        exact h
      have ih := inN_ok r (i + 1 + n) (l.drop n) vs' fs' gs' hl t2 hG hI
      have hg0 : G i = some g := hg 0 g rfl
      refine ⟨vrs_cons ?_ ih.1, fun b o hb => ?_⟩
      · exact .sl _ _ _ _ _ g _ _ _ hg0 rfl (Int.le_refl 0) hnc (fun e he => by cases he) (fun hc => by rw [had hc]; simp [SE.den, DV.i]) (by simp [SE.den, DV.i]; exact hsz)
      · have hb : hget ((i, Ob.roc (l.take n)) :: (inN r (i + 1 + n) (l.drop n)).2) b = some o := hb
        rw [hget_cons] at hb
        split at hb
        · rename_i e
          cases hb
          subst e
          refine ⟨g, hg0, ⟨_, rfl⟩, fun j x hj => ?_⟩
          have hlt := (List.getElem?_eq_some_iff.1 hj).1
          have hlen : (l.take n).length = n := by have := t1.1; simp at this; simp; omega
          obtain ⟨y, hy⟩ := listGet (l := us) (i := j) (by omega)
          exact ⟨y, hcell j y hy, t1.2 j x y hj (by simpa using hy)⟩
        · exact ih.2 b o hb
theorem inN_roc : ∀ (cs : List NI) (i : Nat) (as : List AV), onlyRo (inN cs i as).2 = true
  | [], i, as => rfl
  | .pl _ :: r, i, as => by
    cases as with
    | nil => rfl
    | cons a l => exact inN_roc r (i + 1) l
  | .rows _ :: r, i, as => by
    cases as with
    | nil => rfl
    | cons a l => exact inN_roc r (i + 1) l
  | .many _ :: r, i, as => by
    cases as with
    | nil => rfl
    | cons a l => exact inN_roc r (i + 1) l
  | .nest _ n :: r, i, as => by
    cases as with
    | nil => rfl
    | cons a l =>
      show onlyRo ((i, Ob.roc (l.take n)) :: (inN r (i + 1 + n) (l.drop n)).2) = true
      simp only [onlyRo, List.all_cons, Ob.own, Bool.not_false, Bool.true_and]
      exact inN_roc r (i + 1 + n) (l.drop n)
theorem hget_app (x y : List (Nat × Ob)) (b : Nat) : hget (x ++ y) b = match hget x b with | some o => some o | none => hget y b := by
  induction x with
  | nil => rw [hget_nil]; rfl
  | cons p r ih =>
    obtain ⟨c, o⟩ := p
    rw [List.cons_append, hget_cons, hget_cons]
    by_cases h : c = b
    · rw [if_pos h, if_pos h]
    · rw [if_neg h, if_neg h, ih]

/-- The groups of what is handed in. -/
inductive NSh where
  | one (c : NI) | agg (cs : List NI)
def NSh.nis : NSh → List NI
  | .one c => [c]
  | .agg cs => cs
def nisOf (shs : List NSh) : List NI := match shs with | [] => [] | s :: r => s.nis ++ nisOf r
def NSh.sh : NSh → Sh
  | .one _ => .one (.pl .bool)
  | .agg cs => .agg (cs.map fun _ => .pl .bool)
def leafB (l : Lf) : T :=
  match l with
  | .val (.bool e) _ => .ret (.nxt [e])
  | _ => .fail 94
/-- The tree of a law. -/
def callN (L : List Mo) (X : Cx) (n : Nat) (f : FuncId) (shs : List NSh) (fs : List LF) : T :=
  match inX (flatN (nisOf shs)) 0 with
  | (as, hs) => match inN (nisOf shs) 0 as with
    | (bs, os) => runM L n X (.call (.func (.func f) [] []) (packA (shs.map NSh.sh) bs)) ⟨.lf, 0, []⟩ ⟨os ++ hs, (flatN (nisOf shs)).length, (flatN (nisOf shs)).length, ⟨[], fs⟩⟩ leafB
def treeOkN (L : List Mo) (X : Cx) (n : Nat) (f : FuncId) (shs : List NSh) (fs : List LF) (t : PT) : Bool := (callN L X n f shs fs).chk (flatN (nisOf shs)).length t
/-- A law whose tree says so returns true, and leaves all that was there. -/
theorem law_nest {L : List Mo} {X : Cx} {φ : Fs} (hL : ∀ o ∈ L, MoOk X o) (hnp : φ.np = X.P.funcs.size) (hmix : X.P.follows .mixedOrders = true) (hS : SmyOk X.E X.P φ X.S) (hname : namesOk X.P = true) {n : Nat} {f : FuncId} {shs : List NSh} {fs : List LF} {t : PT}
    (hsc : treeOkN L X n f shs fs t = true) (hfs : (fs.all fun f => LF.sc (flatN (nisOf shs)).length f) = true) {ds : List DV}
    (main : Facts (envL φ (nrmL (flatN (nisOf shs)) ds)) fs ∧ Sat φ t (fun es => nrmL [.pl .bool] es = nrmL [.pl .bool] [.bool true]) (nrmL (flatN (nisOf shs)) ds))
    {w : World} {va vs us : List Value} {gs : List GI} (hgrp : Grp (shs.map NSh.sh) va vs) (hlk : Link w (nisOf shs) vs us gs) (hrd : Reads w (flatN (nisOf shs)) us ds gs) :
    Calls X.P f va.toArray w fun e w' => e = .returned (.bool true) ∧ Below w.heap.size w w' := by
  obtain ⟨hfacts0, hsat0⟩ := main
  have hsat := sat_E _ _ _ hsat0
  obtain ⟨lv, ld, lg⟩ := reads_len hrd
  have hrd' := reads_nrm hrd
  obtain ⟨_, ldn, _⟩ := reads_len hrd'
  let ρ0 : Env := envL φ (nrmL (flatN (nisOf shs)) ds)
  obtain ⟨ρ, hA, hsat⟩ := chk_sat _ _ _ ρ0 _ hsc hsat
  have hρ : ∀ (i : Nat) d, (nrmL (flatN (nisOf shs)) ds)[i]? = some d → ρ.v i = d := fun i d h => by
    have hi := (List.getElem?_eq_some_iff.1 h).1
    rw [hA.1 i (by omega)]
    show ((nrmL (flatN (nisOf shs)) ds)[i]?).getD (.int 0) = d
    rw [h]; rfl
  have hφ : ρ.f = φ := hA.2
  have hfacts : Facts ρ fs := fun f hf => by
    have := hfacts0 f hf
    unfold LF.val at this ⊢
    rw [sumT_sc hA _ (List.all_eq_true.1 hfs f hf)]
    exact this
  let G : Gh := fun b => gs[b]?
  obtain ⟨hvs, hob⟩ := inX_ok (ρ := ρ) (G := G) (flatN (nisOf shs)) 0 us (nrmL (flatN (nisOf shs)) ds) gs hrd' (fun n d h => by rw [Nat.zero_add]; exact hρ n d h) (fun n g h => by rw [Nat.zero_add]; exact h)
  have hint : ∀ (n : Nat) k m, us[n]? = some (.int k m) → (ρ.v (0 + n)).i = m := fun n k m h => by
    rw [Nat.zero_add]
    have hn := (List.getElem?_eq_some_iff.1 h).1
    obtain ⟨c, hc⟩ := listGet (l := flatN (nisOf shs)) (i := n) (by omega)
    obtain ⟨d, hd⟩ := listGet (l := nrmL (flatN (nisOf shs)) ds) (i := n) (by omega)
    obtain ⟨g, hg⟩ := listGet (l := gs) (i := n) (by omega)
    have := reads_at hrd' n c _ d g hc h hd hg
    rw [hρ n d hd]
    cases c with
    | pl ck =>
      have this : Value.int k m = ck.val d := this
      cases ck with
      | int k' => cases this; rfl
      | bool => cases this
      | str => cases this
    | rows o ks => obtain ⟨_, _, ad, q, cp, he, _⟩ := this; cases he
  obtain ⟨hvs2, hob2⟩ := inN_ok (ρ := ρ) (G := G) (nisOf shs) 0 _ vs us gs hlk hvs (fun n g h => by rw [Nat.zero_add]; exact h) hint
  have hro : onlyRo ((inN (nisOf shs) 0 (inX (flatN (nisOf shs)) 0).1).2 ++ (inX (flatN (nisOf shs)) 0).2) = true := by
    have h1 := inN_roc (nisOf shs) 0 (inX (flatN (nisOf shs)) 0).1
    have h2 := inX_ro (flatN (nisOf shs)) 0
    unfold onlyRo at h1 h2 ⊢
    rw [List.all_append, h1, h2]; rfl
  have hM : MR ρ G ⟨(inN (nisOf shs) 0 (inX (flatN (nisOf shs)) 0).1).2 ++ (inX (flatN (nisOf shs)) 0).2, (flatN (nisOf shs)).length, (flatN (nisOf shs)).length, ⟨[], fs⟩⟩ w := start_ok hfacts (fun b g hb => by have := (List.getElem?_eq_some_iff.1 hb).1; omega) (fun b o hb => by
    rw [hget_app] at hb
    split at hb
    · rename_i o' ho
      cases hb
      obtain ⟨g, h1, _, h2⟩ := hob2 b _ ho
      exact ⟨g, h1, h2⟩
    · obtain ⟨n, own, ks, d, g, _, _, _, _, h5, _, h7⟩ := hob b o hb
      exact ⟨g, h5, h7⟩) hro
  have hva := pack_ok (shs.map NSh.sh) _ va vs hgrp hvs2
  unfold callN at hsat
  rw [runM_eq hL] at hsat
  refine callsIn_down (call_soundX (X := X) (by rw [hφ]; exact hnp) hmix (by rw [hφ]; exact hS) (namesOk_ok hname) hsat hM hva fun e w' hr => ?_).2
  obtain ⟨G', M', h1, h2, h3⟩ := hr
  have hbel : Below w.heap.size w w' := ⟨h2.os, h2.tape, h2.output, h2.size, fun k hk => h2.keep k hk fun ⟨b, o, g, q1, q2, _⟩ => by rw [onlyRo_ok hro b o q1] at q2; cases q2⟩
  cases e with
  | outgrown => exact h3.elim
  | panicked ch => obtain ⟨v, u, _, _, hk⟩ := h3; exact hk.elim
  | returned u =>
    obtain ⟨v, hv, hk⟩ := h3
    refine ⟨?_, hbel⟩
    unfold leafB at hk
    split at hk
    · rename_i e M2 heq
      cases heq
      obtain ⟨es, he, hK⟩ := hk
      cases he
      have hK : [DV.bool (e.den ρ).b] = [DV.bool true] := hK
      rw [hv.bool_inv]
      simp only [List.cons.injEq, and_true, DV.bool.injEq] at hK
      rw [hK]
    · exact hk.elim

/-! What is handed in, read so. -/
def clsN : List Cl → Option (List NI)
  | [] => some []
  | .pl k :: r => (match clsN r with | some l => some (.pl k :: l) | none => none)
  | .rows false ks :: r => (match clsN r with | some l => some (.rows ks :: l) | none => none)
  | _ => none
def plainT (P : Program) (t : TypeId) : Option (List NI) := match flatT P 20 t with | some cs => clsN cs | none => none
/-- A slice of slices; anything else that is no struct. -/
def flat1 (P : Program) (t : TypeId) : Option (List NI) :=
  match P.underlying t with
  | some (.slice e) => (match P.underlying e with
    | some (.slice _) => (match flatT P 20 e with
      | some [.rows false ks] => bif Nat.beq (P.cellsOf e) 1 then some [.nest ks 0] else none
      | _ => none)
    | _ => plainT P t)
  | _ => plainT P t
def flatFN (P : Program) : List Field → Nat → Option (List NI)
  | [], _ => some []
  | f :: r, o => bif Nat.beq f.offset o then
      (match flat1 P f.type with
      | some cs => bif Nat.beq cs.length (P.cellsOf f.type) then (match flatFN P r (o + cs.length) with | some l => some (cs ++ l) | none => none) else none
      | none => none) else none
def shN (P : Program) (t : TypeId) : Option NSh :=
  match P.underlying t with
  | some (.struct fs) => (match flatFN P fs.toList 0 with | some cs => bif Nat.beq cs.length (P.cellsOf t) then some (.agg cs) else none | none => none)
  | some (.array _ _) => none
  | _ => (match flat1 P t with | some [c] => some (.one c) | _ => none)
def shsN (P : Program) : List TypeId → Option (List NSh)
  | [] => some []
  | t :: r => (match shN P t, shsN P r with | some s, some l => some (s :: l) | _, _ => none)
/-- The same, whatever the numbers of rows. -/
def Fits : List NI → List NI → Prop
  | [], [] => True
  | .pl k :: r, .pl k' :: s => k = k' ∧ Fits r s
  | .rows k :: r, .rows k' :: s => k = k' ∧ Fits r s
  | .nest k _ :: r, .nest k' _ :: s => k = k' ∧ Fits r s
  | _, _ => False
def FitsS : List NSh → List NSh → Prop
  | [], [] => True
  | .one c :: r, .one c' :: s => Fits [c] [c'] ∧ FitsS r s
  | .agg c :: r, .agg c' :: s => Fits c c' ∧ FitsS r s
  | _, _ => False
section
variable {H : Type} {enc : TypeId × Value → H} {P : Program} {w : World} {base : Nat} {held : Bool}
theorem fits_refl : ∀ {cs : List Cl} {ns : List NI}, clsN cs = some ns → Fits ns ns ∧ flatN ns = cs ∧ ∀ {vs : List Value} {ds : List DV} {gs : List GI}, Reads w cs vs ds gs → Link w ns vs vs gs
  | [], ns, h => by cases h; exact ⟨trivial, rfl, fun h => ⟨h.1, h.1, h.2.2⟩⟩
  | .pl k :: r, ns, h => by
    unfold clsN at h
    split at h
    · rename_i l hl
      cases h
      obtain ⟨h1, h2, h3⟩ := fits_refl hl
      refine ⟨⟨rfl, h1⟩, by show Cl.pl k :: flatN l = _; rw [h2], fun hr => ?_⟩
      obtain ⟨v, vs', d, ds', g, gs', rfl, rfl, rfl, _, h⟩ := hr
      exact ⟨v, vs', vs', g, gs', rfl, rfl, rfl, h3 h⟩
    · cases h
  | .rows false ks :: r, ns, h => by
    unfold clsN at h
    split at h
    · rename_i l hl
      cases h
      obtain ⟨h1, h2, h3⟩ := fits_refl hl
      refine ⟨⟨rfl, h1⟩, by show Cl.rows false ks :: flatN l = _; rw [h2], fun hr => ?_⟩
      obtain ⟨v, vs', d, ds', g, gs', rfl, rfl, rfl, _, h⟩ := hr
      exact ⟨v, vs', vs', g, gs', rfl, rfl, rfl, h3 h⟩
    · cases h
  | .rows true ks :: r, ns, h => by cases h
theorem clsN_len : ∀ {cs : List Cl} {ns : List NI}, clsN cs = some ns → ns.length = cs.length
  | [], ns, h => by cases h; rfl
  | .pl k :: r, ns, h => by
    unfold clsN at h
    split at h
    · rename_i l hl; cases h; simp [clsN_len hl]
    · cases h
  | .rows false ks :: r, ns, h => by
    unfold clsN at h
    split at h
    · rename_i l hl; cases h; simp [clsN_len hl]
    · cases h
  | .rows true ks :: r, ns, h => by cases h
theorem flatN_app (a b : List NI) : flatN (a ++ b) = flatN a ++ flatN b := by
  induction a with
  | nil => rfl
  | cons x r ih => simp only [List.cons_append, flatN, ih, List.append_assoc]
theorem fits_app : ∀ {a b c d : List NI}, Fits a b → Fits c d → Fits (a ++ c) (b ++ d)
  | [], [], c, d, h, k => k
  | [], _ :: _, c, d, h, k => h.elim
  | x :: r, [], c, d, h, k => by cases x <;> exact h.elim
  | x :: r, y :: s, c, d, h, k => by
    cases x <;> cases y <;> first | exact h.elim | exact ⟨h.1, fits_app h.2 k⟩
theorem link_app : ∀ {a b : List NI} {vs us vs' us' : List Value} {gs gs' : List GI}, Link w a vs us gs → Link w b vs' us' gs' → Link w (a ++ b) (vs ++ vs') (us ++ us') (gs ++ gs')
  | [], b, vs, us, vs', us', gs, gs', h, k => by obtain ⟨rfl, rfl, rfl⟩ := h; exact k
  | .pl _ :: r, b, vs, us, vs', us', gs, gs', h, k => by
    obtain ⟨v, v', f', g, g', rfl, rfl, rfl, h⟩ := h
    exact ⟨v, _, _, g, _, rfl, rfl, rfl, link_app h k⟩
  | .rows _ :: r, b, vs, us, vs', us', gs, gs', h, k => by
    obtain ⟨v, v', f', g, g', rfl, rfl, rfl, h⟩ := h
    exact ⟨v, _, _, g, _, rfl, rfl, rfl, link_app h k⟩
  | .many _ :: r, b, vs, us, vs', us', gs, gs', h, k => by
    obtain ⟨x, n, c, v', f', g, g', rfl, rfl, rfl, h1, h2, h3, h⟩ := h
    exact ⟨x, n, c, _, _, g, _, rfl, rfl, rfl, h1, h2, h3, link_app h k⟩
  | .nest _ n :: r, b, vs, us, vs', us', gs, gs', h, k => by
    obtain ⟨x, c, v', u1, f', u, g, g1, g', rfl, rfl, rfl, h1, h2, h3, h4, h5, h6, h7, h⟩ := h
    exact ⟨x, c, _, u1, _, u, g, g1, _, rfl, by simp, by simp, h1, h2, h3, h4, h5, h6, h7, link_app h k⟩
theorem open_plain {t : TypeId} {ns : List NI} (h : plainT P t = some ns) {fuel : Nat} {vs : List Value} {x : DataW H × List MemPlace} (hx : DataW.trod enc P w base (fun _ => true) held fuel t vs = some x) :
    ∃ cs us ds gs, Fits cs ns ∧ Link w cs vs us gs ∧ Reads w (flatN cs) us ds gs ∧ Wts (flatN cs) ds := by
  unfold plainT at h
  split at h
  · rename_i cs hcs
    obtain ⟨ds, gs, h1, h2⟩ := open_flat 20 t cs hcs fuel vs x hx
    obtain ⟨k1, k2, k3⟩ := fits_refl (w := w) h
    exact ⟨ns, vs, ds, gs, k1, k3 h1, by rw [k2]; exact h1, by rw [k2]; exact h2⟩
  · cases h
theorem open_nest {t : TypeId} {ns : List NI} (h : flat1 P t = some ns) {fuel : Nat} {vs : List Value} {x : DataW H × List MemPlace} (hx : DataW.trod enc P w base (fun _ => true) held fuel t vs = some x) :
    ∃ cs us ds gs, Fits cs ns ∧ Link w cs vs us gs ∧ Reads w (flatN cs) us ds gs ∧ Wts (flatN cs) ds := by
  unfold flat1 at h
  split at h
  · rename_i e hu
    split at h
    · split at h
      · rename_i ks hks
        cases hc : Nat.beq (P.cellsOf e) 1 with
        | false => rw [hc] at h; cases h
        | true =>
          rw [hc] at h
          cases h
          have hc := (beq_iff _ _).1 hc
          rcases open_slice1 hu hc hx with ⟨rfl, _⟩ | ⟨a, len, cap, m, n, V, D, Pl, rfl, _, hl, hm, hmm, _, hel⟩
          · exact ⟨[.nest ks 0], [.int .i64 0], [.int 0], [⟨0, 0, 0, default⟩], ⟨rfl, trivial⟩, ⟨none, 0, [], [], [], _, _, [], [], rfl, rfl, rfl, rfl, rfl, Nat.zero_le _, Nat.le_refl _, fun h => absurd h (by omega), Nat.le_refl _, fun j x hj => by simp at hj, rfl, rfl, rfl⟩,
              ⟨_, _, _, _, _, _, rfl, rfl, rfl, rfl, rfl, rfl, rfl⟩, _, _, rfl, ⟨0, rfl, by decide, by decide⟩, rfl⟩
          · have hcap : m = cap := by rw [hmm]; rfl
            have hml : maxLen = 9223372036854775807 := rfl
            have hspot : 0 < cap → a.spot = none := fun hpos => by
              have h1 := (hel 0 (by omega)).1
              have e0 : a.add 0 = a := by simp [Addr.add]
              rw [e0] at h1
              unfold World.cell? at h1
              split at h1
              · split at h1
                · cases h1
                · rename_i hsp; simpa using hsp
              · cases h1
            have key : ∀ (d i : Nat), i + d = len → ∃ us ds gs, us.length = d ∧ gs.length = d ∧ (∀ (j : Nat) x, us[j]? = some x → x = V (i + j) ∧ j < d) ∧ Reads w (List.replicate d (.rows false ks)) us ds gs ∧ Wts (List.replicate d (.rows false ks)) ds := by
              intro d
              induction d with
              | zero => intro i hi; exact ⟨[], [], [], rfl, rfl, fun j x hj => by simp at hj, ⟨rfl, rfl, rfl⟩, rfl⟩
              | succ d ih =>
                intro i hi
                obtain ⟨us, ds, gs, h1, h2, h3, h4, h5⟩ := ih (i + 1) (by omega)
                obtain ⟨ds1, gs1, k1, k2⟩ := open_flat 20 e _ hks n [V i] _ (hel i (by omega)).2
                obtain ⟨v, vs', d1, ds1', g1, gs1', e1, rfl, rfl, k3, k4⟩ := k1
                cases e1
                obtain ⟨_, rfl, rfl⟩ := k4
                obtain ⟨d2, ds2, e2, k5, k6⟩ := k2
                cases e2
                refine ⟨V i :: us, d1 :: ds, g1 :: gs, by simp [h1], by simp [h2], fun j x hj => ?_, ⟨_, _, _, _, _, _, rfl, rfl, rfl, k3, h4⟩, _, _, rfl, k5, h5⟩
                cases j with
                | zero => simp at hj; subst hj; exact ⟨rfl, by omega⟩
                | succ j =>
                  obtain ⟨q1, q2⟩ := h3 j x (by simpa using hj)
                  exact ⟨by rw [q1, show i + 1 + j = i + (j + 1) by omega], by omega⟩
            obtain ⟨us, ds, gs, h1, h2, h3, h4, h5⟩ := key len 0 (by omega)
            refine ⟨[.nest ks len], .int .i64 len :: (us ++ []), .int len :: ds, ⟨a.block, a.off, cap, default⟩ :: (gs ++ []), ⟨rfl, trivial⟩, ⟨some a, cap, [], us, [], _, _, gs, [], rfl, rfl, rfl, h1, h2, by omega, hl, fun hpos => ?_, Nat.le_refl _, fun j x hj => ?_, rfl, rfl, rfl⟩, ?_, ?_⟩
            · have hs := hspot hpos
              obtain ⟨b, o, s⟩ := a
              simp only at hs
              subst hs
              rfl
            · obtain ⟨q1, q2⟩ := h3 j x hj
              have h6 := (hel j (by omega)).1
              have hs := hspot (by omega)
              obtain ⟨b, o, s⟩ := a
              simp only at hs
              subst hs
              rw [q1, Nat.zero_add, ← h6, addr_add]
            · simp only [flatN, NI.flat, List.append_nil]
              exact ⟨_, _, _, _, _, _, rfl, rfl, rfl, rfl, h4⟩
            · simp only [flatN, NI.flat, List.append_nil]
              refine ⟨_, _, rfl, ⟨len, rfl, ?_, ?_⟩, h5⟩
              · have : IntKind.min .i64 = -9223372036854775808 := by decide
                omega
              · have : IntKind.max .i64 = 9223372036854775807 := by decide
                omega
      · cases h
    · exact open_plain h hx
  · exact open_plain h hx
theorem link_len : ∀ {cs : List NI} {vs us : List Value} {gs : List GI}, Link w cs vs us gs → vs.length = cs.length
  | [], vs, us, gs, h => by rw [h.1]; rfl
  | .pl _ :: r, vs, us, gs, h => by
    obtain ⟨v, v', f', g, g', rfl, rfl, rfl, h⟩ := h
    simp [link_len h]
  | .rows _ :: r, vs, us, gs, h => by
    obtain ⟨v, v', f', g, g', rfl, rfl, rfl, h⟩ := h
    simp [link_len h]
  | .many _ :: r, vs, us, gs, h => by
    obtain ⟨x, n, c, v', f', g, g', rfl, rfl, rfl, h1, h2, h3, h⟩ := h
    simp [link_len h]
  | .nest _ n :: r, vs, us, gs, h => by
    obtain ⟨x, c, v', u1, f', u, g, g1, g', rfl, rfl, rfl, h1, h2, h3, h4, h5, h6, h7, h⟩ := h
    simp [link_len h]
theorem fits_len : ∀ {a b : List NI}, Fits a b → a.length = b.length
  | [], [], _ => rfl
  | [], _ :: _, h => h.elim
  | x :: r, [], h => by cases x <;> exact h.elim
  | x :: r, y :: s, h => by
    cases x <;> cases y <;> first | exact h.elim | simp [fits_len h.2]
theorem open_strN {t : TypeId} {fs : Array Field} {cs : List NI} (hu : P.underlying t = some (.struct fs)) (hcs : flatFN P fs.toList 0 = some cs) (hlen : cs.length = P.cellsOf t) {fuel : Nat} {vs : List Value} {x : DataW H × List MemPlace}
    (hx : DataW.trod enc P w base (fun _ => true) held fuel t vs = some x) : ∃ ns us ds gs, Fits ns cs ∧ Link w ns vs us gs ∧ Reads w (flatN ns) us ds gs ∧ Wts (flatN ns) ds := by
  obtain ⟨xs, n, _, _, hvl, hxl, hf⟩ := DataW.trod_struct hu hx
  have key : ∀ (r : List Field) (o : Nat) (ccs : List NI), flatFN P r o = some ccs → (∀ fl ∈ r, ∃ y, DataW.trod enc P w base (fun _ => true) held n fl.type ((vs.drop fl.offset).take (P.cellsOf fl.type)) = some y) → o + ccs.length = vs.length →
      ∃ ns us ds gs, Fits ns ccs ∧ Link w ns (vs.drop o) us gs ∧ Reads w (flatN ns) us ds gs ∧ Wts (flatN ns) ds := by
    intro r
    induction r with
    | nil =>
      intro o ccs h _ hl
      unfold flatFN at h
      cases h
      refine ⟨[], [], [], [], trivial, ⟨?_, rfl, rfl⟩, ⟨rfl, rfl, rfl⟩, rfl⟩
      rw [List.drop_eq_nil_iff]
      simp at hl
      omega
    | cons fl r ih =>
      intro o ccs h hall hl
      unfold flatFN at h
      cases ho : Nat.beq fl.offset o with
      | false => rw [ho] at h; cases h
      | true =>
        rw [ho] at h
        simp only [cond_true] at h
        have ho := (beq_iff _ _).1 ho
        split at h
        · rename_i fcs hfcs
          cases hfl : Nat.beq fcs.length (P.cellsOf fl.type) with
          | false => rw [hfl] at h; cases h
          | true =>
            rw [hfl] at h
            simp only [cond_true] at h
            have hfl := (beq_iff _ _).1 hfl
            split at h
            · rename_i l hl2
              cases h
              obtain ⟨y, hy⟩ := hall fl (List.mem_cons_self ..)
              obtain ⟨n1, us1, ds1, gs1, h1, h2, h3, h4⟩ := open_nest hfcs hy
              rw [List.length_append] at hl
              obtain ⟨n2, us2, ds2, gs2, k1, k2, k3, k4⟩ := ih (o + fcs.length) l hl2 (fun fl2 h => hall fl2 (List.mem_cons_of_mem _ h)) (by omega)
              refine ⟨n1 ++ n2, us1 ++ us2, ds1 ++ ds2, gs1 ++ gs2, fits_app h1 k1, ?_, by rw [flatN_app]; exact reads_app h3 k3, by rw [flatN_app]; exact wts_app h4 k4⟩
              have := link_app h2 k2
              rw [ho, ← hfl, ← List.drop_drop, List.take_append_drop] at this
              exact this
            · cases h
        · cases h
  have := key fs.toList 0 cs hcs (fun fl hm => by
    obtain ⟨i, hi⟩ := List.getElem?_of_mem hm
    have hi' : fs[i]? = some fl := by rw [← hi]; simp
    have := hf i fl hi'
    have hil := (Array.getElem?_eq_some_iff.1 hi').1
    rw [List.getElem?_eq_getElem (by omega)] at this
    exact ⟨_, this⟩) (by omega)
  simpa using this
theorem one_cells {t : TypeId} {v : Value} {c : NI} (hn : ∀ fs, P.underlying t ≠ some (.struct fs)) (hn2 : ∀ n e, P.underlying t ≠ some (.array n e)) (hf : flat1 P t = some [c]) {r : Go.Reach} {b0 : Nat} (hv : Value.okWide P w r b0 t v) : v.cells.toList = [v] := by
  have plain : plainT P t = some [c] → v.cells.toList = [v] := fun h => by
    unfold plainT at h
    split at h
    · rename_i cs hcs
      have : ∃ c0, cs = [c0] := by
        have := clsN_len h
        match cs, this with
        | [c0], _ => exact ⟨c0, rfl⟩
      obtain ⟨c0, rfl⟩ := this
      exact wide_cells (w := w) (ds := []) (gs := []) hn hn2 hcs hv
    · cases h
  unfold flat1 at hf
  split at hf
  · rename_i e hu
    obtain ⟨a, len, cap, rfl⟩ := okWide_slice hu hv
    rfl
  · exact plain hf
theorem open_argsN : ∀ (ts : List TypeId) (vs : List Value) (ds : List (DataW H)) (ps : List MemPlace) (shs : List NSh), shsN P ts = some shs → DataW.TrodAll enc P w 0 (fun _ => true) held ts vs ds ps → (∀ (j : Nat) t v, ts[j]? = some t → vs[j]? = some v → Value.okWide P w .any base t v) →
    ∃ ns fl us dd gs, FitsS ns shs ∧ Grp (ns.map NSh.sh) vs fl ∧ Link w (nisOf ns) fl us gs ∧ Reads w (flatN (nisOf ns)) us dd gs ∧ Wts (flatN (nisOf ns)) dd
  | [], vs, ds, ps, shs, h, ht, hv => by
    cases h
    cases vs with
    | nil => exact ⟨[], [], [], [], [], trivial, ⟨rfl, rfl⟩, ⟨rfl, rfl, rfl⟩, ⟨rfl, rfl, rfl⟩, rfl⟩
    | cons v vs => exact ht.elim
  | t :: ts, vs, ds, ps, shs, h, ht, hv => by
    cases vs with
    | nil => exact ht.elim
    | cons v vs =>
      cases ds with
      | nil => exact ht.elim
      | cons d ds =>
        obtain ⟨p, q, ⟨fuel, h1⟩, h2, _⟩ := ht
        unfold shsN at h
        split at h
        · rename_i s l hs hl
          cases h
          obtain ⟨ns, fl, us, dd, gs, k0, k1, k2, k3, k4⟩ := open_argsN ts vs ds q l hl h2 fun j t v a b => hv (j + 1) t v (by simpa using a) (by simpa using b)
          have hv0 := hv 0 t v rfl rfl
          unfold shN at hs
          split at hs
          · rename_i fs hu
            split at hs
            · rename_i cs hcs
              cases hb : Nat.beq cs.length (P.cellsOf t) with
              | false => rw [hb] at hs; cases hs
              | true =>
                rw [hb] at hs
                cases hs
                obtain ⟨us0, rfl, hus⟩ := okWide_struct hu hv0
                obtain ⟨n1, us1, ds1, gs1, j1, j2, j3, j4⟩ := open_strN hu hcs ((beq_iff _ _).1 hb) h1
                have hl1 : us0.toList.length = n1.length := link_len j2
                refine ⟨.agg n1 :: ns, us0.toList ++ fl, us1 ++ us, ds1 ++ dd, gs1 ++ gs, ⟨j1, k0⟩, ⟨us0, vs, fl, rfl, by simpa using hl1, rfl, k1⟩, link_app j2 k2, ?_, ?_⟩
                · show Reads w (flatN (n1 ++ nisOf ns)) _ _ _
                  rw [flatN_app]; exact reads_app j3 k3
                · show Wts (flatN (n1 ++ nisOf ns)) _
                  rw [flatN_app]; exact wts_app j4 k4
            · cases hs
          · cases hs
          · rename_i hn1 hn2
            split at hs
            · rename_i c hc
              cases hs
              obtain ⟨n1, us1, ds1, gs1, j1, j2, j3, j4⟩ := open_nest hc h1
              rw [one_cells (w := w) (fun fs h => hn1 fs h) (fun n e h => hn2 n e h) hc hv0] at j2
              have hl1 := fits_len j1
              match n1, hl1, j1, j2, j3, j4 with
              | [c'], _, j1, j2, j3, j4 =>
                refine ⟨.one c' :: ns, v :: fl, us1 ++ us, ds1 ++ dd, gs1 ++ gs, ⟨j1, k0⟩, ⟨v, vs, fl, rfl, rfl, k1⟩, link_app j2 k2, ?_, ?_⟩
                · show Reads w (flatN ([c'] ++ nisOf ns)) _ _ _
                  rw [flatN_app]; exact reads_app j3 k3
                · show Wts (flatN ([c'] ++ nisOf ns)) _
                  rw [flatN_app]; exact wts_app j4 k4
            · cases hs
        · cases h
/-- A law that returns true, whatever the numbers of rows. -/
theorem law_ofN {f : FuncId} {shs : List NSh} {R : Ending → World → Prop} (main : ∀ ns, FitsS ns shs → ∀ (va vs us : List Value) (ds : List DV) (gs : List GI), Grp (ns.map NSh.sh) va vs → Link w (nisOf ns) vs us gs → Reads w (flatN (nisOf ns)) us ds gs → Wts (flatN (nisOf ns)) ds → Calls P f va.toArray w R)
    {ts : List TypeId} {vs : List Value} {ds : List (DataW H)} {ps : List MemPlace} (hs : shsN P ts = some shs) (ht : DataW.TrodAll enc P w 0 (fun _ => true) held ts vs ds ps) (hv : ∀ (j : Nat) t v, ts[j]? = some t → vs[j]? = some v → Value.okWide P w .any base t v) : Calls P f vs.toArray w R := by
  obtain ⟨ns, fl, us, dd, gs, h0, h1, h2, h3, h4⟩ := open_argsN ts vs ds ps shs hs ht hv
  exact main ns h0 vs fl us dd gs h1 h2 h3 h4
end
/-- Rows of which the number alone is told. -/
def toMany : List NI → List NI
  | [] => []
  | .nest ks _ :: r => .many ks :: toMany r
  | c :: r => c :: toMany r
/-- Those numbers. -/
def Nums (Q : Int → Prop) : List NI → List DV → Prop
  | [], _ => True
  | .many _ :: r, ds => (∃ d l, ds = d :: l ∧ Q d.i ∧ Nums Q r l)
  | .nest _ n :: r, ds => Nums Q r (ds.drop (n + 1))
  | _ :: r, ds => Nums Q r (ds.drop 1)
theorem reads_split {w : World} {cs1 : List Cl} : ∀ {cs2 : List Cl} {vs : List Value} {ds : List DV} {gs : List GI}, Reads w (cs1 ++ cs2) vs ds gs → ∃ v1 v2 d1 d2 g1 g2, vs = v1 ++ v2 ∧ ds = d1 ++ d2 ∧ gs = g1 ++ g2 ∧ Reads w cs1 v1 d1 g1 ∧ Reads w cs2 v2 d2 g2 := by
  induction cs1 with
  | nil => intro cs2 vs ds gs h; exact ⟨[], vs, [], ds, [], gs, rfl, rfl, rfl, ⟨rfl, rfl, rfl⟩, h⟩
  | cons c r ih =>
    intro cs2 vs ds gs h
    obtain ⟨v, vs', d, ds', g, gs', rfl, rfl, rfl, h1, h2⟩ := h
    obtain ⟨v1, v2, d1, d2, g1, g2, rfl, rfl, rfl, k1, k2⟩ := ih h2
    exact ⟨v :: v1, v2, d :: d1, d2, g :: g1, g2, rfl, rfl, rfl, ⟨v, v1, d, d1, g, g1, rfl, rfl, rfl, h1, k1⟩, k2⟩
theorem wts_split {cs1 : List Cl} : ∀ {cs2 : List Cl} {d1 d2 : List DV}, d1.length = cs1.length → Wts (cs1 ++ cs2) (d1 ++ d2) → Wts cs1 d1 ∧ Wts cs2 d2 := by
  induction cs1 with
  | nil => intro cs2 d1 d2 hl h; have := List.eq_nil_of_length_eq_zero hl; subst this; exact ⟨rfl, h⟩
  | cons c r ih =>
    intro cs2 d1 d2 hl h
    cases d1 with
    | nil => simp at hl
    | cons d d1 =>
      obtain ⟨d', ds', he, h1, h2⟩ := h
      cases he
      obtain ⟨k1, k2⟩ := ih (by simpa using hl) h2
      exact ⟨⟨d, d1, rfl, h1, k1⟩, k2⟩
theorem to_many {w : World} {Q : Int → Prop} : ∀ {cs : List NI} {vs us : List Value} {ds : List DV} {gs : List GI}, (∀ ks n, NI.nest ks n ∈ cs → Q n) → (∀ ks, NI.many ks ∉ cs) → Link w cs vs us gs → Reads w (flatN cs) us ds gs → Wts (flatN cs) ds →
    ∃ us' ds' gs', Link w (toMany cs) vs us' gs' ∧ Reads w (flatN (toMany cs)) us' ds' gs' ∧ Wts (flatN (toMany cs)) ds' ∧ Nums Q (toMany cs) ds'
  | [], vs, us, ds, gs, hq, hm, hl, hr, hw => ⟨us, ds, gs, hl, hr, hw, trivial⟩
  | .pl k :: r, vs, us, ds, gs, hq, hm, hl, hr, hw => by
    obtain ⟨v, v', f', g, g', rfl, rfl, rfl, hl⟩ := hl
    obtain ⟨_, _, d, ds', _, _, e1, rfl, e2, h1, h2⟩ := hr
    cases e1; cases e2
    obtain ⟨_, _, e3, h3, h4⟩ := hw
    cases e3
    obtain ⟨u2, d2, g2, k1, k2, k3, k4⟩ := to_many (fun ks n h => hq ks n (List.mem_cons_of_mem _ h)) (fun ks h => hm ks (List.mem_cons_of_mem _ h)) hl h2 h4
    exact ⟨v :: u2, d :: d2, g :: g2, ⟨v, _, _, g, _, rfl, rfl, rfl, k1⟩, ⟨_, _, _, _, _, _, rfl, rfl, rfl, h1, k2⟩, ⟨_, _, rfl, h3, k3⟩, k4⟩
  | .rows k :: r, vs, us, ds, gs, hq, hm, hl, hr, hw => by
    obtain ⟨v, v', f', g, g', rfl, rfl, rfl, hl⟩ := hl
    obtain ⟨_, _, d, ds', _, _, e1, rfl, e2, h1, h2⟩ := hr
    cases e1; cases e2
    obtain ⟨_, _, e3, h3, h4⟩ := hw
    cases e3
    obtain ⟨u2, d2, g2, k1, k2, k3, k4⟩ := to_many (fun ks n h => hq ks n (List.mem_cons_of_mem _ h)) (fun ks h => hm ks (List.mem_cons_of_mem _ h)) hl h2 h4
    exact ⟨v :: u2, d :: d2, g :: g2, ⟨v, _, _, g, _, rfl, rfl, rfl, k1⟩, ⟨_, _, _, _, _, _, rfl, rfl, rfl, h1, k2⟩, ⟨_, _, rfl, h3, k3⟩, k4⟩
  | .many k :: r, vs, us, ds, gs, hq, hm, hl, hr, hw => absurd (List.mem_cons_self ..) (hm k)
  | .nest k n :: r, vs, us, ds, gs, hq, hm, hl, hr, hw => by
    obtain ⟨x, c, v', u1, f', u, g, g1, g', rfl, rfl, rfl, h1, h2, hn, h3, h4, h5, h6, hl⟩ := hl
    obtain ⟨_, _, d, ds', _, _, e1, rfl, e2, j1, j2⟩ := hr
    cases e1; cases e2
    obtain ⟨_, _, e3, j3, j4⟩ := hw
    cases e3
    obtain ⟨a1, a2, d1, d2, b1, b2, e4, rfl, e5, j5, j6⟩ := reads_split j2
    obtain ⟨l1, l2, l3⟩ := reads_len j5
    simp only [List.length_replicate] at l1 l2 l3
    obtain ⟨rfl, rfl⟩ := List.append_inj e4 (by omega)
    obtain ⟨rfl, rfl⟩ := List.append_inj e5 (by omega)
    obtain ⟨_, j7⟩ := wts_split (by simpa using l2) j4
    obtain ⟨u2, d3, g2, k1, k2, k3, k4⟩ := to_many (fun ks n h => hq ks n (List.mem_cons_of_mem _ h)) (fun ks h => hm ks (List.mem_cons_of_mem _ h)) hl j6 j7
    obtain ⟨m, rfl, hm1, hm2⟩ := j3
    have hw0 : CK.wt (.int .i64) (.int n) := by
      refine ⟨n, rfl, ?_, ?_⟩
      · have : IntKind.min .i64 = -9223372036854775808 := by decide
        omega
      · have : IntKind.max .i64 = 9223372036854775807 := by decide
        omega
    exact ⟨.int .i64 n :: u2, .int n :: d3, g :: g2, ⟨x, n, c, _, _, g, _, rfl, rfl, rfl, h3, h4, h5, k1⟩, ⟨_, _, _, _, _, _, rfl, rfl, rfl, rfl, k2⟩, ⟨_, _, rfl, hw0, k3⟩, ⟨_, _, rfl, hq k n (List.mem_cons_self ..), k4⟩⟩
end Go.Proofs.Ytolphdchkbcoeaa
