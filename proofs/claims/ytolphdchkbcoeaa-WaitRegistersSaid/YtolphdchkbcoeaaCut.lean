/- A run may be cut: what a call does from a memory is shown once, and used where that call comes. No program in sight. -/
import Derived.Test.YtolphdchkbcoeaaBd
noncomputable section
namespace Go.Proofs.Ytolphdchkbcoeaa
open Go.RowKit
set_option linter.unusedVariables false
set_option linter.unusedSimpArgs false

/-- A tree whose ends go on. -/
def T.bind (q : Lf → T) : T → T
  | .ret l => q l
  | .br c t e => .br c (t.bind q) (e.bind q)
  | .asrt c t => .asrt c (t.bind q)
  | .fail n => .fail n
  | .loop nv x b r => .loop nv x b (r.bind q)
  | .both t e => .both (t.bind q) (e.bind q)
/-- What comes next is used at the ends alone. -/
def Lin (go : Task → Fr → Me → (Lf → T) → T) : Prop := ∀ t F M k q, (go t F M k).bind q = go t F M fun l => (k l).bind q
section
variable {go : Task → Fr → Me → (Lf → T) → T} {q : Lf → T}
theorem test_bind (M : Me) (c : SE) (k : Bool → Me → T) : (test M c k).bind q = test M c fun b M => (k b M).bind q := by
  unfold test
  cases known M.pc c <;> rfl
theorem need_bind (M : Me) (c : SE) (k : Me → T) : (need M c k).bind q = need M c fun M => (k M).bind q := by
  unfold need
  cases known M.pc c with
  | none => rfl
  | some b => cases b <;> rfl
theorem needs_bind : ∀ (cs : List SE) (M : Me) (k : Me → T), (needs M cs k).bind q = needs M cs fun M => (k M).bind q
  | [], M, k => rfl
  | c :: r, M, k => (need_bind M c _).trans (congrArg (need M c) (funext fun M => needs_bind r M k))
theorem put_bind (F : Fr) (d : Option Tmp) (v : AV) (k : Fr → T) : (F.put d v k).bind q = F.put d v fun F => (k F).bind q := by
  cases d with
  | none => rfl
  | some d =>
    obtain ⟨tm0, n, df⟩ := F
    simp only [Fr.put]
    cases Nat.blt d n with
    | false => rfl
    | true => cases tm0.put d v <;> rfl
theorem findA_bind : ∀ (es : List (AV × AV)) (M : Me) (k : SE) (y : AV → Me → T) (n : Me → T), (findA M k es y n).bind q = findA M k es (fun v M => (y v M).bind q) fun M => (n M).bind q
  | [], M, k, y, n => rfl
  | (a, v) :: r, M, k, y, n => by
    cases a with
    | int kk e =>
      simp only [findA]
      rw [test_bind]
      congr 1
      funext b M
      cases b with
      | true => rfl
      | false => exact findA_bind r M k y n
    | _ => rfl
theorem resultsA_bind (P : Program) (F : Fr) : ∀ (rs : List ResultVar) (M : Me) (k : List AV → Me → T), (resultsA P F M rs k).bind q = resultsA P F M rs fun vs M => (k vs M).bind q
  | [], M, k => rfl
  | .tmp t :: r, M, k => by simp only [resultsA]; exact resultsA_bind P F r M _
  | .cell a t :: r, M, k => by
    simp only [resultsA]
    split
    · rw [needs_bind]; congr 1; funext M; exact resultsA_bind P F r M _
    · rfl
theorem guardA_bind (ops : Array Oper) (F : Fr) (o : Oper) (M : Me) (y n : Me → T) : (guardA ops F o M y n).bind q = guardA ops F o M (fun M => (y M).bind q) fun M => (n M).bind q := by
  unfold guardA
  split
  · rfl
  · split
    · split
      · rw [test_bind]; congr 1; funext b M; split <;> rfl
      · rfl
      · rfl
    · rfl
theorem lightA_bind (P : Program) (F : Fr) (o : Oper) (j : Nat) (M : Me) (k : AV → Option Ob → Me → T) : (lightA P F o j M k).bind q = lightA P F o j M fun v ob M => (k v ob M).bind q := by
  unfold lightA
  split
  · split
    · split
      · rw [test_bind]
      · rfl
    · split
      · rw [needs_bind]
      · rfl
  · split
    · rw [needs_bind]
    · rfl
  · split
    · rw [needs_bind]
    · rfl
  · rfl
theorem recheck_bind (P : Program) (D : Dr) (F : Fr) : ∀ (l : List Nat) (M : Me) (k : Me → T), (recheck P D F l M k).bind q = recheck P D F l M fun M => (k M).bind q
  | [], M, k => rfl
  | j :: l, M, k => by
    rw [recheck_cons, recheck_cons]
    split
    · rfl
    · rename_i o ho
      rw [guardA_bind]
      congr 1
      · funext M
        rw [lightA_bind]
        congr 1
        funext v ob M
        split
        · exact recheck_bind P D F l M k
        · rename_i d hd
          cases AV.same 50 ((F.tm.get d).getD .any) v with
          | true => exact recheck_bind P D F l M k
          | false => rfl
      · funext M
        split
        · exact recheck_bind P D F l M k
        · rename_i d hd
          cases AV.same 50 ((F.tm.get d).getD .any) undefA with
          | true => exact recheck_bind P D F l M k
          | false => rfl
theorem splitI_bind : ∀ (n : Nat) (e : SE) (M : Me) (k : Nat → Me → T), (splitI n e M k).bind q = splitI n e M fun j M => (k j M).bind q
  | 0, e, M, k => rfl
  | n + 1, e, M, k => by
    simp only [splitI]
    rw [test_bind]
    congr 1
    funext b M
    cases b with
    | true => rfl
    | false => exact splitI_bind n e M k
theorem endR_bind (b : Nat) (k : Lf → T) (l : Lf) : (endR b k l).bind q = endR b (fun l => (k l).bind q) l := by
  cases l with
  | code x F M =>
    cases x with
    | panic v => simp only [endR]; cases F.df <;> rfl
    | goto i => rfl
    | _ => simp only [endR]; split <;> rfl
  | _ => rfl
theorem endF_bind (b : Nat) (F : Fr) (k : Lf → T) (l : Lf) : (endF b F k l).bind q = endF b F (fun l => (k l).bind q) l := by
  cases l with
  | val v M =>
    simp only [endF]
    split
    · split
      · rfl
      · split <;> rfl
    · rfl
  | _ => rfl
theorem callK_bind (h : Lin go) (X : Cx) (fn : Func) (k : Lf → T) (l : Lf) : (callK go X fn k l).bind q = callK go X fn (fun l => (k l).bind q) l := by
  have ret : ∀ (F : Fr) (M : Me), (match F.df with
    | [] => resultsA X.P F M fn.results.toList fun vs M => (match vs with | [v] => k (.val v M) | vs => k (.val (.tup vs) M))
    | ds => go (.defers fn ds none) F M k).bind q = (match F.df with
    | [] => resultsA X.P F M fn.results.toList fun vs M => (match vs with | [v] => (k (.val v M)).bind q | vs => (k (.val (.tup vs) M)).bind q)
    | ds => go (.defers fn ds none) F M fun l => (k l).bind q) := fun F M => by
    cases F.df with
    | nil => simp only; rw [resultsA_bind]; congr 1; funext vs M; split <;> rfl
    | cons d r => exact h _ _ _ _ _
  cases l with
  | code x F M =>
    cases x with
    | panic v => simp only [callK]; cases F.df with
      | nil => rfl
      | cons d r => exact h _ _ _ _ _
    | norm => exact ret F M
    | ret => exact ret F M
    | _ => rfl
  | _ => rfl
theorem rCode_bind (h : Lin go) (X : Cx) (c : Code) (F : Fr) (M : Me) (k : Lf → T) : (rCode go X c F M k).bind q = rCode go X c F M fun l => (k l).bind q := by
  cases c with
  | region id ops draw =>
    simp only [rCode]
    split
    · rw [splitI_bind]; congr 1; funext j M; exact h _ _ _ _ _
    · cases draw with
      | false => exact h _ _ _ _ _
      | true =>
        simp only
        generalize (tidy ops (Region.before ops) && validB ops (Region.before ops) (2 ^ ops.size - 1) (canon ops (Region.before ops) ((List.range ops.size).filter (isH ops)) 0)) = b
        cases b with
        | true => exact h _ _ _ _ _
        | false => rfl
  | seq a b =>
    refine (h _ _ _ _ _).trans (congrArg (go (.code a) F M) (funext fun l => ?_))
    cases l with
    | code x F M => cases x with
      | norm => exact h _ _ _ _ _
      | _ => rfl
    | _ => rfl
  | cond c a b =>
    simp only [rCode]
    split
    · rw [test_bind]; congr 1; funext t M; exact h _ _ _ _ _
    · rw [test_bind]; congr 1; funext t M
      cases t with
      | true => simp only [if_true, T.bind]; rw [h, h]
      | false => exact h _ _ _ _ _
    · rfl
  | block id c =>
    refine (h _ _ _ _ _).trans (congrArg (go (.code c) F M) (funext fun l => ?_))
    cases l with
    | code x F M => cases x with
      | exit i => simp only; cases Nat.beq i id <;> rfl
      | _ => rfl
    | _ => rfl
  | loop c =>
    simp only [rCode]
    split
    · exact h _ _ _ _ _
    · split
      · rfl
      · split
        · rfl
        · rw [needs_bind]
          congr 1
          funext _
          simp only [T.bind]
          rw [h]
          congr 2
          funext l
          cases l with
          | code x F M => cases x <;> rfl
          | _ => rfl
  | scope c =>
    refine (h _ _ _ _ _).trans (congrArg (go (.code c) F M) (funext fun l => ?_))
    cases l with
    | code x F M => cases x <;> rfl
    | _ => rfl
  | rangeFunc g ps asg body =>
    simp only [rCode]
    split
    · cases (X.E && (plainC asg && plainC body)) with
      | true =>
        refine (h _ _ _ _ _).trans (congrArg (go _ _ _) (funext fun l => ?_))
        exact endF_bind _ _ k l
      | false => rfl
    · rfl
  | _ => rfl
theorem rOps_bind' (h : Lin go) (X : Cx) (ops : Array Oper) (r : List Oper) (d : Option Tmp) (v : AV) (F : Fr) (M : Me) (k : Lf → T) : (F.put d v fun F => go (.ops ops r) F M k).bind q = F.put d v fun F => go (.ops ops r) F M fun l => (k l).bind q := by
  rw [put_bind]; congr 1; funext F; exact h _ _ _ _ _
theorem rHeavy_bind (h : Lin go) (X : Cx) (ops : Array Oper) (o : Oper) (r : List Oper) (F : Fr) (M : Me) (k : Lf → T) : (rHeavy go X ops o r F M k).bind q = rHeavy go X ops o r F M fun l => (k l).bind q := by
  have P := fun d v F M => rOps_bind' (q := q) h X ops r d v F M k
  obtain ⟨dst, op, ty, pos, after, guard⟩ := o
  cases op with
  | store t a v =>
    simp only [rHeavy]
    split
    · rw [needs_bind]; congr 1; funext M; exact P _ _ _ _
    · rfl
  | insert t m key v =>
    simp only [rHeavy]
    split
    · split
      · cases List.all _ _ with
        | true => exact P _ _ _ _
        | false => rfl
      · rfl
    · rfl
  | lookup t m key ok =>
    simp only [rHeavy]
    split
    · split
      · cases List.all _ _ with
        | true =>
          simp only [cond_true]
          rw [findA_bind]
          congr 1
          · funext v M; exact P _ _ _ _
          · funext M; exact P _ _ _ _
        | false => rfl
      · rfl
    · rfl
  | panic x =>
    simp only [rHeavy]
    split <;> rfl
  | defer c =>
    obtain ⟨callee, args, ats⟩ := c
    cases callee with
    | value f =>
      simp only [rHeavy]
      split
      · exact P _ _ _ _
      · rfl
    | _ => rfl
  | call c =>
    obtain ⟨callee, args, ats⟩ := c
    cases callee with
    | builtin b =>
      cases b with
      | append =>
        simp only [rHeavy]
        split
        · split
          · rw [needs_bind]; congr 1; funext M; exact P _ _ _ _
          · rfl
        · rfl
      | copy =>
        simp only [rHeavy]
        split
        · split
          · rw [needs_bind]; congr 1; funext M; exact P _ _ _ _
          · rfl
        · rfl
      | _ => rfl
    | value f =>
      simp only [rHeavy]
      have L : ∀ t, (go t F M fun l => match l with
          | .val v M => F.put dst v fun F => go (.ops ops r) F M k
          | .pan v M => k (.code (.panic v) F M)
          | _ => .fail 28).bind q = go t F M fun l => match l with
          | .val v M => F.put dst v fun F => go (.ops ops r) F M fun l => (k l).bind q
          | .pan v M => (k (.code (.panic v) F M)).bind q
          | _ => .fail 28 := fun t => by
        refine (h _ _ _ _ _).trans (congrArg (go t F M) (funext fun l => ?_))
        cases l with
        | val v M => exact P _ _ _ _
        | _ => rfl
      split
      · exact L _
      · exact L _
      · rfl
    | _ => rfl
  | _ => rfl
theorem rOps_bind (h : Lin go) (X : Cx) (ops : Array Oper) (l : List Oper) (F : Fr) (M : Me) (k : Lf → T) : (rOps go X ops l F M k).bind q = rOps go X ops l F M fun l => (k l).bind q := by
  cases l with
  | nil => rfl
  | cons o r =>
    have P := fun d v F M => rOps_bind' (q := q) h X ops r d v F M k
    simp only [rOps]
    rw [guardA_bind]
    congr 1
    · funext M
      split
      · exact rHeavy_bind h X ops o r F M k
      · split
        · rw [needs_bind]; congr 1; funext M; exact P _ _ _ _
        · rw [lightA_bind]; congr 1; funext v ob M; exact P _ _ _ _
    · funext M
      cases skipOk X (ev F) o with
      | true => exact P _ _ _ _
      | false => rfl
theorem rDraw_bind (h : Lin go) (X : Cx) (D : Dr) (todo : List Nat) (F : Fr) (M : Me) (k : Lf → T) : (rDraw go X D todo F M k).bind q = rDraw go X D todo F M fun l => (k l).bind q := by
  cases todo with
  | nil => rfl
  | cons i r =>
    obtain ⟨ops, b, j⟩ := D
    simp only [rDraw, rDrawA]
    split
    · rfl
    · rename_i o ho
      split
      · split
        · rfl
        · refine (h _ _ _ _ _).trans (congrArg (go _ _ _) (funext fun l => ?_))
          cases l with
          | code x F' M' => cases x with
            | norm =>
              simp only
              cases Nat.beq F'.n F.n with
              | false => rfl
              | true =>
                simp only [Bool.not_true, cond_false]
                rw [put_bind]; congr 1; funext F2
                exact (recheck_bind X.P ⟨ops, b, j⟩ F2 _ _ _).trans (congrArg (recheckO X.P ops F2 _ _) (funext fun M => h _ _ _ _ _))
            | _ => rfl
          | _ => rfl
      · rw [guardA_bind]
        congr 1
        · funext M; rw [lightA_bind]; congr 1; funext v ob M; rw [put_bind]; congr 1; funext F; exact h _ _ _ _ _
        · funext M; rw [put_bind]; congr 1; funext F; exact h _ _ _ _ _
theorem rCall_bind (h : Lin go) (X : Cx) (f : AV) (args : List AV) (F : Fr) (M : Me) (k : Lf → T) : (rCall go X f args F M k).bind q = rCall go X f args F M fun l => (k l).bind q := by
  cases f with
  | func fn first cap =>
    cases fn with
    | func fid =>
      simp only [rCall]
      split
      · split
        · split
          · rw [needs_bind]
          · rfl
        · rfl
      · split
        · split
          · cases Nat.ble _ _ with
            | false => rfl
            | true =>
              simp only [cond_true]
              split
              · split
                · refine (h _ _ _ _ _).trans (congrArg (go _ _ _) (funext fun l => ?_))
                  exact callK_bind h X _ _ l
                · rfl
              · rfl
          · rfl
        · rfl
    | _ => rfl
  | yld b =>
    simp only [rCall]
    split
    · cases (X.E && _) with
      | false => rfl
      | true =>
        simp only [cond_true]
        split
        · refine (h _ _ _ _ _).trans (congrArg (go _ _ _) (funext fun l => ?_))
          cases l with
          | code x F' M' => cases x with
            | norm =>
              simp only
              split
              · cases plainC _ with
                | false => rfl
                | true =>
                  refine (h _ _ _ _ _).trans (congrArg (go _ _ _) (funext fun l => ?_))
                  exact endR_bind b k l
              · rfl
            | _ => rfl
          | _ => rfl
        · rfl
    · rfl
  | _ => rfl
theorem rDefers_bind (h : Lin go) (X : Cx) (fn : Func) (ds : List (AV × List AV)) (pn : Option AV) (F : Fr) (M : Me) (k : Lf → T) : (rDefers go X fn ds pn F M k).bind q = rDefers go X fn ds pn F M fun l => (k l).bind q := by
  cases ds with
  | nil =>
    simp only [rDefers]
    cases pn with
    | none => simp only; rw [resultsA_bind]; congr 1; funext vs M; split <;> rfl
    | some v => rfl
  | cons d r =>
    obtain ⟨f, args⟩ := d
    simp only [rDefers]
    split
    · split
      · split
        · cases Nat.ble _ _ with
          | false => rfl
          | true =>
            simp only [cond_true]
            split
            · split
              · split
                · rw [put_bind]; congr 1; funext G
                  refine (h _ _ _ _ _).trans (congrArg (go _ _ _) (funext fun l => ?_))
                  have E : ∀ (rs : List ResultVar) (G : Fr) (M : Me), (match G.df with
                      | [] => resultsA X.P G M rs fun _ M => go (.defers fn r none) F M k
                      | _ => .fail 50).bind q = match G.df with
                      | [] => resultsA X.P G M rs fun _ M => go (.defers fn r none) F M fun l => (k l).bind q
                      | _ => .fail 50 := fun rs G M => by
                    cases G.df with
                    | nil => refine (resultsA_bind _ _ _ _ _).trans ?_; congr 1; funext vs M; exact h _ _ _ _ _
                    | cons d r => rfl
                  cases l with
                  | code x G M => cases x with
                    | norm => exact E _ G M
                    | ret => exact E _ G M
                    | _ => rfl
                  | _ => rfl
                · rfl
              · rfl
            · rfl
        · rfl
      · rfl
    · split
      · exact h _ _ _ _ _
      · rfl
    · rfl
end
theorem run_bind (X : Cx) : ∀ n, Lin (run n X)
  | 0 => fun t F M k q => rfl
  | n + 1 => fun t F M k q => by
    have ih := run_bind X n
    cases t with
    | code c => exact rCode_bind ih X c F M k
    | loop c =>
      refine (ih _ _ _ _ _).trans (congrArg (run n X (.code c) F M) (funext fun l => ?_))
      cases l with
      | code x F M => cases x with
        | norm => exact ih _ _ _ _ _
        | _ => rfl
      | _ => rfl
    | ops ops l => exact rOps_bind ih X ops l F M k
    | draw D todo => exact rDraw_bind ih X D todo F M k
    | call f args => exact rCall_bind ih X f args F M k
    | defers fn ds pn => exact rDefers_bind ih X fn ds pn F M k
/-- A run that ends at one place goes on from there. -/
theorem run_ret {n : Nat} {X : Cx} {t : Task} {F : Fr} {M : Me} {l : Lf} (h : run n X t F M .ret = .ret l) (k : Lf → T) : run n X t F M k = k l := by
  have := run_bind X n t F M .ret k
  rw [h] at this
  exact this.symm

/-- What a call of a function is known to do, with so much fuel, from such a memory. -/
structure Mo where
  n : Nat
  fid : FuncId
  args : List AV
  hp : List (Nat × Ob)
  nb : Nat
  nv : Nat
  v : AV
  hp' : List (Nat × Ob)
  nb' : Nat
def Ob.sameM (x y : Ob) : Bool :=
  match x, y with
  | .cells a, .cells b => Nat.beq a.length b.length && (a.zip b).all fun p => AV.same 50 p.1 p.2
  | .rows ks e, .rows ks' e' => decide (ks = ks') && decide (e = e')
  | .ro ks e, .ro ks' e' => decide (ks = ks') && decide (e = e')
  | _, _ => false
def sameHp (x y : List (Nat × Ob)) : Bool :=
  match x, y with
  | [], [] => true
  | (a, p) :: r, (b, q) :: s => Nat.beq a b && (p.sameM q && sameHp r s)
  | _, _ => false
def sameAs (x y : List AV) : Bool := Nat.beq x.length y.length && (x.zip y).all fun p => AV.same 50 p.1 p.2
def sameMe (M : Me) (hp : List (Nat × Ob)) (nb nv : Nat) : Bool :=
  Nat.beq M.nb nb && (Nat.beq M.nv nv && (M.pc.cs.isEmpty && (M.pc.fs.isEmpty && sameHp M.hp hp)))
theorem sameAs_eq {x y : List AV} (h : sameAs x y = true) : x = y := same_list (f := 50) (same_eq 50) x y h
theorem Ob.sameM_eq {x y : Ob} (h : x.sameM y = true) : x = y := by
  cases x <;> cases y <;> simp only [Ob.sameM, Bool.and_eq_true, decide_eq_true_eq] at h <;> first | (cases h; done) | skip
  · rename_i a b; rw [sameAs_eq (x := a) (y := b) (by simp only [sameAs, Bool.and_eq_true]; exact h)]
  · rw [h.1, h.2]
  · rw [h.1, h.2]
theorem sameHp_eq : ∀ {x y : List (Nat × Ob)}, sameHp x y = true → x = y
  | [], [], _ => rfl
  | [], _ :: _, h => by cases h
  | _ :: _, [], h => by cases h
  | (a, p) :: r, (b, q) :: s, h => by
    simp only [sameHp, Bool.and_eq_true, beq_iff] at h
    rw [h.1, Ob.sameM_eq h.2.1, sameHp_eq h.2.2]
theorem sameMe_eq {M : Me} {hp : List (Nat × Ob)} {nb nv : Nat} (h : sameMe M hp nb nv = true) : M = ⟨hp, nb, nv, ⟨[], []⟩⟩ := by
  obtain ⟨hp0, nb0, nv0, ⟨cs, fs⟩⟩ := M
  simp only [sameMe, Bool.and_eq_true, beq_iff, List.isEmpty_iff] at h
  obtain ⟨h1, h2, h3, h4, h5⟩ := h
  rw [h1, h2, h3, h4, sameHp_eq h5]
def moOf (L : List Mo) (n : Nat) (f : AV) (args : List AV) (M : Me) : Option Mo :=
  match L with
  | [] => none
  | o :: r => bif Nat.beq o.n n then (match f with
    | .func (.func fid) [] [] => bif Nat.beq o.fid fid && (sameAs args o.args && sameMe M o.hp o.nb o.nv) then some o else moOf r n f args M
    | _ => moOf r n f args M) else moOf r n f args M
def Mo.out (o : Mo) : Lf := .val o.v ⟨o.hp', o.nb', o.nv, ⟨[], []⟩⟩
/-- The run, with what is known. -/
def runM (L : List Mo) (n : Nat) (X : Cx) (t : Task) (F : Fr) (M : Me) (k : Lf → T) : T :=
  match n with
  | 0 => .fail 10
  | n + 1 =>
    match t with
    | .code c => rCode (runM L n X) X c F M k
    | .loop c => runM L n X (.code c) F M fun l => match l with | .code .norm F M => runM L n X (.loop c) F M k | l => k l
    | .ops ops l => rOps (runM L n X) X ops l F M k
    | .draw D todo => rDraw (runM L n X) X D todo F M k
    | .call f args => (match moOf L (n + 1) f args M with
      | some o => k o.out
      | none => rCall (runM L n X) X f args F M k)
    | .defers fn ds pn => rDefers (runM L n X) X fn ds pn F M k
def MoOk (X : Cx) (o : Mo) : Prop := ∀ F k, run o.n X (.call (.func (.func o.fid) [] []) o.args) F ⟨o.hp, o.nb, o.nv, ⟨[], []⟩⟩ k = k o.out
theorem moOf_ok {X : Cx} : ∀ {L : List Mo}, (∀ o ∈ L, MoOk X o) → ∀ {n f args M o}, moOf L n f args M = some o → ∀ F k, run n X (.call f args) F M k = k o.out
  | [], _, n, f, args, M, o, h => by cases h
  | p :: r, hL, n, f, args, M, o, h => by
    have ih := fun h => moOf_ok (X := X) (L := r) (fun o ho => hL o (List.mem_cons_of_mem _ ho)) (n := n) (f := f) (args := args) (M := M) (o := o) h
    simp only [moOf] at h
    cases h1 : Nat.beq p.n n with
    | false => rw [h1] at h; exact ih h
    | true =>
      rw [h1] at h
      simp only [cond_true] at h
      split at h
      · rename_i fid
        cases h2 : (Nat.beq p.fid fid && (sameAs args p.args && sameMe M p.hp p.nb p.nv)) with
        | false => rw [h2] at h; exact ih h
        | true =>
          rw [h2] at h
          cases h
          simp only [Bool.and_eq_true, beq_iff] at h2
          obtain ⟨e1, e2, e3⟩ := h2
          have e0 := (beq_iff _ _).1 h1
          rw [← e0, ← e1, sameAs_eq e2, sameMe_eq e3]
          exact hL p (List.mem_cons_self ..)
      · exact ih h
theorem runM_eq {X : Cx} {L : List Mo} (hL : ∀ o ∈ L, MoOk X o) : ∀ n, runM L n X = run n X
  | 0 => rfl
  | n + 1 => by
    have ih := runM_eq hL n
    funext t F M k
    cases t with
    | call f args =>
      cases h : moOf L (n + 1) f args M with
      | some o => simp only [runM, h]; exact (moOf_ok hL h F k).symm
      | none => simp only [runM, h, ih]; rfl
    | _ => simp only [runM, ih]; rfl
def chkMo (L : List Mo) (X : Cx) (o : Mo) : Bool :=
  match runM L o.n X (.call (.func (.func o.fid) [] []) o.args) ⟨.lf, 0, []⟩ ⟨o.hp, o.nb, o.nv, ⟨[], []⟩⟩ .ret with
  | .ret (.val v M) => AV.same 50 v o.v && sameMe M o.hp' o.nb' o.nv
  | _ => false
theorem chkMo_ok {X : Cx} {L : List Mo} {o : Mo} (hL : ∀ o ∈ L, MoOk X o) (h : chkMo L X o = true) : MoOk X o := by
  intro F k
  unfold chkMo at h
  rw [runM_eq hL] at h
  split at h
  · rename_i v M hr
    simp only [Bool.and_eq_true] at h
    rw [same_eq _ _ _ h.1, sameMe_eq h.2] at hr
    have hF : ∀ n F' k, run n X (.call (.func (.func o.fid) [] []) o.args) F ⟨o.hp, o.nb, o.nv, ⟨[], []⟩⟩ k = run n X (.call (.func (.func o.fid) [] []) o.args) F' ⟨o.hp, o.nb, o.nv, ⟨[], []⟩⟩ k := fun n F' k => by
      cases n <;> rfl
    rw [hF o.n ⟨.lf, 0, []⟩ k]
    exact run_ret hr k
  · cases h
theorem mo_nil {X : Cx} : ∀ o ∈ ([] : List Mo), MoOk X o := fun o h => by cases h
theorem mo_cons {X : Cx} {o : Mo} {L : List Mo} (h : MoOk X o) (hL : ∀ o ∈ L, MoOk X o) : ∀ p ∈ o :: L, MoOk X p := fun p hp => by
  cases hp with
  | head => exact h
  | tail _ hp => exact hL p hp
def callDM (L : List Mo) (X : Cx) (n : Nat) (f : FuncId) (ins outs : List Sh) (fs : List LF) : T :=
  match inX (clsOf ins) 0 with
  | (as, hs) => runM L n X (.call (.func (.func f) [] []) (packA ins as)) ⟨.lf, 0, []⟩ ⟨hs, (clsOf ins).length, (clsOf ins).length, ⟨[], fs⟩⟩ (leafD outs (clsOf ins).length)
def treeOkM (L : List Mo) (X : Cx) (n : Nat) (f : FuncId) (ins outs : List Sh) (fs : List LF) (t : PT) : Bool := (callDM L X n f ins outs fs).chk (clsOf ins).length t
theorem treeOkM_ok {L : List Mo} {X : Cx} (hL : ∀ o ∈ L, MoOk X o) {n : Nat} {f : FuncId} {ins outs : List Sh} {fs : List LF} {t : PT} (h : treeOkM L X n f ins outs fs t = true) : treeOk X n f ins outs fs t = true := by
  unfold treeOkM callDM at h
  rw [runM_eq hL] at h
  exact h
end Go.Proofs.Ytolphdchkbcoeaa
