/- Linear sums over expressions, what is known of them on a path, and what follows. No program in sight. -/
import Derived.Test.YtbnbljeegghgiaaSe
import Derived.IntWalk
import Derived.Laws.Closers25b
namespace Go.Proofs.Ytbnbljeegghgiaa

structure LF where
  c : Int
  ts : List (SE × Int)
def sumT (ρ : Env) : List (SE × Int) → Int
  | [] => 0
  | (a, k) :: r => k * (a.den ρ).i + sumT ρ r
def LF.val (ρ : Env) (f : LF) : Int := f.c + sumT ρ f.ts
def insT (a : SE) (k : Int) : List (SE × Int) → List (SE × Int)
  | [] => [(a, k)]
  | (b, m) :: r => if a = b then (if k + m = 0 then r else (b, k + m) :: r) else (b, m) :: insT a k r
def addT : List (SE × Int) → List (SE × Int) → List (SE × Int)
  | [], y => y
  | (a, k) :: r, y => insT a k (addT r y)
def sclT (n : Int) : List (SE × Int) → List (SE × Int)
  | [] => []
  | (a, k) :: r => (a, n * k) :: sclT n r
def LF.add (x y : LF) : LF := ⟨x.c + y.c, addT x.ts y.ts⟩
def LF.scl (n : Int) (x : LF) : LF := if n = 0 then ⟨0, []⟩ else ⟨n * x.c, sclT n x.ts⟩
def LF.sub (x y : LF) : LF := x.add (y.scl (-1))
def LF.plus (x : LF) (n : Int) : LF := ⟨x.c + n, x.ts⟩
theorem insT_sum (ρ : Env) (a : SE) (k : Int) : ∀ l, sumT ρ (insT a k l) = k * (a.den ρ).i + sumT ρ l
  | [] => rfl
  | (b, m) :: r => by
    unfold insT
    split
    · rename_i e
      subst e
      split
      · rename_i h0
        have : m = -k := by omega
        subst this
        simp only [sumT, Int.neg_mul]
        omega
      · simp only [sumT, Int.add_mul]
        omega
    · simp only [sumT, insT_sum ρ a k r]
      omega
theorem addT_sum (ρ : Env) : ∀ x y, sumT ρ (addT x y) = sumT ρ x + sumT ρ y
  | [], y => by simp [addT, sumT]
  | (a, k) :: r, y => by simp only [addT, insT_sum, addT_sum ρ r y, sumT]; omega
theorem sclT_sum (ρ : Env) (n : Int) : ∀ x, sumT ρ (sclT n x) = n * sumT ρ x
  | [] => by simp [sclT, sumT]
  | (a, k) :: r => by simp only [sclT, sumT, sclT_sum ρ n r, Int.mul_add, Int.mul_assoc]
theorem LF.add_val (ρ : Env) (x y : LF) : (x.add y).val ρ = x.val ρ + y.val ρ := by simp only [LF.add, LF.val, addT_sum]; omega
theorem LF.scl_val (ρ : Env) (n : Int) (x : LF) : (x.scl n).val ρ = n * x.val ρ := by
  unfold LF.scl
  split
  · rename_i h; subst h; simp [LF.val, sumT]
  · simp only [LF.val, sclT_sum, Int.mul_add]
theorem LF.sub_val (ρ : Env) (x y : LF) : (x.sub y).val ρ = x.val ρ - y.val ρ := by simp only [LF.sub, LF.add_val, LF.scl_val]; omega
theorem LF.plus_val (ρ : Env) (x : LF) (n : Int) : (x.plus n).val ρ = x.val ρ + n := by simp only [LF.plus, LF.val]; omega

/-- What holds of an expression by its head. -/
def baseLo : SE → Option Int
  | .un .len _ | .un .slen _ => some 0
  | .un (.wrap k) _ => some k.min
  | _ => none
def baseHi : SE → Option Int
  | .un (.wrap k) _ => some k.max
  | _ => none
def maxO : Option Int → Int → Option Int
  | none, b => some b
  | some a, b => if a ≤ b then some b else some a
def minO : Option Int → Int → Option Int
  | none, b => some b
  | some a, b => if a ≤ b then some a else some b
def atomLo (a : SE) : List LF → Option Int
  | [] => baseLo a
  | ⟨c, [(b, 1)]⟩ :: r => if b = a then maxO (atomLo a r) (-c) else atomLo a r
  | _ :: r => atomLo a r
def atomHi (a : SE) : List LF → Option Int
  | [] => baseHi a
  | ⟨c, [(b, -1)]⟩ :: r => if b = a then minO (atomHi a r) c else atomHi a r
  | _ :: r => atomHi a r
/-- A bound from below of a sum. -/
def minT (fs : List LF) : List (SE × Int) → Option Int
  | [] => some 0
  | (a, k) :: r =>
    match minT fs r, (if 0 ≤ k then atomLo a fs else atomHi a fs) with
    | some m, some x => some (k * x + m)
    | _, _ => none
def minL (fs : List LF) (f : LF) : Option Int := match minT fs f.ts with | some m => some (f.c + m) | none => none
def geO : Option Int → Int → Bool
  | some a, b => decide (b ≤ a)
  | none, _ => false
def prove (fs : List LF) (g : LF) : Bool := geO (minL fs g) 0 || fs.any fun f => geO (minL fs (g.sub f)) 0
def Facts (ρ : Env) (fs : List LF) : Prop := ∀ f ∈ fs, 0 ≤ f.val ρ

theorem atomLo_ok {ρ : Env} (a : SE) : ∀ (fs : List LF), Facts ρ fs → ∀ x, atomLo a fs = some x → x ≤ (a.den ρ).i
  | [], h, x, hx => by
    unfold atomLo at hx
    unfold baseLo at hx
    split at hx
    · cases hx; exact Int.natCast_nonneg _
    · cases hx; exact Int.natCast_nonneg _
    · cases hx; exact (wrap_within _ _).1
    · cases hx
  | f :: r, h, x, hx => by
    have ih := atomLo_ok (ρ := ρ) a r (fun g hg => h g (List.mem_cons_of_mem _ hg))
    unfold atomLo at hx
    split at hx
    · rename_i heq; cases heq
    · rename_i c b r' heq
      cases heq
      split at hx
      · rename_i e
        subst e
        have h0 := h _ (List.mem_cons_self ..)
        simp only [LF.val, sumT] at h0
        cases hl : atomLo b r with
        | none => rw [hl] at hx; simp only [maxO, Option.some.injEq] at hx; omega
        | some y =>
          rw [hl] at hx
          have := ih y hl
          simp only [maxO] at hx
          split at hx <;> cases hx <;> omega
      · exact ih x hx
    · rename_i heq; cases heq; exact ih x hx
theorem atomHi_ok {ρ : Env} (a : SE) : ∀ (fs : List LF), Facts ρ fs → ∀ x, atomHi a fs = some x → (a.den ρ).i ≤ x
  | [], h, x, hx => by
    unfold atomHi at hx
    unfold baseHi at hx
    split at hx
    · cases hx; exact (wrap_within _ _).2
    · cases hx
  | f :: r, h, x, hx => by
    have ih := atomHi_ok (ρ := ρ) a r (fun g hg => h g (List.mem_cons_of_mem _ hg))
    unfold atomHi at hx
    split at hx
    · rename_i heq; cases heq
    · rename_i c b r' heq
      cases heq
      split at hx
      · rename_i e
        subst e
        have h0 := h _ (List.mem_cons_self ..)
        simp only [LF.val, sumT] at h0
        cases hl : atomHi b r with
        | none => rw [hl] at hx; simp only [minO, Option.some.injEq] at hx; omega
        | some y =>
          rw [hl] at hx
          have := ih y hl
          simp only [minO] at hx
          split at hx <;> cases hx <;> omega
      · exact ih x hx
    · rename_i heq; cases heq; exact ih x hx
theorem minT_ok {ρ : Env} {fs : List LF} (h : Facts ρ fs) : ∀ (l : List (SE × Int)) (m : Int), minT fs l = some m → m ≤ sumT ρ l
  | [], m, hm => by cases hm; exact Int.le_refl _
  | (a, k) :: r, m, hm => by
    unfold minT at hm
    split at hm
    · rename_i m' x h1 h2
      cases hm
      have ih := minT_ok h r m' h1
      simp only [sumT]
      split at h2
      · rename_i hk
        have := Int.mul_le_mul_of_nonneg_left (atomLo_ok a fs h x h2) hk
        omega
      · rename_i hk
        have := Int.mul_le_mul_of_nonneg_left (atomHi_ok a fs h x h2) (show 0 ≤ -k by omega)
        simp only [Int.neg_mul] at this
        omega
    · cases hm
theorem minL_ok {ρ : Env} {fs : List LF} (h : Facts ρ fs) {f : LF} {b : Int} (hm : geO (minL fs f) b = true) : b ≤ f.val ρ := by
  unfold minL at hm
  split at hm
  · rename_i m h1
    have := minT_ok h _ _ h1
    simp only [geO, decide_eq_true_eq] at hm
    unfold LF.val
    omega
  · cases hm
theorem prove_ok {ρ : Env} {fs : List LF} (h : Facts ρ fs) {g : LF} (hp : prove fs g = true) : 0 ≤ g.val ρ := by
  unfold prove at hp
  simp only [Bool.or_eq_true] at hp
  rcases hp with hp | hp
  · exact minL_ok h hp
  · obtain ⟨f, hf, hg⟩ := List.any_eq_true.1 hp
    have := minL_ok h hg
    rw [LF.sub_val] at this
    have := h f hf
    omega

/-- An expression as a sum: wraps that do nothing are taken off. -/
def wrapOk (fs : List LF) (k : IntKind) (f : LF) : Bool := prove fs (f.plus (-k.min)) && prove fs ((f.scl (-1)).plus k.max)
def mulL (x y : LF) (e : SE) : LF :=
  match x.ts with
  | [] => y.scl x.c
  | _ => match y.ts with
    | [] => x.scl y.c
    | _ => ⟨0, [(e, 1)]⟩
def lin (fs : List LF) (e : SE) : LF :=
  match e with
  | .int n => ⟨n, []⟩
  | .bin .add a b => (lin fs a).add (lin fs b)
  | .bin .sub a b => (lin fs a).sub (lin fs b)
  | .bin .mul a b =>
    mulL (lin fs a) (lin fs b) (.bin .mul a b)
  | .un (.wrap k) a => let f := lin fs a; bif wrapOk fs k f then f else ⟨0, [(.un (.wrap k) a, 1)]⟩
  | e => ⟨0, [(e, 1)]⟩
theorem wrap_in (k : IntKind) (n : Int) (h0 : k.min ≤ n) (h1 : n ≤ k.max) : k.wrap n = n := by
  cases k <;> simp [IntKind.min, IntKind.max, IntKind.wrap, IntKind.bits, IntKind.signed] at * <;> omega
theorem at1 (ρ : Env) (e : SE) : (LF.mk 0 [(e, 1)]).val ρ = (e.den ρ).i := by simp only [LF.val, sumT]; omega
theorem lin_val {ρ : Env} {fs : List LF} (h : Facts ρ fs) : ∀ e : SE, (lin fs e).val ρ = (e.den ρ).i
  | .var i => at1 ρ _
  | .int n => by simp [lin, LF.val, sumT, SE.den, DV.i]
  | .bool b => at1 ρ _
  | .str s => at1 ρ _
  | .nil => at1 ρ _
  | .tri o a b c => at1 ρ _
  | .un o a => by
    cases o with
    | wrap k =>
      have ih := lin_val h a
      unfold lin
      simp only
      cases hw : wrapOk fs k (lin fs a) with
      | false => exact at1 ρ _
      | true =>
        unfold wrapOk at hw
        simp only [Bool.and_eq_true] at hw
        have h1 := prove_ok h hw.1
        have h2 := prove_ok h hw.2
        rw [LF.plus_val] at h1 h2
        rw [LF.scl_val] at h2
        show (lin fs a).val ρ = k.wrap (a.den ρ).i
        rw [wrap_in k _ (by rw [← ih]; omega) (by rw [← ih]; omega)]
        exact ih
    | _ => exact at1 ρ _
  | .bin o a b => by
    have iha := lin_val h a
    have ihb := lin_val h b
    cases o with
    | add => show (LF.add _ _).val ρ = _; rw [LF.add_val, iha, ihb]; rfl
    | sub => show (LF.sub _ _).val ρ = _; rw [LF.sub_val, iha, ihb]; rfl
    | mul =>
      show (mulL (lin fs a) (lin fs b) (.bin .mul a b)).val ρ = (a.den ρ).i * (b.den ρ).i
      unfold mulL
      split
      · rename_i h1
        rw [LF.scl_val, ihb, ← iha, LF.val, h1]
        simp [sumT]
      · split
        · rename_i h1
          rw [LF.scl_val, iha, ← ihb, LF.val, h1]
          simp [sumT, Int.mul_comm]
        · exact at1 ρ _
    | _ => exact at1 ρ _

/-! Conditions on a path. -/
structure PC where
  cs : List (SE × Bool)
  fs : List LF
def holdsAll (ρ : Env) (pc : PC) : Prop := (∀ p ∈ pc.cs, (p.1.den ρ).b = p.2) ∧ Facts ρ pc.fs
def look (pc : List (SE × Bool)) (d : SE) : Option Bool :=
  match pc with
  | [] => none
  | (e, t) :: r => if e = d then some t else look r d
theorem look_den {pc : List (SE × Bool)} {ρ : Env} (hp : ∀ p ∈ pc, (p.1.den ρ).b = p.2) : ∀ {d : SE} {t : Bool}, look pc d = some t → (d.den ρ).b = t := by
  induction pc with
  | nil => intro d t h; simp [look] at h
  | cons p r ih =>
    intro d t h
    obtain ⟨e, u⟩ := p
    unfold look at h
    split at h
    · rename_i he
      subst he
      simp at h
      subst h
      exact hp (e, u) (by simp)
    · exact ih (fun q hq => hp q (by simp [hq])) h
def sureLe (fs : List LF) (d : LF) : Option Bool := bif prove fs d then some true else bif prove fs ((d.scl (-1)).plus (-1)) then some false else none
def sureEq (fs : List LF) (d : LF) : Option Bool :=
  bif prove fs (d.plus (-1)) || prove fs ((d.scl (-1)).plus (-1)) then some false else bif prove fs d && prove fs (d.scl (-1)) then some true else none
def known (pc : PC) (c : SE) : Option Bool :=
  match c with
  | .bool b => some b
  | .un .not d => (known pc d).map (!·)
  | .bin .le a b => (match look pc.cs (.bin .le a b) with | some t => some t | none => sureLe pc.fs ((lin pc.fs b).sub (lin pc.fs a)))
  | .bin .eq a b => (match look pc.cs (.bin .eq a b) with | some t => some t | none => sureEq pc.fs ((lin pc.fs b).sub (lin pc.fs a)))
  | .bin .and a b => (match known pc a, known pc b with
    | some false, _ => some false
    | _, some false => some false
    | some true, some true => some true
    | _, _ => look pc.cs (.bin .and a b))
  | .bin .or a b => (match known pc a, known pc b with
    | some true, _ => some true
    | _, some true => some true
    | some false, some false => some false
    | _, _ => look pc.cs (.bin .or a b))
  | c => look pc.cs c
theorem known_den {pc : PC} {ρ : Env} (hp : holdsAll ρ pc) : ∀ {c : SE} {t : Bool}, known pc c = some t → (c.den ρ).b = t
  | .bool b, t, h => by cases h; rfl
  | .var i, t, h => look_den hp.1 h
  | .int n, t, h => look_den hp.1 h
  | .str s, t, h => look_den hp.1 h
  | .nil, t, h => look_den hp.1 h
  | .tri o a b c, t, h => look_den hp.1 h
  | .un o d, t, h => by
    cases o with
    | not =>
      have h : (known pc d).map (!·) = some t := h
      cases hl : known pc d with
      | none => rw [hl] at h; cases h
      | some u =>
        rw [hl] at h
        simp only [Option.map_some, Option.some.injEq] at h
        have := known_den hp hl
        show (!(d.den ρ).b) = t
        rw [this, h]
    | _ => exact look_den hp.1 h
  | .bin o a b, t, h => by
    have iha := @known_den pc ρ hp a
    have ihb := @known_den pc ρ hp b
    have hd : ((lin pc.fs b).sub (lin pc.fs a)).val ρ = (b.den ρ).i - (a.den ρ).i := by rw [LF.sub_val, lin_val hp.2, lin_val hp.2]
    cases o with
    | le =>
      unfold known at h
      split at h
      · rename_i u hu
        cases h
        exact look_den hp.1 hu
      · unfold sureLe at h
        show decide ((a.den ρ).i ≤ (b.den ρ).i) = t
        cases h1 : prove pc.fs ((lin pc.fs b).sub (lin pc.fs a)) with
        | true =>
          rw [h1] at h
          cases h
          have := prove_ok hp.2 h1
          rw [hd] at this
          exact decide_eq_true (by omega)
        | false =>
          rw [h1] at h
          simp only [cond_false] at h
          cases h2 : prove pc.fs ((((lin pc.fs b).sub (lin pc.fs a)).scl (-1)).plus (-1)) with
          | false => rw [h2] at h; cases h
          | true =>
            rw [h2] at h
            cases h
            have := prove_ok hp.2 h2
            rw [LF.plus_val, LF.scl_val, hd] at this
            exact decide_eq_false (by omega)
    | eq =>
      unfold known at h
      split at h
      · rename_i u hu
        cases h
        exact look_den hp.1 hu
      · unfold sureEq at h
        show decide ((a.den ρ).i = (b.den ρ).i) = t
        cases h1 : (prove pc.fs (((lin pc.fs b).sub (lin pc.fs a)).plus (-1)) || prove pc.fs ((((lin pc.fs b).sub (lin pc.fs a)).scl (-1)).plus (-1))) with
        | true =>
          rw [h1] at h
          cases h
          simp only [Bool.or_eq_true] at h1
          refine decide_eq_false ?_
          rcases h1 with h1 | h1
          · have := prove_ok hp.2 h1
            rw [LF.plus_val, hd] at this
            omega
          · have := prove_ok hp.2 h1
            rw [LF.plus_val, LF.scl_val, hd] at this
            omega
        | false =>
          rw [h1] at h
          simp only [cond_false] at h
          cases h2 : (prove pc.fs ((lin pc.fs b).sub (lin pc.fs a)) && prove pc.fs (((lin pc.fs b).sub (lin pc.fs a)).scl (-1))) with
          | false => rw [h2] at h; cases h
          | true =>
            rw [h2] at h
            cases h
            simp only [Bool.and_eq_true] at h2
            have e1 := prove_ok hp.2 h2.1
            have e2 := prove_ok hp.2 h2.2
            rw [hd] at e1
            rw [LF.scl_val, hd] at e2
            exact decide_eq_true (by omega)
    | and =>
      unfold known at h
      show ((a.den ρ).b && (b.den ρ).b) = t
      split at h
      · rename_i h1; cases h; rw [iha h1]; rfl
      · rename_i h1 _; cases h; rw [ihb h1]; simp
      · rename_i h1 h2; cases h; rw [iha h1, ihb h2]; rfl
      · exact look_den hp.1 h
    | or =>
      unfold known at h
      show ((a.den ρ).b || (b.den ρ).b) = t
      split at h
      · rename_i h1; cases h; rw [iha h1]; rfl
      · rename_i h1 _; cases h; rw [ihb h1]; simp
      · rename_i h1 h2; cases h; rw [iha h1, ihb h2]; rfl
      · exact look_den hp.1 h
    | _ => exact look_den hp.1 h
/-- What a condition adds to the sums. -/
def facts (fs : List LF) (c : SE) (t : Bool) : List LF :=
  match c with
  | .un .not d => facts fs d (!t)
  | .bin .le a b => let d := (lin fs b).sub (lin fs a); (if t then d else (d.scl (-1)).plus (-1)) :: fs
  | .bin .eq a b =>
    let d := (lin fs b).sub (lin fs a)
    if t then d :: d.scl (-1) :: fs
    else bif prove fs d then d.plus (-1) :: fs else bif prove fs (d.scl (-1)) then (d.scl (-1)).plus (-1) :: fs else fs
  | .bin .and a b => if t then facts (facts fs a true) b true else fs
  | .bin .or a b => if t then fs else facts (facts fs a false) b false
  | _ => fs
theorem facts_ok {ρ : Env} : ∀ {c : SE} {t : Bool} {fs : List LF}, Facts ρ fs → (c.den ρ).b = t → Facts ρ (facts fs c t)
  | .bool b, t, fs, h, hc => h
  | .var i, t, fs, h, hc => h
  | .int n, t, fs, h, hc => h
  | .str s, t, fs, h, hc => h
  | .nil, t, fs, h, hc => h
  | .tri o a b c, t, fs, h, hc => h
  | .un o d, t, fs, h, hc => by
    cases o with
    | not =>
      have hc : (!(d.den ρ).b) = t := hc
      exact facts_ok (c := d) h (by rw [← hc]; simp)
    | _ => exact h
  | .bin o a b, t, fs, h, hc => by
    have iha := @facts_ok ρ a
    have ihb := @facts_ok ρ b
    have hd : ((lin fs b).sub (lin fs a)).val ρ = (b.den ρ).i - (a.den ρ).i := by rw [LF.sub_val, lin_val h, lin_val h]
    have cons : ∀ f, 0 ≤ f.val ρ → ∀ {gs}, Facts ρ gs → Facts ρ (f :: gs) := fun f hf gs hg g hm => by
      rcases List.mem_cons.1 hm with e | hm
      · rw [e]; exact hf
      · exact hg g hm
    cases o with
    | le =>
      have hc : decide ((a.den ρ).i ≤ (b.den ρ).i) = t := hc
      unfold facts
      simp only
      refine cons _ ?_ h
      cases t with
      | true => simp only [if_true]; rw [hd]; have := of_decide_eq_true hc; omega
      | false => simp only [Bool.false_eq_true, if_false]; rw [LF.plus_val, LF.scl_val, hd]; have := of_decide_eq_false hc; omega
    | eq =>
      have hc : decide ((a.den ρ).i = (b.den ρ).i) = t := hc
      unfold facts
      simp only
      cases t with
      | true =>
        have := of_decide_eq_true hc
        simp only [if_true]
        refine cons _ (by rw [hd]; omega) (cons _ (by rw [LF.scl_val, hd]; omega) h)
      | false =>
        have hne := of_decide_eq_false hc
        simp only [Bool.false_eq_true, if_false]
        cases h1 : prove fs ((lin fs b).sub (lin fs a)) with
        | true =>
          have := prove_ok h h1
          rw [hd] at this
          exact cons _ (by rw [LF.plus_val, hd]; omega) h
        | false =>
          simp only [cond_false]
          cases h2 : prove fs (((lin fs b).sub (lin fs a)).scl (-1)) with
          | true =>
            have := prove_ok h h2
            rw [LF.scl_val, hd] at this
            exact cons _ (by rw [LF.plus_val, LF.scl_val, hd]; omega) h
          | false => exact h
    | and =>
      have hc : ((a.den ρ).b && (b.den ρ).b) = t := hc
      unfold facts
      cases t with
      | true =>
        simp only [Bool.and_eq_true] at hc
        exact ihb (iha h hc.1) hc.2
      | false => exact h
    | or =>
      have hc : ((a.den ρ).b || (b.den ρ).b) = t := hc
      unfold facts
      cases t with
      | true => exact h
      | false =>
        simp only [Bool.or_eq_false_iff] at hc
        exact ihb (iha h hc.1) hc.2
    | _ => exact h
/-- A path's condition, laid with its negations taken off. -/
def layC (cs : List (SE × Bool)) (c : SE) (t : Bool) : List (SE × Bool) :=
  match c with
  | .un .not d => (d, !t) :: cs
  | .bin .and a b => if t then (a, true) :: (b, true) :: (c, t) :: cs else (c, t) :: cs
  | c => (c, t) :: cs
def lay (pc : PC) (c : SE) (t : Bool) : PC := ⟨layC pc.cs c t, facts pc.fs c t⟩
theorem layC_holds {pc : List (SE × Bool)} {c : SE} {t : Bool} {ρ : Env} (hp : ∀ p ∈ pc, (p.1.den ρ).b = p.2) (h : (c.den ρ).b = t) : ∀ p ∈ layC pc c t, (p.1.den ρ).b = p.2 := by
  unfold layC
  split
  · rename_i d
    intro p hm
    rcases List.mem_cons.1 hm with rfl | hm
    · have h' : (!(d.den ρ).b) = t := h
      simp [← h']
    · exact hp p hm
  · rename_i a b
    have hab : ((a.den ρ).b && (b.den ρ).b) = t := h
    split
    · rename_i ht
      subst ht
      simp at hab
      intro p hm
      rcases List.mem_cons.1 hm with rfl | hm
      · exact hab.1
      · rcases List.mem_cons.1 hm with rfl | hm
        · exact hab.2
        · rcases List.mem_cons.1 hm with rfl | hm
          · exact h
          · exact hp p hm
    · intro p hm
      rcases List.mem_cons.1 hm with rfl | hm
      · exact h
      · exact hp p hm
  · intro p hm
    rcases List.mem_cons.1 hm with rfl | hm
    · exact h
    · exact hp p hm
theorem lay_holds {pc : PC} {c : SE} {t : Bool} {ρ : Env} (hp : holdsAll ρ pc) (h : (c.den ρ).b = t) : holdsAll ρ (lay pc c t) := ⟨layC_holds hp.1 h, facts_ok hp.2 h⟩
end Go.Proofs.Ytbnbljeegghgiaa
