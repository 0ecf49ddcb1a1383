/- Part 1 of a proof: the executor, its soundness, contracts of functions. No condition. -/
import GoSem.Core.View
import GoSem.Op.String
import Derived.IntWalk
import Derived.Laws.Closers25b
import Derived.RowKit
import Derived.Deep.MidRow
section
set_option linter.unusedVariables false
set_option linter.unusedSimpArgs false
namespace Go.Proofs.YtkfjgggiopegbaaDoor
inductive DV where
  | int (n : Int) | bool (b : Bool) | str (s : List UInt8) | list (l : List DV)
def DV.i : DV → Int | .int n => n | _ => 0
def DV.b : DV → Bool | .bool b => b | _ => false
def DV.s : DV → List UInt8 | .str s => s | _ => []
def DV.l : DV → List DV | .list l => l | _ => []
inductive UO where
  | not | len | slen | str8 | bytes | wrap (k : IntKind)
  deriving DecidableEq
inductive BO where
  | add | sub | mul | tdiv | tmod | band (k : IntKind) | bor (k : IntKind) | bxor (k : IntKind) | bandn (k : IntKind) | shl (k : IntKind) | shr (k : IntKind)
  | le | eq | eqb | eqs | slt | and | or | cat | byte | idx | cons | snoc | app | take | drop | stake | sdrop | rep
  deriving DecidableEq
inductive TO where
  | set | ite
  deriving DecidableEq
inductive SE where
  | var (i : Nat) | int (n : Int) | bool (b : Bool) | str (s : List UInt8) | nil
  | un (o : UO) (a : SE) | bin (o : BO) (a b : SE) | tri (o : TO) (a b c : SE)
  | fn (f : Nat) (a : SE)
  deriving DecidableEq
def bytesN (s : List UInt8) : List Int := s.map fun c => (c.toNat : Int)
def evU : UO → DV → DV
  | .not, a => .bool (!a.b)
  | .len, a => .int a.l.length
  | .slen, a => .int a.s.length
  | .str8, a => .str (a.l.map fun d => UInt8.ofNat d.i.toNat)
  | .bytes, a => .list ((bytesN a.s).map .int)
  | .wrap k, a => .int (k.wrap a.i)
def evB : BO → DV → DV → DV
  | .add, a, b => .int (a.i + b.i)
  | .sub, a, b => .int (a.i - b.i)
  | .mul, a, b => .int (a.i * b.i)
  | .tdiv, a, b => .int (a.i.tdiv b.i)
  | .tmod, a, b => .int (a.i.tmod b.i)
  | .band k, a, b => .int (k.wrap (BitVec.ofInt k.bits a.i &&& BitVec.ofInt k.bits b.i).toNat)
  | .bor k, a, b => .int (k.wrap (BitVec.ofInt k.bits a.i ||| BitVec.ofInt k.bits b.i).toNat)
  | .bxor k, a, b => .int (k.wrap (BitVec.ofInt k.bits a.i ^^^ BitVec.ofInt k.bits b.i).toNat)
  | .bandn k, a, b => .int (k.wrap (BitVec.ofInt k.bits a.i &&& ~~~ BitVec.ofInt k.bits b.i).toNat)
  | .shl k, a, b => .int (k.wrap (a.i * 2 ^ (min b.i.toNat k.bits)))
  | .shr k, a, b => .int (a.i.fdiv (2 ^ (min b.i.toNat k.bits)))
  | .le, a, b => .bool (decide (a.i ≤ b.i))
  | .eq, a, b => .bool (decide (a.i = b.i))
  | .eqb, a, b => .bool (a.b == b.b)
  | .eqs, a, b => .bool (decide (a.s = b.s))
  | .slt, a, b => .bool (Op.bytesLess a.s b.s)
  | .and, a, b => .bool (a.b && b.b)
  | .or, a, b => .bool (a.b || b.b)
  | .cat, a, b => .str (a.s ++ b.s)
  | .byte, a, b => .int (a.s[b.i.toNat]?.getD 0).toNat
  | .idx, a, b => a.l[b.i.toNat]?.getD (.int 0)
  | .cons, a, b => .list (a :: b.l)
  | .snoc, a, b => .list (a.l ++ [b])
  | .app, a, b => .list (a.l ++ b.l)
  | .take, a, b => .list (a.l.take b.i.toNat)
  | .drop, a, b => .list (a.l.drop b.i.toNat)
  | .stake, a, b => .str (a.s.take b.i.toNat)
  | .sdrop, a, b => .str (a.s.drop b.i.toNat)
  | .rep, a, b => .list (List.replicate a.i.toNat b)
def evT : TO → DV → DV → DV → DV
  | .set, a, b, c => .list (a.l.set b.i.toNat c)
  | .ite, a, b, c => if a.b then b else c
structure Fs where
  f : Nat → DV → DV
  np : Nat
instance : CoeFun Fs (fun _ => Nat → DV → DV) := ⟨Fs.f⟩
structure Env where
  v : Nat → DV
  f : Fs
instance : CoeFun Env (fun _ => Nat → DV) := ⟨Env.v⟩
def SE.den (ρ : Env) : SE → DV
  | .var i => ρ.v i
  | .fn f a => ρ.f f (a.den ρ)
  | .int n => .int n
  | .bool b => .bool b
  | .str s => .str s
  | .nil => .list []
  | .un o a => evU o (a.den ρ)
  | .bin o a b => evB o (a.den ρ) (b.den ρ)
  | .tri o a b c => evT o (a.den ρ) (b.den ρ) (c.den ρ)
def SE.lit? : SE → Option DV
  | .int n => some (.int n)
  | .bool b => some (.bool b)
  | .str s => some (.str s)
  | _ => none
def DV.se? : DV → Option SE
  | .int n => some (.int n)
  | .bool b => some (.bool b)
  | .str s => some (.str s)
  | _ => none
theorem SE.lit?_den {a : SE} {v : DV} (h : a.lit? = some v) (ρ : Env) : a.den ρ = v := by
  cases a <;> simp [SE.lit?] at h <;> subst h <;> rfl
theorem DV.se?_den {v : DV} {a : SE} (h : v.se? = some a) (ρ : Env) : a.den ρ = v := by
  cases v <;> simp [DV.se?] at h <;> subst h <;> rfl
def SE.lv : SE → Option DV
  | .int n => some (.int n)
  | .bool b => some (.bool b)
  | .str s => some (.str s)
  | .nil => some (.list [])
  | .bin .cons a b => (match a.lv, b.lv with | some x, some (.list l) => some (.list (x :: l)) | _, _ => none)
  | _ => none
theorem SE.lv_den (ρ : Env) : ∀ {e : SE} {d : DV}, e.lv = some d → e.den ρ = d
  | .int n, d, h => by cases h; rfl
  | .bool n, d, h => by cases h; rfl
  | .str n, d, h => by cases h; rfl
  | .nil, d, h => by cases h; rfl
  | .var _, d, h => by cases h
  | .un _ _, d, h => by cases h
  | .fn _ _, d, h => by cases h
  | .tri _ _ _ _, d, h => by cases h
  | .bin o a b, d, h => by
    cases o with
    | cons =>
      unfold SE.lv at h
      split at h
      · rename_i x l h1 h2
        cases h
        show evB .cons (a.den ρ) (b.den ρ) = _
        rw [SE.lv_den ρ h1, SE.lv_den ρ h2]; rfl
      · cases h
    | _ => cases h
mutual
def DV.se : DV → SE
  | .int n => .int n
  | .bool b => .bool b
  | .str s => .str s
  | .list l => DV.ses l
def DV.ses : List DV → SE
  | [] => .nil
  | d :: r => .bin .cons (DV.se d) (DV.ses r)
end
mutual
theorem DV.se_den (ρ : Env) : ∀ d : DV, (DV.se d).den ρ = d
  | .int n => by simp [DV.se, SE.den]
  | .bool b => by simp [DV.se, SE.den]
  | .str s => by simp [DV.se, SE.den]
  | .list l => by simp only [DV.se]; exact DV.ses_den ρ l
theorem DV.ses_den (ρ : Env) : ∀ l : List DV, (DV.ses l).den ρ = .list l
  | [] => by simp [DV.ses, SE.den]
  | d :: r => by simp only [DV.ses, SE.den, DV.se_den ρ d, DV.ses_den ρ r, evB, DV.l]
end
def SE.isB : SE → Bool
  | .bool _ | .un .not _ => true
  | .bin o _ _ => (match o with | .le | .eq | .eqb | .eqs | .slt | .and | .or => true | _ => false)
  | _ => false
theorem SE.isB_den {a : SE} (h : a.isB = true) (ρ : Env) : a.den ρ = .bool (a.den ρ).b := by
  unfold SE.isB at h
  split at h
  · rfl
  · rfl
  · split at h <;> first | rfl | cases h
  · cases h
def simpB (o : BO) (a b : SE) : SE :=
  match o with
  | .le => if a = b then .bool true else .bin o a b
  | .eq => if a = b then .bool true else .bin o a b
  | .eqs => if a = b then .bool true else .bin o a b
  | .and => if a = .bool true ∧ b.isB = true then b else if b = .bool true ∧ a.isB = true then a else if a = .bool false then .bool false else if b = .bool false then .bool false else .bin o a b
  | .or => if a = .bool true then .bool true else if b = .bool true then .bool true else if a = .bool false ∧ b.isB = true then b else if b = .bool false ∧ a.isB = true then a else .bin o a b
  | .idx => (match a.lv, b with
    | some (.list l), .int n => DV.se ((l[n.toNat]?).getD (.int 0))
    | _, _ => match a, b with
    | .bin .cons x y, .int (.ofNat n) => (match n with | 0 => x | m + 1 => (match y, m with | .bin .cons z _, 0 => z | _, _ => .bin .idx y (.int (.ofNat m))))
    | _, _ => .bin o a b)
  | .take => (match a.lv, b with | some (.list l), .int n => DV.ses (l.take n.toNat) | _, _ => .bin o a b)
  | .drop => (match a.lv, b with | some (.list l), .int n => DV.ses (l.drop n.toNat) | _, _ => .bin o a b)
  | .snoc => (match a.lv, b.lv with | some (.list l), some d => DV.ses (l ++ [d]) | _, _ => .bin o a b)
  | .rep => (match a, b.lv with | .int n, some d => bif Nat.ble n.toNat 1000 then DV.ses (List.replicate n.toNat d) else .bin o a b | _, _ => .bin o a b)
  | .app => (match a.lv, b.lv with | some (.list l), some (.list m) => DV.ses (l ++ m) | _, _ => .bin o a b)
  | _ => .bin o a b
def mkB (o : BO) (a b : SE) : SE :=
  match a.lit?, b.lit? with
  | some v, some w => (match (evB o v w).se? with | some e => e | none => simpB o a b)
  | _, _ => simpB o a b
def setE (a b c : SE) : SE := match a.lv, b, c.lv with | some (.list l), .int n, some v => DV.ses (l.set n.toNat v) | _, _, _ => .tri .set a b c
theorem setE_den (a b c : SE) (ρ : Env) : (setE a b c).den ρ = evT .set (a.den ρ) (b.den ρ) (c.den ρ) := by
  unfold setE
  split
  · rename_i l n v hl hv
    rw [DV.ses_den, SE.lv_den ρ hl, SE.lv_den ρ hv]; rfl
  · rfl
def mkT (o : TO) (a b c : SE) : SE := match o, a with | .ite, .bool true => b | .ite, .bool false => c | .set, a => setE a b c | _, _ => .tri o a b c
theorem simpB_den (o : BO) (a b : SE) (ρ : Env) : (simpB o a b).den ρ = evB o (a.den ρ) (b.den ρ) := by
  unfold simpB
  split
  · split
    · subst_vars; simp [SE.den, evB]
    · rfl
  · split
    · subst_vars; simp [SE.den, evB]
    · rfl
  · split
    · subst_vars; simp [SE.den, evB]
    · rfl
  · split
    · rename_i h; rw [h.1, SE.isB_den h.2 ρ]; simp [SE.den, evB, DV.b]
    · split
      · rename_i h; rw [h.1, SE.isB_den h.2 ρ]; simp [SE.den, evB, DV.b]
      · split
        · subst_vars; simp [SE.den, evB, DV.b]
        · split
          · subst_vars; simp [SE.den, evB, DV.b]
          · rfl
  · split
    · subst_vars; simp [SE.den, evB, DV.b]
    · split
      · subst_vars; simp [SE.den, evB, DV.b]
      · split
        · rename_i h; rw [h.1, SE.isB_den h.2 ρ]; simp [SE.den, evB, DV.b]
        · split
          · rename_i h; rw [h.1, SE.isB_den h.2 ρ]; simp [SE.den, evB, DV.b]
          · rfl
  · split
    · rename_i l n hl
      rw [DV.se_den]
      show _ = ((a.den ρ).l[n.toNat]?).getD (.int 0)
      rw [SE.lv_den ρ hl]; rfl
    · split
      · split
        · simp [SE.den, evB, DV.l, DV.i]
        · split
          · simp [SE.den, evB, DV.l, DV.i]
          · simp [SE.den, evB, DV.l, DV.i]
      · rfl
  · split
    · rename_i l n hl
      rw [DV.ses_den, SE.lv_den ρ hl]; rfl
    · rfl
  · split
    · rename_i l n hl
      rw [DV.ses_den, SE.lv_den ρ hl]; rfl
    · rfl
  · split
    · rename_i l m hl hm
      rw [DV.ses_den]
      show _ = DV.list ((a.den ρ).l ++ [b.den ρ])
      rw [SE.lv_den ρ hl, SE.lv_den ρ hm]; rfl
    · rfl
  · split
    · rename_i n d hd
      cases Nat.ble n.toNat 1000 with
      | true => simp only [cond_true]; rw [DV.ses_den]; show _ = DV.list (List.replicate n.toNat (b.den ρ)); rw [SE.lv_den ρ hd]
      | false => rfl
    · rfl
  · split
    · rename_i l m hl hm
      rw [DV.ses_den, SE.lv_den ρ hl, SE.lv_den ρ hm]; rfl
    · rfl
  · rfl
theorem mkB_den (o : BO) (a b : SE) (ρ : Env) : (mkB o a b).den ρ = evB o (a.den ρ) (b.den ρ) := by
  unfold mkB
  split
  · rename_i v w hv hw
    rw [SE.lit?_den hv ρ, SE.lit?_den hw ρ]
    cases h : (evB o v w).se? with
    | none => simp only; rw [simpB_den, SE.lit?_den hv ρ, SE.lit?_den hw ρ]
    | some e => exact DV.se?_den h ρ
  · exact simpB_den o a b ρ
def lenE : SE → SE
  | .nil => .int 0
  | .bin .snoc a _ => mkB .add (lenE a) (.int 1)
  | .bin .cons _ a => mkB .add (lenE a) (.int 1)
  | .bin .app a b => mkB .add (lenE a) (lenE b)
  | .tri .set a _ _ => lenE a
  | .un .bytes a => .un .slen a
  | e => .un .len e
theorem lenE_den (ρ : Env) : ∀ e : SE, ((lenE e).den ρ).i = ((e.den ρ).l.length : Int)
  | .nil => rfl
  | .var _ => rfl
  | .int _ => rfl
  | .bool _ => rfl
  | .str _ => rfl
  | .un o a => by
    cases o with
    | bytes => show ((a.den ρ).s.length : Int) = (((bytesN (a.den ρ).s).map DV.int).length : Int); rw [List.length_map, bytesN, List.length_map]
    | _ => unfold lenE; rfl
  | .fn _ _ => rfl
  | .bin o a b => by
    cases o with
    | snoc => have := lenE_den ρ a; simp only [lenE, mkB_den, evB, DV.i, SE.den, DV.l] at this ⊢; rw [this]; simp
    | cons => have := lenE_den ρ b; simp only [lenE, mkB_den, evB, DV.i, SE.den, DV.l] at this ⊢; rw [this]; simp
    | app => have h1 := lenE_den ρ a; have h2 := lenE_den ρ b; simp only [lenE, mkB_den, evB, DV.i, SE.den, DV.l] at h1 h2 ⊢; rw [h1, h2]; simp
    | _ => unfold lenE; rfl
  | .tri o a b c => by
    cases o with
    | set => have := lenE_den ρ a; simp only [lenE, SE.den, evT, DV.l] at this ⊢; rw [this]; simp
    | ite => unfold lenE; rfl
theorem lenE_dv (ρ : Env) : ∀ e : SE, (lenE e).den ρ = .int ((e.den ρ).l.length : Int)
  | .nil => rfl
  | .var _ => rfl
  | .int _ => rfl
  | .bool _ => rfl
  | .str _ => rfl
  | .un o a => by
    cases o with
    | bytes => show DV.int ((a.den ρ).s.length : Int) = DV.int (((bytesN (a.den ρ).s).map DV.int).length : Int); rw [List.length_map, bytesN, List.length_map]
    | _ => unfold lenE; rfl
  | .fn _ _ => rfl
  | .bin o a b => by
    cases o with
    | snoc => have := lenE_dv ρ a; simp only [lenE, mkB_den, evB, DV.i, SE.den, DV.l] at this ⊢; rw [this]; simp
    | cons => have := lenE_dv ρ b; simp only [lenE, mkB_den, evB, DV.i, SE.den, DV.l] at this ⊢; rw [this]; simp
    | app => have h1 := lenE_dv ρ a; have h2 := lenE_dv ρ b; simp only [lenE, mkB_den, evB, DV.i, SE.den, DV.l] at h1 h2 ⊢; rw [h1, h2]; simp
    | _ => unfold lenE; rfl
  | .tri o a b c => by
    cases o with
    | set => have := lenE_dv ρ a; simp only [lenE, SE.den, evT, DV.l] at this ⊢; rw [this]; simp
    | ite => unfold lenE; rfl
def bytesE : List UInt8 → SE
  | [] => .nil
  | c :: r => .bin .cons (.int (c.toNat : Int)) (bytesE r)
theorem bytesE_den (ρ : Env) : ∀ s : List UInt8, (bytesE s).den ρ = .list ((bytesN s).map .int)
  | [] => rfl
  | c :: r => by
    show evB .cons (.int (c.toNat : Int)) ((bytesE r).den ρ) = _
    rw [bytesE_den ρ r]
    rfl
def lenL (e : SE) : SE := match e.lv with | some (.list l) => .int l.length | _ => .un .len e
theorem lenL_den (e : SE) (ρ : Env) : (lenL e).den ρ = .int ((e.den ρ).l.length : Int) := by
  unfold lenL
  split
  · rename_i l hl
    rw [SE.lv_den ρ hl]; rfl
  · rfl
def simpU (o : UO) (a : SE) : SE :=
  match o, a with
  | .not, .un .not b => match b with | .bin .le x y => .bin .le x y | .bin .eq x y => .bin .eq x y | .bin .eqs x y => .bin .eqs x y | _ => .un .not a
  | .len, .nil => .int 0
  | .len, .un .bytes b => .un .slen b
  | .len, b => lenL b
  | .bytes, .str s => bytesE s
  | .slen, .un .str8 b => lenE b
  | .str8, b => (match b.lv with | some (.list l) => .str (l.map fun d => UInt8.ofNat d.i.toNat) | _ => .un .str8 b)
  | _, _ => .un o a
def mkU (o : UO) (a : SE) : SE :=
  match a.lit? with
  | some v => (match (evU o v).se? with | some e => e | none => simpU o a)
  | none => simpU o a
theorem simpU_den (o : UO) (a : SE) (ρ : Env) : (simpU o a).den ρ = evU o (a.den ρ) := by
  unfold simpU
  split
  · split <;> simp [SE.den, evU, evB, DV.b]
  · simp [SE.den, evU, DV.l]
  · rename_i b
    show DV.int ((b.den ρ).s.length : Int) = DV.int (((bytesN (b.den ρ).s).map DV.int).length : Int)
    rw [List.length_map, bytesN, List.length_map]
  · exact lenL_den _ ρ
  · exact bytesE_den ρ _
  · rename_i b
    show (lenE b).den ρ = .int ((b.den ρ).l.map _).length
    rw [List.length_map, lenE_dv]
  · rename_i b
    split
    · rename_i l hl
      rw [SE.lv_den ρ hl]; rfl
    · rfl
  · rfl
theorem mkU_den (o : UO) (a : SE) (ρ : Env) : (mkU o a).den ρ = evU o (a.den ρ) := by
  unfold mkU
  split
  · rename_i v hv
    cases h : (evU o v).se? with
    | none => exact simpU_den o a ρ
    | some e => rw [SE.lit?_den hv ρ]; exact DV.se?_den h ρ
  · exact simpU_den o a ρ
theorem mkT_den (o : TO) (a b c : SE) (ρ : Env) : (mkT o a b c).den ρ = evT o (a.den ρ) (b.den ρ) (c.den ρ) := by
  unfold mkT
  split
  · simp [SE.den, evT, DV.b]
  · simp [SE.den, evT, DV.b]
  · exact setE_den _ _ _ ρ
  · rfl
def SE.sc (nv : Nat) : SE → Bool
  | .var i => Nat.blt i nv
  | .un _ a => a.sc nv
  | .bin _ a b => a.sc nv && b.sc nv
  | .tri _ a b c => a.sc nv && (b.sc nv && c.sc nv)
  | .fn _ a => a.sc nv
  | _ => true
def Agree (nv : Nat) (ρ ρ' : Env) : Prop := (∀ i, i < nv → ρ' i = ρ i) ∧ ρ'.f = ρ.f
theorem SE.sc_den {nv : Nat} {ρ ρ' : Env} (h : Agree nv ρ ρ') : ∀ {e : SE}, e.sc nv = true → e.den ρ' = e.den ρ
  | .var i, he => h.1 i (Nat.le_of_ble_eq_true he)
  | .int _, _ => rfl
  | .bool _, _ => rfl
  | .str _, _ => rfl
  | .nil, _ => rfl
  | .un o a, he => by simp only [SE.den, SE.sc_den h (e := a) he]
  | .bin o a b, he => by
    simp only [SE.sc, Bool.and_eq_true] at he
    simp only [SE.den, SE.sc_den h he.1, SE.sc_den h he.2]
  | .tri o a b c, he => by
    simp only [SE.sc, Bool.and_eq_true] at he
    simp only [SE.den, SE.sc_den h he.1, SE.sc_den h he.2.1, SE.sc_den h he.2.2]
  | .fn f a, he => by simp only [SE.den, SE.sc_den h (e := a) he, h.2]
theorem Agree.refl (nv : Nat) (ρ : Env) : Agree nv ρ ρ := ⟨fun _ _ => rfl, rfl⟩
theorem Agree.symm {nv : Nat} {ρ ρ' : Env} (h : Agree nv ρ ρ') : Agree nv ρ' ρ := ⟨fun i hi => (h.1 i hi).symm, h.2.symm⟩
theorem Agree.trans {nv : Nat} {a b c : Env} (h : Agree nv a b) (k : Agree nv b c) : Agree nv a c := ⟨fun i hi => (k.1 i hi).trans (h.1 i hi), k.2.trans h.2⟩
theorem Agree.mono {n m : Nat} {a b : Env} (h : Agree n a b) (hm : m ≤ n) : Agree m a b := ⟨fun i hi => h.1 i (Nat.lt_of_lt_of_le hi hm), h.2⟩
def lvs : List SE → Option (List DV)
  | [] => some []
  | e :: r => (match e.lv, lvs r with | some d, some l => some (d :: l) | _, _ => none)
theorem lvs_den (ρ : Env) : ∀ {es : List SE} {ds : List DV}, lvs es = some ds → es.map (·.den ρ) = ds
  | [], ds, h => by cases h; rfl
  | e :: r, ds, h => by
    unfold lvs at h
    split at h
    · rename_i d l h1 h2
      cases h
      rw [List.map_cons, SE.lv_den ρ h1, lvs_den ρ h2]
    · cases h
end Go.Proofs.YtkfjgggiopegbaaDoor
namespace Go.Proofs.YtkfjgggiopegbaaDoor
structure LF where
  c : Int
  ts : List (SE × Int)
def sumT (ρ : Env) : List (SE × Int) → Int
  | [] => 0
  | (a, k) :: r => k * (a.den ρ).i + sumT ρ r
def LF.val (ρ : Env) (f : LF) : Int := f.c + sumT ρ f.ts
def insT (a : SE) (k : Int) : List (SE × Int) → List (SE × Int)
  | [] => [(a, k)]
  | (b, m) :: r => if a = b then (if k + m = 0 then r else (b, k + m) :: r) else (b, m) :: insT a k r
def addT : List (SE × Int) → List (SE × Int) → List (SE × Int)
  | [], y => y
  | (a, k) :: r, y => insT a k (addT r y)
def sclT (n : Int) : List (SE × Int) → List (SE × Int)
  | [] => []
  | (a, k) :: r => (a, n * k) :: sclT n r
def LF.add (x y : LF) : LF := ⟨x.c + y.c, addT x.ts y.ts⟩
def LF.scl (n : Int) (x : LF) : LF := if n = 0 then ⟨0, []⟩ else ⟨n * x.c, sclT n x.ts⟩
def LF.sub (x y : LF) : LF := x.add (y.scl (-1))
def LF.plus (x : LF) (n : Int) : LF := ⟨x.c + n, x.ts⟩
theorem insT_sum (ρ : Env) (a : SE) (k : Int) : ∀ l, sumT ρ (insT a k l) = k * (a.den ρ).i + sumT ρ l
  | [] => rfl
  | (b, m) :: r => by
    unfold insT
    split
    · rename_i e
      subst e
      split
      · rename_i h0
        have : m = -k := by omega
        subst this
        simp only [sumT, Int.neg_mul]
        omega
      · simp only [sumT, Int.add_mul]
        omega
    · simp only [sumT, insT_sum ρ a k r]
      omega
theorem addT_sum (ρ : Env) : ∀ x y, sumT ρ (addT x y) = sumT ρ x + sumT ρ y
  | [], y => by simp [addT, sumT]
  | (a, k) :: r, y => by simp only [addT, insT_sum, addT_sum ρ r y, sumT]; omega
theorem sclT_sum (ρ : Env) (n : Int) : ∀ x, sumT ρ (sclT n x) = n * sumT ρ x
  | [] => by simp [sclT, sumT]
  | (a, k) :: r => by simp only [sclT, sumT, sclT_sum ρ n r, Int.mul_add, Int.mul_assoc]
theorem LF.add_val (ρ : Env) (x y : LF) : (x.add y).val ρ = x.val ρ + y.val ρ := by simp only [LF.add, LF.val, addT_sum]; omega
theorem LF.scl_val (ρ : Env) (n : Int) (x : LF) : (x.scl n).val ρ = n * x.val ρ := by
  unfold LF.scl
  split
  · rename_i h; subst h; simp [LF.val, sumT]
  · simp only [LF.val, sclT_sum, Int.mul_add]
theorem LF.sub_val (ρ : Env) (x y : LF) : (x.sub y).val ρ = x.val ρ - y.val ρ := by simp only [LF.sub, LF.add_val, LF.scl_val]; omega
theorem LF.plus_val (ρ : Env) (x : LF) (n : Int) : (x.plus n).val ρ = x.val ρ + n := by simp only [LF.plus, LF.val]; omega
def baseLo : SE → Option Int
  | .un .len _ | .un .slen _ => some 0
  | .un (.wrap k) _ => some k.min
  | _ => none
def baseHi : SE → Option Int
  | .un (.wrap k) _ => some k.max
  | _ => none
def maxO : Option Int → Int → Option Int
  | none, b => some b
  | some a, b => if a ≤ b then some b else some a
def minO : Option Int → Int → Option Int
  | none, b => some b
  | some a, b => if a ≤ b then some a else some b
def atomLo (a : SE) : List LF → Option Int
  | [] => baseLo a
  | ⟨c, [(b, 1)]⟩ :: r => if b = a then maxO (atomLo a r) (-c) else atomLo a r
  | _ :: r => atomLo a r
def atomHi (a : SE) : List LF → Option Int
  | [] => baseHi a
  | ⟨c, [(b, -1)]⟩ :: r => if b = a then minO (atomHi a r) c else atomHi a r
  | _ :: r => atomHi a r
def minT (fs : List LF) : List (SE × Int) → Option Int
  | [] => some 0
  | (a, k) :: r =>
    match minT fs r, (if 0 ≤ k then atomLo a fs else atomHi a fs) with
    | some m, some x => some (k * x + m)
    | _, _ => none
def minL (fs : List LF) (f : LF) : Option Int := match minT fs f.ts with | some m => some (f.c + m) | none => none
def geO : Option Int → Int → Bool
  | some a, b => decide (b ≤ a)
  | none, _ => false
def prove (fs : List LF) (g : LF) : Bool := geO (minL fs g) 0 || fs.any fun f => geO (minL fs (g.sub f)) 0
def Facts (ρ : Env) (fs : List LF) : Prop := ∀ f ∈ fs, 0 ≤ f.val ρ
theorem atomLo_ok {ρ : Env} (a : SE) : ∀ (fs : List LF), Facts ρ fs → ∀ x, atomLo a fs = some x → x ≤ (a.den ρ).i
  | [], h, x, hx => by
    unfold atomLo at hx
    unfold baseLo at hx
    split at hx
    · cases hx; exact Int.natCast_nonneg _
    · cases hx; exact Int.natCast_nonneg _
    · cases hx; exact (wrap_within _ _).1
    · cases hx
  | f :: r, h, x, hx => by
    have ih := atomLo_ok (ρ := ρ) a r (fun g hg => h g (List.mem_cons_of_mem _ hg))
    unfold atomLo at hx
    split at hx
    · rename_i heq; cases heq
    · rename_i c b r' heq
      cases heq
      split at hx
      · rename_i e
        subst e
        have h0 := h _ (List.mem_cons_self ..)
        simp only [LF.val, sumT] at h0
        cases hl : atomLo b r with
        | none => rw [hl] at hx; simp only [maxO, Option.some.injEq] at hx; omega
        | some y =>
          rw [hl] at hx
          have := ih y hl
          simp only [maxO] at hx
          split at hx <;> cases hx <;> omega
      · exact ih x hx
    · rename_i heq; cases heq; exact ih x hx
theorem atomHi_ok {ρ : Env} (a : SE) : ∀ (fs : List LF), Facts ρ fs → ∀ x, atomHi a fs = some x → (a.den ρ).i ≤ x
  | [], h, x, hx => by
    unfold atomHi at hx
    unfold baseHi at hx
    split at hx
    · cases hx; exact (wrap_within _ _).2
    · cases hx
  | f :: r, h, x, hx => by
    have ih := atomHi_ok (ρ := ρ) a r (fun g hg => h g (List.mem_cons_of_mem _ hg))
    unfold atomHi at hx
    split at hx
    · rename_i heq; cases heq
    · rename_i c b r' heq
      cases heq
      split at hx
      · rename_i e
        subst e
        have h0 := h _ (List.mem_cons_self ..)
        simp only [LF.val, sumT] at h0
        cases hl : atomHi b r with
        | none => rw [hl] at hx; simp only [minO, Option.some.injEq] at hx; omega
        | some y =>
          rw [hl] at hx
          have := ih y hl
          simp only [minO] at hx
          split at hx <;> cases hx <;> omega
      · exact ih x hx
    · rename_i heq; cases heq; exact ih x hx
theorem minT_ok {ρ : Env} {fs : List LF} (h : Facts ρ fs) : ∀ (l : List (SE × Int)) (m : Int), minT fs l = some m → m ≤ sumT ρ l
  | [], m, hm => by cases hm; exact Int.le_refl _
  | (a, k) :: r, m, hm => by
    unfold minT at hm
    split at hm
    · rename_i m' x h1 h2
      cases hm
      have ih := minT_ok h r m' h1
      simp only [sumT]
      split at h2
      · rename_i hk
        have := Int.mul_le_mul_of_nonneg_left (atomLo_ok a fs h x h2) hk
        omega
      · rename_i hk
        have := Int.mul_le_mul_of_nonneg_left (atomHi_ok a fs h x h2) (show 0 ≤ -k by omega)
        simp only [Int.neg_mul] at this
        omega
    · cases hm
theorem minL_ok {ρ : Env} {fs : List LF} (h : Facts ρ fs) {f : LF} {b : Int} (hm : geO (minL fs f) b = true) : b ≤ f.val ρ := by
  unfold minL at hm
  split at hm
  · rename_i m h1
    have := minT_ok h _ _ h1
    simp only [geO, decide_eq_true_eq] at hm
    unfold LF.val
    omega
  · cases hm
theorem prove_ok {ρ : Env} {fs : List LF} (h : Facts ρ fs) {g : LF} (hp : prove fs g = true) : 0 ≤ g.val ρ := by
  unfold prove at hp
  simp only [Bool.or_eq_true] at hp
  rcases hp with hp | hp
  · exact minL_ok h hp
  · obtain ⟨f, hf, hg⟩ := List.any_eq_true.1 hp
    have := minL_ok h hg
    rw [LF.sub_val] at this
    have := h f hf
    omega
def wrapOk (fs : List LF) (k : IntKind) (f : LF) : Bool := prove fs (f.plus (-k.min)) && prove fs ((f.scl (-1)).plus k.max)
def mulL (x y : LF) (e : SE) : LF :=
  match x.ts with
  | [] => y.scl x.c
  | _ => match y.ts with
    | [] => x.scl y.c
    | _ => ⟨0, [(e, 1)]⟩
def lin (fs : List LF) (e : SE) : LF :=
  match e with
  | .int n => ⟨n, []⟩
  | .bin .add a b => (lin fs a).add (lin fs b)
  | .bin .sub a b => (lin fs a).sub (lin fs b)
  | .bin .mul a b =>
    mulL (lin fs a) (lin fs b) (.bin .mul a b)
  | .un (.wrap k) a => let f := lin fs a; bif wrapOk fs k f then f else ⟨0, [(.un (.wrap k) a, 1)]⟩
  | e => ⟨0, [(e, 1)]⟩
theorem wrap_in (k : IntKind) (n : Int) (h0 : k.min ≤ n) (h1 : n ≤ k.max) : k.wrap n = n := by
  cases k <;> simp [IntKind.min, IntKind.max, IntKind.wrap, IntKind.bits, IntKind.signed] at * <;> omega
theorem at1 (ρ : Env) (e : SE) : (LF.mk 0 [(e, 1)]).val ρ = (e.den ρ).i := by simp only [LF.val, sumT]; omega
theorem lin_val {ρ : Env} {fs : List LF} (h : Facts ρ fs) : ∀ e : SE, (lin fs e).val ρ = (e.den ρ).i
  | .var i => at1 ρ _
  | .int n => by simp [lin, LF.val, sumT, SE.den, DV.i]
  | .bool b => at1 ρ _
  | .str s => at1 ρ _
  | .nil => at1 ρ _
  | .tri o a b c => at1 ρ _
  | .fn f a => at1 ρ _
  | .un o a => by
    cases o with
    | wrap k =>
      have ih := lin_val h a
      unfold lin
      simp only
      cases hw : wrapOk fs k (lin fs a) with
      | false => exact at1 ρ _
      | true =>
        unfold wrapOk at hw
        simp only [Bool.and_eq_true] at hw
        have h1 := prove_ok h hw.1
        have h2 := prove_ok h hw.2
        rw [LF.plus_val] at h1 h2
        rw [LF.scl_val] at h2
        show (lin fs a).val ρ = k.wrap (a.den ρ).i
        rw [wrap_in k _ (by rw [← ih]; omega) (by rw [← ih]; omega)]
        exact ih
    | _ => exact at1 ρ _
  | .bin o a b => by
    have iha := lin_val h a
    have ihb := lin_val h b
    cases o with
    | add => show (LF.add _ _).val ρ = _; rw [LF.add_val, iha, ihb]; rfl
    | sub => show (LF.sub _ _).val ρ = _; rw [LF.sub_val, iha, ihb]; rfl
    | mul =>
      show (mulL (lin fs a) (lin fs b) (.bin .mul a b)).val ρ = (a.den ρ).i * (b.den ρ).i
      unfold mulL
      split
      · rename_i h1
        rw [LF.scl_val, ihb, ← iha, LF.val, h1]
        simp [sumT]
      · split
        · rename_i h1
          rw [LF.scl_val, iha, ← ihb, LF.val, h1]
          simp [sumT, Int.mul_comm]
        · exact at1 ρ _
    | _ => exact at1 ρ _
structure PC where
  cs : List (SE × Bool)
  fs : List LF
def holdsAll (ρ : Env) (pc : PC) : Prop := (∀ p ∈ pc.cs, (p.1.den ρ).b = p.2) ∧ Facts ρ pc.fs
def look (pc : List (SE × Bool)) (d : SE) : Option Bool :=
  match pc with
  | [] => none
  | (e, t) :: r => if e = d then some t else look r d
theorem look_den {pc : List (SE × Bool)} {ρ : Env} (hp : ∀ p ∈ pc, (p.1.den ρ).b = p.2) : ∀ {d : SE} {t : Bool}, look pc d = some t → (d.den ρ).b = t := by
  induction pc with
  | nil => intro d t h; simp [look] at h
  | cons p r ih =>
    intro d t h
    obtain ⟨e, u⟩ := p
    unfold look at h
    split at h
    · rename_i he
      subst he
      simp at h
      subst h
      exact hp (e, u) (by simp)
    · exact ih (fun q hq => hp q (by simp [hq])) h
def sureLe (fs : List LF) (d : LF) : Option Bool := bif prove fs d then some true else bif prove fs ((d.scl (-1)).plus (-1)) then some false else none
def sureEq (fs : List LF) (d : LF) : Option Bool :=
  bif prove fs (d.plus (-1)) || prove fs ((d.scl (-1)).plus (-1)) then some false else bif prove fs d && prove fs (d.scl (-1)) then some true else none
def known (pc : PC) (c : SE) : Option Bool :=
  match c with
  | .bool b => some b
  | .un .not d => (known pc d).map (!·)
  | .bin .le a b => (match look pc.cs (.bin .le a b) with | some t => some t | none => sureLe pc.fs ((lin pc.fs b).sub (lin pc.fs a)))
  | .bin .eq a b => (match look pc.cs (.bin .eq a b) with | some t => some t | none => sureEq pc.fs ((lin pc.fs b).sub (lin pc.fs a)))
  | .bin .and a b => (match known pc a, known pc b with
    | some false, _ => some false
    | _, some false => some false
    | some true, some true => some true
    | _, _ => look pc.cs (.bin .and a b))
  | .bin .or a b => (match known pc a, known pc b with
    | some true, _ => some true
    | _, some true => some true
    | some false, some false => some false
    | _, _ => look pc.cs (.bin .or a b))
  | c => look pc.cs c
theorem known_den {pc : PC} {ρ : Env} (hp : holdsAll ρ pc) : ∀ {c : SE} {t : Bool}, known pc c = some t → (c.den ρ).b = t
  | .bool b, t, h => by cases h; rfl
  | .var i, t, h => look_den hp.1 h
  | .int n, t, h => look_den hp.1 h
  | .str s, t, h => look_den hp.1 h
  | .nil, t, h => look_den hp.1 h
  | .tri o a b c, t, h => look_den hp.1 h
  | .fn f a, t, h => look_den hp.1 h
  | .un o d, t, h => by
    cases o with
    | not =>
      have h : (known pc d).map (!·) = some t := h
      cases hl : known pc d with
      | none => rw [hl] at h; cases h
      | some u =>
        rw [hl] at h
        simp only [Option.map_some, Option.some.injEq] at h
        have := known_den hp hl
        show (!(d.den ρ).b) = t
        rw [this, h]
    | _ => exact look_den hp.1 h
  | .bin o a b, t, h => by
    have iha := @known_den pc ρ hp a
    have ihb := @known_den pc ρ hp b
    have hd : ((lin pc.fs b).sub (lin pc.fs a)).val ρ = (b.den ρ).i - (a.den ρ).i := by rw [LF.sub_val, lin_val hp.2, lin_val hp.2]
    cases o with
    | le =>
      unfold known at h
      split at h
      · rename_i u hu
        cases h
        exact look_den hp.1 hu
      · unfold sureLe at h
        show decide ((a.den ρ).i ≤ (b.den ρ).i) = t
        cases h1 : prove pc.fs ((lin pc.fs b).sub (lin pc.fs a)) with
        | true =>
          rw [h1] at h
          cases h
          have := prove_ok hp.2 h1
          rw [hd] at this
          exact decide_eq_true (by omega)
        | false =>
          rw [h1] at h
          simp only [cond_false] at h
          cases h2 : prove pc.fs ((((lin pc.fs b).sub (lin pc.fs a)).scl (-1)).plus (-1)) with
          | false => rw [h2] at h; cases h
          | true =>
            rw [h2] at h
            cases h
            have := prove_ok hp.2 h2
            rw [LF.plus_val, LF.scl_val, hd] at this
            exact decide_eq_false (by omega)
    | eq =>
      unfold known at h
      split at h
      · rename_i u hu
        cases h
        exact look_den hp.1 hu
      · unfold sureEq at h
        show decide ((a.den ρ).i = (b.den ρ).i) = t
        cases h1 : (prove pc.fs (((lin pc.fs b).sub (lin pc.fs a)).plus (-1)) || prove pc.fs ((((lin pc.fs b).sub (lin pc.fs a)).scl (-1)).plus (-1))) with
        | true =>
          rw [h1] at h
          cases h
          simp only [Bool.or_eq_true] at h1
          refine decide_eq_false ?_
          rcases h1 with h1 | h1
          · have := prove_ok hp.2 h1
            rw [LF.plus_val, hd] at this
            omega
          · have := prove_ok hp.2 h1
            rw [LF.plus_val, LF.scl_val, hd] at this
            omega
        | false =>
          rw [h1] at h
          simp only [cond_false] at h
          cases h2 : (prove pc.fs ((lin pc.fs b).sub (lin pc.fs a)) && prove pc.fs (((lin pc.fs b).sub (lin pc.fs a)).scl (-1))) with
          | false => rw [h2] at h; cases h
          | true =>
            rw [h2] at h
            cases h
            simp only [Bool.and_eq_true] at h2
            have e1 := prove_ok hp.2 h2.1
            have e2 := prove_ok hp.2 h2.2
            rw [hd] at e1
            rw [LF.scl_val, hd] at e2
            exact decide_eq_true (by omega)
    | and =>
      unfold known at h
      show ((a.den ρ).b && (b.den ρ).b) = t
      split at h
      · rename_i h1; cases h; rw [iha h1]; rfl
      · rename_i h1 _; cases h; rw [ihb h1]; simp
      · rename_i h1 h2; cases h; rw [iha h1, ihb h2]; rfl
      · exact look_den hp.1 h
    | or =>
      unfold known at h
      show ((a.den ρ).b || (b.den ρ).b) = t
      split at h
      · rename_i h1; cases h; rw [iha h1]; rfl
      · rename_i h1 _; cases h; rw [ihb h1]; simp
      · rename_i h1 h2; cases h; rw [iha h1, ihb h2]; rfl
      · exact look_den hp.1 h
    | _ => exact look_den hp.1 h
def facts (fs : List LF) (c : SE) (t : Bool) : List LF :=
  match c with
  | .un .not d => facts fs d (!t)
  | .bin .le a b => let d := (lin fs b).sub (lin fs a); (if t then d else (d.scl (-1)).plus (-1)) :: fs
  | .bin .eq a b =>
    let d := (lin fs b).sub (lin fs a)
    if t then d :: d.scl (-1) :: fs
    else bif prove fs d then d.plus (-1) :: fs else bif prove fs (d.scl (-1)) then (d.scl (-1)).plus (-1) :: fs else fs
  | .bin .and a b => if t then facts (facts fs a true) b true else fs
  | .bin .or a b => if t then fs else facts (facts fs a false) b false
  | _ => fs
theorem facts_ok {ρ : Env} : ∀ {c : SE} {t : Bool} {fs : List LF}, Facts ρ fs → (c.den ρ).b = t → Facts ρ (facts fs c t)
  | .bool b, t, fs, h, hc => h
  | .var i, t, fs, h, hc => h
  | .int n, t, fs, h, hc => h
  | .str s, t, fs, h, hc => h
  | .nil, t, fs, h, hc => h
  | .tri o a b c, t, fs, h, hc => h
  | .fn f a, t, fs, h, hc => h
  | .un o d, t, fs, h, hc => by
    cases o with
    | not =>
      have hc : (!(d.den ρ).b) = t := hc
      exact facts_ok (c := d) h (by rw [← hc]; simp)
    | _ => exact h
  | .bin o a b, t, fs, h, hc => by
    have iha := @facts_ok ρ a
    have ihb := @facts_ok ρ b
    have hd : ((lin fs b).sub (lin fs a)).val ρ = (b.den ρ).i - (a.den ρ).i := by rw [LF.sub_val, lin_val h, lin_val h]
    have cons : ∀ f, 0 ≤ f.val ρ → ∀ {gs}, Facts ρ gs → Facts ρ (f :: gs) := fun f hf gs hg g hm => by
      rcases List.mem_cons.1 hm with e | hm
      · rw [e]; exact hf
      · exact hg g hm
    cases o with
    | le =>
      have hc : decide ((a.den ρ).i ≤ (b.den ρ).i) = t := hc
      unfold facts
      simp only
      refine cons _ ?_ h
      cases t with
      | true => simp only [if_true]; rw [hd]; have := of_decide_eq_true hc; omega
      | false => simp only [Bool.false_eq_true, if_false]; rw [LF.plus_val, LF.scl_val, hd]; have := of_decide_eq_false hc; omega
    | eq =>
      have hc : decide ((a.den ρ).i = (b.den ρ).i) = t := hc
      unfold facts
      simp only
      cases t with
      | true =>
        have := of_decide_eq_true hc
        simp only [if_true]
        refine cons _ (by rw [hd]; omega) (cons _ (by rw [LF.scl_val, hd]; omega) h)
      | false =>
        have hne := of_decide_eq_false hc
        simp only [Bool.false_eq_true, if_false]
        cases h1 : prove fs ((lin fs b).sub (lin fs a)) with
        | true =>
          have := prove_ok h h1
          rw [hd] at this
          exact cons _ (by rw [LF.plus_val, hd]; omega) h
        | false =>
          simp only [cond_false]
          cases h2 : prove fs (((lin fs b).sub (lin fs a)).scl (-1)) with
          | true =>
            have := prove_ok h h2
            rw [LF.scl_val, hd] at this
            exact cons _ (by rw [LF.plus_val, LF.scl_val, hd]; omega) h
          | false => exact h
    | and =>
      have hc : ((a.den ρ).b && (b.den ρ).b) = t := hc
      unfold facts
      cases t with
      | true =>
        simp only [Bool.and_eq_true] at hc
        exact ihb (iha h hc.1) hc.2
      | false => exact h
    | or =>
      have hc : ((a.den ρ).b || (b.den ρ).b) = t := hc
      unfold facts
      cases t with
      | true => exact h
      | false =>
        simp only [Bool.or_eq_false_iff] at hc
        exact ihb (iha h hc.1) hc.2
    | _ => exact h
def layC (cs : List (SE × Bool)) (c : SE) (t : Bool) : List (SE × Bool) :=
  match c with
  | .un .not d => (d, !t) :: cs
  | .bin .and a b => if t then (a, true) :: (b, true) :: (c, t) :: cs else (c, t) :: cs
  | c => (c, t) :: cs
def lay (pc : PC) (c : SE) (t : Bool) : PC := ⟨layC pc.cs c t, facts pc.fs c t⟩
theorem layC_holds {pc : List (SE × Bool)} {c : SE} {t : Bool} {ρ : Env} (hp : ∀ p ∈ pc, (p.1.den ρ).b = p.2) (h : (c.den ρ).b = t) : ∀ p ∈ layC pc c t, (p.1.den ρ).b = p.2 := by
  unfold layC
  split
  · rename_i d
    intro p hm
    rcases List.mem_cons.1 hm with rfl | hm
    · have h' : (!(d.den ρ).b) = t := h
      simp [← h']
    · exact hp p hm
  · rename_i a b
    have hab : ((a.den ρ).b && (b.den ρ).b) = t := h
    split
    · rename_i ht
      subst ht
      simp at hab
      intro p hm
      rcases List.mem_cons.1 hm with rfl | hm
      · exact hab.1
      · rcases List.mem_cons.1 hm with rfl | hm
        · exact hab.2
        · rcases List.mem_cons.1 hm with rfl | hm
          · exact h
          · exact hp p hm
    · intro p hm
      rcases List.mem_cons.1 hm with rfl | hm
      · exact h
      · exact hp p hm
  · intro p hm
    rcases List.mem_cons.1 hm with rfl | hm
    · exact h
    · exact hp p hm
theorem lay_holds {pc : PC} {c : SE} {t : Bool} {ρ : Env} (hp : holdsAll ρ pc) (h : (c.den ρ).b = t) : holdsAll ρ (lay pc c t) := ⟨layC_holds hp.1 h, facts_ok hp.2 h⟩
end Go.Proofs.YtkfjgggiopegbaaDoor
noncomputable section
namespace Go.Proofs.YtkfjgggiopegbaaDoor
open Go.RowKit
inductive CK where
  | int (k : IntKind) | bool | str
  deriving DecidableEq
inductive NK where
  | pl (k : CK) | sub (ks : List CK)
  deriving DecidableEq
inductive AV where
  | any
  | int (k : IntKind) (e : SE) | bool (e : SE) | str (e : SE)
  | nilp | ptr (b o : Nat) | elt (b s : Nat) (i : SE) (j : Nat)
  | nils | sl (b s : Nat) (off len : SE) (cap : Option SE)
  | func (fn : Fn) (first cap : List AV) | nilf
  | iface (t : TypeId) (v : AV) | nili
  | agg (cs : List AV) | tup (vs : List AV)
  | map (b : Nat) | nilm
  | boolu (c : SE)
  | yld (b : Nat)
  | nsl (b s : Nat) (i : SE) (j : Nat) (ks : List CK) (len : SE)
  | nelt (b s : Nat) (i : SE) (j : Nat) (ks : List CK) (x : SE) (c : Nat)
def CK.av : CK → SE → AV
  | .int k, e => .int k e
  | .bool, e => .bool e
  | .str, e => .str e
def NK.av (b s : Nat) (i : SE) (j : Nat) (re : SE) : NK → AV
  | .pl k => k.av (mkB .idx re (.int j))
  | .sub ks => .nsl b s i j ks (mkU .len (mkB .idx re (.int j)))
def bytesOf (s : List UInt8) : ByteArray := ⟨s.toArray⟩
def CK.val : CK → DV → Value
  | .int k, d => .int k d.i
  | .bool, d => .bool d.b
  | .str, d => .string (bytesOf d.s)
def cellD (ks : List CK) (d : DV) (j : Nat) : DV := match ks with | [_] => d | _ => d.l[j]?.getD (.int 0)
def cellE (ks : List CK) (e : SE) (j : Nat) : SE := match ks with | [_] => e | _ => mkB .idx e (.int j)
theorem cellE_den (ks : List CK) (e : SE) (j : Nat) (ρ : Env) : (cellE ks e j).den ρ = cellD ks (e.den ρ) j := by
  unfold cellE cellD
  split
  · rfl
  · rw [mkB_den]; simp [evB, SE.den, DV.i]
inductive Tr where
  | lf | nd (v : Option AV) (l r : Tr)
def Tr.get (t : Tr) : Nat → Option AV :=
  Tr.rec (motive := fun _ => Nat → Option AV) (fun _ => none) (fun v _ _ gl gr n => Nat.rec (motive := fun _ => Option AV) v (fun m _ => Bool.rec (motive := fun _ => Option AV) (gr (Nat.div m 2)) (gl (Nat.div m 2)) (Nat.beq (Nat.mod m 2) 0)) n) t
theorem rec_cond {α : Type} (f t : α) (b : Bool) : Bool.rec (motive := fun _ => α) f t b = bif b then t else f := by cases b <;> rfl
theorem Tr.get_lf0 (n : Nat) : Tr.lf.get n = none := by first | rfl | (unfold Tr.get; rfl)
theorem Tr.get_0 (v : Option AV) (l r : Tr) : (Tr.nd v l r).get 0 = v := by first | rfl | (unfold Tr.get; rfl)
theorem Tr.get_s (v : Option AV) (l r : Tr) (m : Nat) : (Tr.nd v l r).get (m + 1) = bif Nat.beq (m % 2) 0 then l.get (m / 2) else r.get (m / 2) := by first | rfl | exact rec_cond _ _ _
theorem Tr.get_eq (v : Option AV) (l r : Tr) (n : Nat) : (Tr.nd v l r).get n = match n with
    | 0 => v
    | m + 1 => bif Nat.beq (m % 2) 0 then l.get (m / 2) else r.get (m / 2) := by
  cases n with
  | zero => exact Tr.get_0 v l r
  | succ m => exact Tr.get_s v l r m
inductive JK where
  | no | ret | exit (i : Nat)
  deriving DecidableEq
def JK.code : JK → Option Code
  | .no => none
  | .ret => some .ret
  | .exit i => some (.exit i)
structure Rl where
  tm : Tr
  n : Nat
  ps : Array Tmp
  asg : Code
  body : Code
inductive Ob where
  | cells (cs : List AV)
  | rows (ks : List CK) (e : SE)
  | ro (ks : List CK) (e : SE)
  | roc (cs : List AV)
  | map (es : List (AV × AV))
  | lp (st : LoopState) (j : JK) (R : Rl)
  | dfb
  | nrows (ns : List NK) (e : SE)
  | nro (ns : List NK) (e : SE)
def Ob.own : Ob → Bool
  | .ro .. | .roc _ | .nro .. => false
  | _ => true
structure GI where
  blk : Nat
  off : Nat
  sz : Nat
  lp : Loop
def GI.hd (g : GI) (q : Nat) : Option Value := g.lp.tmps[q]?
abbrev Gh := Nat → Option GI
def Gh.le (G G' : Gh) : Prop := ∀ b g, G b = some g → G' b = some g
theorem Gh.le_refl (G : Gh) : G.le G := fun _ _ h => h
theorem Gh.le_trans {A B C : Gh} (h : A.le B) (k : B.le C) : A.le C := fun b g x => k b g (h b g x)
def Gh.add (G : Gh) (b : Nat) (g : GI) : Gh := fun x => if x = b then some g else G x
theorem Gh.le_add {G : Gh} {b : Nat} {g : GI} (h : G b = none) : G.le (G.add b g) := fun x y hx => by
  unfold Gh.add
  split
  · rename_i e; subst e; rw [h] at hx; cases hx
  · exact hx
inductive VR (ρ : Env) (G : Gh) : AV → Value → Prop where
  | any (v : Value) : VR ρ G .any v
  | int (k : IntKind) (e : SE) (n : Int) : n = (e.den ρ).i → VR ρ G (.int k e) (.int k n)
  | bool (e : SE) (b : Bool) : b = (e.den ρ).b → VR ρ G (.bool e) (.bool b)
  | str (e : SE) (s : ByteArray) : s = bytesOf (e.den ρ).s → VR ρ G (.str e) (.string s)
  | nilp : VR ρ G .nilp (.pointer none)
  | ptr (b o : Nat) (g : GI) (a : Addr) : G b = some g → a = ⟨g.blk, g.off + o, none⟩ → VR ρ G (.ptr b o) (.pointer (some a))
  | elt (b s : Nat) (i : SE) (j : Nat) (g : GI) (a : Addr) : G b = some g → a = ⟨g.blk, g.off + (i.den ρ).i.toNat * s + j, none⟩ → VR ρ G (.elt b s i j) (.pointer (some a))
  | nils : VR ρ G .nils (.slice none 0 0)
  | sl (b s : Nat) (off len : SE) (cap : Option SE) (g : GI) (a : Option Addr) (n c : Nat) : G b = some g → (len.den ρ).i = n → 0 ≤ (off.den ρ).i → n ≤ c → (∀ e, cap = some e → (e.den ρ).i = c) →
      (0 < c → a = some ⟨g.blk, g.off + (off.den ρ).i.toNat * s, none⟩) → ((off.den ρ).i.toNat + c) * s ≤ g.sz → VR ρ G (.sl b s off len cap) (.slice a n c)
  | func (fn : Fn) (first cap : List AV) (vf vc : Array Value) : vf.size = first.length → vc.size = cap.length → (∀ (i : Nat) (a : AV) (v : Value), first[i]? = some a → vf[i]? = some v → VR ρ G a v) → (∀ (i : Nat) (a : AV) (v : Value), cap[i]? = some a → vc[i]? = some v → VR ρ G a v) →
      VR ρ G (.func fn first cap) (.func fn vf vc)
  | nilf : VR ρ G .nilf .nilFunc
  | iface (t : TypeId) (a : AV) (v : Value) : VR ρ G a v → VR ρ G (.iface t a) (.iface t v)
  | nili : VR ρ G .nili .nilIface
  | agg (cs : List AV) (vs : Array Value) : vs.size = cs.length → (∀ (i : Nat) (a : AV) (v : Value), cs[i]? = some a → vs[i]? = some v → VR ρ G a v) → VR ρ G (.agg cs) (.agg vs)
  | tup (cs : List AV) (vs : Array Value) : vs.size = cs.length → (∀ (i : Nat) (a : AV) (v : Value), cs[i]? = some a → vs[i]? = some v → VR ρ G a v) → VR ρ G (.tup cs) (.tuple vs)
  | map (b : Nat) (g : GI) : G b = some g → VR ρ G (.map b) (.map (some g.blk))
  | nilm : VR ρ G .nilm (.map none)
  | boolu (c : SE) (b : Bool) : (b = true → (c.den ρ).b = true) → VR ρ G (.boolu c) (.bool b)
  | yld (b : Nat) (g : GI) : G b = some g → VR ρ G (.yld b) (.func (.yield g.blk) #[] #[])
  | nsl (b s : Nat) (i : SE) (j : Nat) (ks : List CK) (len : SE) (g : GI) (a : Option Addr) (n c : Nat) : G b = some g → g.hd ((i.den ρ).i.toNat * s + j) = some (.slice a n c) → (len.den ρ).i = n → n ≤ c → (0 < c → ∃ blk off, a = some ⟨blk, off, none⟩) → VR ρ G (.nsl b s i j ks len) (.slice a n c)
  | nelt (b s : Nat) (i : SE) (j : Nat) (ks : List CK) (x : SE) (q : Nat) (g : GI) (blk off n c : Nat) : G b = some g → g.hd ((i.den ρ).i.toNat * s + j) = some (.slice (some ⟨blk, off, none⟩) n c) → VR ρ G (.nelt b s i j ks x q) (.pointer (some ⟨blk, off + (x.den ρ).i.toNat * ks.length + q, none⟩))
def VRs (ρ : Env) (G : Gh) (cs : List AV) (vs : Array Value) : Prop := vs.size = cs.length ∧ ∀ (i : Nat) (a : AV) (v : Value), cs[i]? = some a → vs[i]? = some v → VR ρ G a v
section
variable {ρ : Env} {G G' : Gh}
theorem VR.mono {a : AV} {v : Value} (h : VR ρ G a v) (hG : G.le G') : VR ρ G' a v := by
  induction h with
  | any v => exact .any v
  | int k e n h => exact .int k e n h
  | bool e b h => exact .bool e b h
  | str e s h => exact .str e s h
  | nilp => exact .nilp
  | ptr b o g a h h2 => exact .ptr b o g a (hG _ _ h) h2
  | elt b s i j g a h h2 => exact .elt b s i j g a (hG _ _ h) h2
  | nils => exact .nils
  | sl b s off len cap g a n c h h1 h2 h3 h4 h5 h6 => exact .sl b s off len cap g a n c (hG _ _ h) h1 h2 h3 h4 h5 h6
  | func fn first cap vf vc h1 h2 h3 h4 ih1 ih2 => exact .func fn first cap vf vc h1 h2 ih1 ih2
  | nilf => exact .nilf
  | iface t a v h ih => exact .iface t a v ih
  | nili => exact .nili
  | agg cs vs h1 h2 ih => exact .agg cs vs h1 ih
  | tup cs vs h1 h2 ih => exact .tup cs vs h1 ih
  | map b g h => exact .map b g (hG _ _ h)
  | nilm => exact .nilm
  | boolu c b h => exact .boolu c b h
  | yld b g h => exact .yld b g (hG _ _ h)
  | nsl b s i j ks len g a n c h h1 h2 h3 h4 => exact .nsl b s i j ks len g a n c (hG _ _ h) h1 h2 h3 h4
  | nelt b s i j ks x q g blk off n c h h1 => exact .nelt b s i j ks x q g blk off n c (hG _ _ h) h1
theorem VR.nsl_inv {b s : Nat} {i : SE} {j : Nat} {ks : List CK} {len : SE} {v : Value} (h : VR ρ G (.nsl b s i j ks len) v) : ∃ g a n c, G b = some g ∧ v = .slice a n c ∧ g.hd ((i.den ρ).i.toNat * s + j) = some (.slice a n c) ∧ (len.den ρ).i = n ∧ n ≤ c ∧ (0 < c → ∃ blk off, a = some ⟨blk, off, none⟩) := by
  cases h with | nsl _ _ _ _ _ _ g a n c h h1 h2 h3 h4 => exact ⟨g, a, n, c, h, rfl, h1, h2, h3, h4⟩
theorem VR.nelt_inv {b s : Nat} {i : SE} {j : Nat} {ks : List CK} {x : SE} {q : Nat} {v : Value} (h : VR ρ G (.nelt b s i j ks x q) v) : ∃ g blk off n c, G b = some g ∧ g.hd ((i.den ρ).i.toNat * s + j) = some (.slice (some ⟨blk, off, none⟩) n c) ∧ v = .pointer (some ⟨blk, off + (x.den ρ).i.toNat * ks.length + q, none⟩) := by
  cases h with | nelt _ _ _ _ _ _ _ g blk off n c h h1 => exact ⟨g, blk, off, n, c, h, h1, rfl⟩
theorem VR.yld_inv {b : Nat} {v : Value} (h : VR ρ G (.yld b) v) : ∃ g, G b = some g ∧ v = .func (.yield g.blk) #[] #[] := by
  cases h with | yld _ g h => exact ⟨g, h, rfl⟩
theorem VR.boolu_inv {c : SE} {v : Value} (h : VR ρ G (.boolu c) v) : ∃ b, v = .bool b ∧ (b = true → (c.den ρ).b = true) := by cases h; exact ⟨_, rfl, by assumption⟩
theorem VRs.mono {cs : List AV} {vs : Array Value} (h : VRs ρ G cs vs) (hG : G.le G') : VRs ρ G' cs vs := ⟨h.1, fun i a v h1 h2 => (h.2 i a v h1 h2).mono hG⟩
theorem VRs.nil : VRs ρ G [] #[] := ⟨rfl, fun i a v h => by simp at h⟩
theorem VR.int_inv {k : IntKind} {e : SE} {v : Value} (h : VR ρ G (.int k e) v) : v = .int k (e.den ρ).i := by cases h; subst_vars; rfl
theorem VR.bool_inv {e : SE} {v : Value} (h : VR ρ G (.bool e) v) : v = .bool (e.den ρ).b := by cases h; subst_vars; rfl
theorem VR.str_inv {e : SE} {v : Value} (h : VR ρ G (.str e) v) : v = .string (bytesOf (e.den ρ).s) := by cases h; subst_vars; rfl
theorem VR.ptr_inv {b o : Nat} {v : Value} (h : VR ρ G (.ptr b o) v) : ∃ g, G b = some g ∧ v = .pointer (some ⟨g.blk, g.off + o, none⟩) := by
  cases h with | ptr _ _ g a h1 h2 => exact ⟨g, h1, by rw [h2]⟩
theorem VR.elt_inv {b s : Nat} {i : SE} {j : Nat} {v : Value} (h : VR ρ G (.elt b s i j) v) : ∃ g, G b = some g ∧ v = .pointer (some ⟨g.blk, g.off + (i.den ρ).i.toNat * s + j, none⟩) := by
  cases h with | elt _ _ _ _ g a h1 h2 => exact ⟨g, h1, by rw [h2]⟩
theorem VR.agg_inv {cs : List AV} {v : Value} (h : VR ρ G (.agg cs) v) : ∃ vs, v = .agg vs ∧ VRs ρ G cs vs := by
  cases h with | agg _ vs h1 h2 => exact ⟨vs, rfl, h1, h2⟩
theorem VR.tup_inv {cs : List AV} {v : Value} (h : VR ρ G (.tup cs) v) : ∃ vs, v = .tuple vs ∧ VRs ρ G cs vs := by
  cases h with | tup _ vs h1 h2 => exact ⟨vs, rfl, h1, h2⟩
theorem VR.func_inv {fn : Fn} {f c : List AV} {v : Value} (h : VR ρ G (.func fn f c) v) : ∃ vf vc, v = .func fn vf vc ∧ VRs ρ G f vf ∧ VRs ρ G c vc := by
  cases h with | func _ _ _ vf vc h1 h2 h3 h4 => exact ⟨vf, vc, rfl, ⟨h1, h3⟩, ⟨h2, h4⟩⟩
theorem VR.iface_inv {t : TypeId} {a : AV} {v : Value} (h : VR ρ G (.iface t a) v) : ∃ u, v = .iface t u ∧ VR ρ G a u := by
  cases h with | iface _ _ u h => exact ⟨u, rfl, h⟩
theorem VR.map_inv {b : Nat} {v : Value} (h : VR ρ G (.map b) v) : ∃ g, G b = some g ∧ v = .map (some g.blk) := by
  cases h with | map _ g h => exact ⟨g, h, rfl⟩
theorem VR.sl_inv {b s : Nat} {off len : SE} {cap : Option SE} {v : Value} (h : VR ρ G (.sl b s off len cap) v) : ∃ g a n c, G b = some g ∧ v = .slice a n c ∧ (len.den ρ).i = n ∧ 0 ≤ (off.den ρ).i ∧ n ≤ c ∧ (∀ e, cap = some e → (e.den ρ).i = c) ∧
      (0 < c → a = some ⟨g.blk, g.off + (off.den ρ).i.toNat * s, none⟩) ∧ ((off.den ρ).i.toNat + c) * s ≤ g.sz := by
  cases h with | sl _ _ _ _ _ g a n c h h1 h2 h3 h4 h5 h6 => exact ⟨g, a, n, c, h, rfl, h1, h2, h3, h4, h5, h6⟩
theorem VRs.of_list {cs : List AV} {l : List Value} (h : cs.length = l.length) (hv : ∀ (i : Nat) (a : AV) (v : Value), cs[i]? = some a → l[i]? = some v → VR ρ G a v) : VRs ρ G cs l.toArray := ⟨by simp [h], fun i a v h1 h2 => hv i a v h1 (by simpa using h2)⟩
theorem VRs.get {cs : List AV} {vs : Array Value} (h : VRs ρ G cs vs) {i : Nat} {a : AV} (hi : cs[i]? = some a) : ∃ v, vs[i]? = some v ∧ VR ρ G a v := by
  have hl : i < cs.length := (List.getElem?_eq_some_iff.1 hi).1
  have hv : i < vs.size := by rw [h.1]; exact hl
  exact ⟨vs[i], by simp [hv], h.2 i a _ hi (by simp [hv])⟩
theorem VRs.append {xs ys : List AV} {vs us : Array Value} (h : VRs ρ G xs vs) (k : VRs ρ G ys us) : VRs ρ G (xs ++ ys) (vs ++ us) := by
  refine ⟨by simp [h.1, k.1], fun i a v h1 h2 => ?_⟩
  rw [List.getElem?_append] at h1
  rw [Array.getElem?_append] at h2
  split at h1
  · rename_i hlt
    rw [if_pos (by rw [h.1]; exact hlt)] at h2
    exact h.2 i a v h1 h2
  · rename_i hge
    rw [if_neg (by rw [h.1]; exact hge)] at h2
    rw [← h.1] at h1
    exact k.2 _ a v h1 h2
theorem VRs.cons {x : AV} {xs : List AV} {v : Value} {vs : List Value} (h : VR ρ G x v) (k : VRs ρ G xs vs.toArray) : VRs ρ G (x :: xs) (v :: vs).toArray := by
  have := VRs.append (xs := [x]) (vs := #[v]) ⟨rfl, fun i a u h1 h2 => by cases i <;> simp at h1 h2; subst h1 h2; exact h⟩ k
  simpa using this
end
end Go.Proofs.YtkfjgggiopegbaaDoor
noncomputable section
namespace Go.Proofs.YtkfjgggiopegbaaDoor
open Go.RowKit
structure Me where
  hp : List (Nat × Ob)
  nb : Nat
  nv : Nat
  pc : PC
def hget (hp : List (Nat × Ob)) (b : Nat) : Option Ob :=
  List.rec (motive := fun _ => Option Ob) none (fun p _ ih => Bool.rec (motive := fun _ => Option Ob) ih (some p.2) (Nat.beq p.1 b)) hp
def hset (hp : List (Nat × Ob)) (b : Nat) (o : Ob) : List (Nat × Ob) :=
  List.rec (motive := fun _ => List (Nat × Ob)) [(b, o)] (fun p r ih => Bool.rec (motive := fun _ => List (Nat × Ob)) (Bool.rec (motive := fun _ => List (Nat × Ob)) (p :: ih) ((p.1, o) :: r) (Nat.beq p.1 b)) ((b, o) :: p :: r) (Nat.ble (Nat.succ p.1) b)) hp
def hfilt (p : Nat → Bool) (hp : List (Nat × Ob)) : List (Nat × Ob) :=
  List.rec (motive := fun _ => List (Nat × Ob)) [] (fun x _ ih => Bool.rec (motive := fun _ => List (Nat × Ob)) ih (x :: ih) (p x.1)) hp
theorem hfilt_eq (p : Nat → Bool) : ∀ (hp : List (Nat × Ob)), hfilt p hp = hp.filter fun x => p x.1
  | [] => rfl
  | x :: r => by
    have ih := hfilt_eq p r
    first
    | rfl
    | (show Bool.rec (motive := fun _ => List (Nat × Ob)) (hfilt p r) (x :: hfilt p r) (p x.1) = _
       rw [List.filter_cons, ih]
       cases p x.1 <;> rfl)
theorem hget_nil (b : Nat) : hget [] b = none := by first | rfl | (unfold hget; rfl)
theorem hget_eq (c : Nat) (o : Ob) (r : List (Nat × Ob)) (b : Nat) : hget ((c, o) :: r) b = bif Nat.beq c b then some o else hget r b := by first | rfl | exact rec_cond _ _ _
theorem hset_nil (b : Nat) (o : Ob) : hset [] b o = [(b, o)] := by first | rfl | (unfold hset; rfl)
theorem hset_eq (c : Nat) (p : Ob) (r : List (Nat × Ob)) (b : Nat) (o : Ob) : hset ((c, p) :: r) b o = bif Nat.blt c b then (b, o) :: (c, p) :: r else bif Nat.beq c b then (c, o) :: r else (c, p) :: hset r b o := by
  first
  | rfl
  | (show Bool.rec (motive := fun _ => List (Nat × Ob)) (Bool.rec (motive := fun _ => List (Nat × Ob)) ((c, p) :: hset r b o) ((c, o) :: r) (Nat.beq c b)) ((b, o) :: (c, p) :: r) (Nat.blt c b) = _
     rw [rec_cond, rec_cond])
def happ (x y : List (Nat × Ob)) : List (Nat × Ob) :=
  match x with
  | [] => y
  | (b, o) :: r => hset (happ r y) b o
def hdel (hp : List (Nat × Ob)) (b : Nat) : List (Nat × Ob) :=
  match hp with
  | [] => []
  | (c, p) :: r => bif Nat.beq c b then hdel r b else (c, p) :: hdel r b
theorem beq_iff (a b : Nat) : Nat.beq a b = true ↔ a = b := ⟨Nat.eq_of_beq_eq_true, fun h => by subst h; exact Nat.beq_refl a⟩
theorem hget_cons (c : Nat) (o : Ob) (r : List (Nat × Ob)) (b : Nat) : hget ((c, o) :: r) b = if c = b then some o else hget r b := by
  rw [hget_eq]
  cases h : Nat.beq c b with
  | true => rw [if_pos ((beq_iff _ _).1 h)]; rfl
  | false => rw [if_neg (fun e => by rw [(beq_iff _ _).2 e] at h; cases h)]; rfl
theorem hget_hset (hp : List (Nat × Ob)) (b : Nat) (o : Ob) (c : Nat) : hget (hset hp b o) c = if c = b then some o else hget hp c := by
  have sym : ∀ (x : Option Ob), (if b = c then some o else x) = if c = b then some o else x := fun x => by
    by_cases h : b = c
    · rw [if_pos h, if_pos h.symm]
    · rw [if_neg h, if_neg (Ne.symm h)]
  induction hp with
  | nil => rw [hset_nil]; rw [hget_cons, sym]
  | cons p r ih =>
    obtain ⟨d, q⟩ := p
    rw [hset_eq]
    cases hlt : Nat.blt d b with
    | true => simp only [cond_true]; rw [hget_cons, sym]
    | false =>
      simp only [cond_false]
      cases hd : Nat.beq d b with
      | true =>
        have hd := (beq_iff _ _).1 hd
        subst hd
        simp only [cond_true]
        rw [hget_cons, hget_cons, sym]
        by_cases h : c = d
        · rw [if_pos h, if_pos h]
        · rw [if_neg h, if_neg h, if_neg (Ne.symm h)]
      | false =>
        have hd : d ≠ b := fun e => by rw [(beq_iff _ _).2 e] at hd; cases hd
        simp only [cond_false]
        rw [hget_cons, hget_cons, ih]
        by_cases h : d = c
        · rw [if_pos h, if_pos h, if_neg (fun e => hd (h.trans e))]
        · rw [if_neg h, if_neg h]
theorem hget_hdel (hp : List (Nat × Ob)) (b : Nat) (c : Nat) : hget (hdel hp b) c = if c = b then none else hget hp c := by
  induction hp with
  | nil => simp [hdel, hget_nil]
  | cons p r ih =>
    obtain ⟨d, q⟩ := p
    simp only [hdel]
    cases hd : Nat.beq d b with
    | true =>
      have hd := (beq_iff _ _).1 hd
      subst hd
      simp only [cond_true]
      rw [ih, hget_cons]
      by_cases h : c = d
      · rw [if_pos h, if_pos h]
      · rw [if_neg h, if_neg h, if_neg (Ne.symm h)]
    | false =>
      have hd : d ≠ b := fun e => by rw [(beq_iff _ _).2 e] at hd; cases hd
      simp only [cond_false]
      rw [hget_cons, hget_cons, ih]
      by_cases h : d = c
      · rw [if_pos h, if_pos h, if_neg (fun e => hd (h.trans e))]
      · rw [if_neg h, if_neg h]
structure Tz (n : Nat) where
  ty : TypeId
  fz : Nat × Nat
  ok : ∀ i, i < n → ¬ (fz.1 ≤ i ∧ i < fz.2)
instance {n : Nat} : Coe TypeId (Tz n) := ⟨fun t => ⟨t, (0, 0), fun i _ h => by simp at h⟩⟩
structure LR (ρ : Env) (G : Gh) (R : Rl) (r : Loop) : Prop where
  ps : r.params = R.ps
  asg : r.assign = R.asg
  body : r.body = R.body
  fn : r.fn < ρ.f.np
  n : r.tmps.size = R.n
  tm : ∀ t v, R.tm.get t = some v → VR ρ G v (r.tmps.getD t undef)
theorem LR.mono {ρ : Env} {G G' : Gh} {R : Rl} {r : Loop} (h : LR ρ G R r) (hG : G.le G') : LR ρ G' R r := ⟨h.ps, h.asg, h.body, h.fn, h.n, fun t v ht => (h.tm t v ht).mono hG⟩
def SubAt (w : World) (ks : List CK) (l : List DV) (v : Value) : Prop := ks ≠ [] ∧ ∃ a n c, v = .slice a n c ∧ l.length = n ∧ n ≤ c ∧ (0 < c → ∃ blk off, a = some ⟨blk, off, none⟩) ∧
  ∀ (i j : Nat) (x : DV) (k : CK), l[i]? = some x → ks[j]? = some k → ∃ blk off, a = some ⟨blk, off, none⟩ ∧ w.cell? ⟨blk, off + i * ks.length + j, none⟩ = some (k.val (cellD ks x j))
def cellN (d : DV) (j : Nat) : DV := d.l[j]?.getD (.int 0)
def NK.ok (w : World) (g : GI) (q : Nat) (d : DV) (v : Value) : NK → Prop
  | .pl k => v = k.val d
  | .sub ks => g.hd q = some v ∧ SubAt w ks d.l v
def NAt (w : World) (g : GI) (ns : List NK) (l : List DV) : Prop := ∀ (i j : Nat) (d : DV) (k : NK), l[i]? = some d → ns[j]? = some k → ∃ v, w.cell? ⟨g.blk, g.off + i * ns.length + j, none⟩ = some v ∧ k.ok w g (i * ns.length + j) (cellN d j) v
def OR (ρ : Env) (G : Gh) (w : World) (g : GI) : Ob → Prop
  | .cells cs => g.off = 0 ∧ ∃ arr, ∃ t : Tz g.sz, w.heap[g.blk]? = some (.cells arr t.ty t.fz) ∧ arr.size = g.sz ∧ cs.length ≤ arr.size ∧ ∀ (i : Nat) (a : AV) (v : Value), cs[i]? = some a → arr[i]? = some v → VR ρ G a v
  | .rows ks e => g.off = 0 ∧ ks ≠ [] ∧ (g.sz = 0 → (e.den ρ).l = []) ∧ (g.sz ≠ 0 → ∃ arr, ∃ t : Tz g.sz, w.heap[g.blk]? = some (.cells arr t.ty t.fz) ∧ arr.size = g.sz ∧ (e.den ρ).l.length * ks.length ≤ arr.size ∧
      ∀ (i j : Nat) (d : DV) (k : CK), (e.den ρ).l[i]? = some d → ks[j]? = some k → arr[i * ks.length + j]? = some (k.val (cellD ks d j)))
  | .ro ks e => ks ≠ [] ∧ ∀ (i j : Nat) (d : DV) (k : CK), (e.den ρ).l[i]? = some d → ks[j]? = some k → w.cell? ⟨g.blk, g.off + i * ks.length + j, none⟩ = some (k.val (cellD ks d j))
  | .roc cs => ∀ (i : Nat) (a : AV), cs[i]? = some a → ∃ v, w.cell? ⟨g.blk, g.off + i, none⟩ = some v ∧ VR ρ G a v
  | .map es => ∃ (en : Array MapEntry) (clock : Nat), w.heap[g.blk]? = some (.map en clock) ∧ en.size = es.length ∧ ∀ (i : Nat) (p : AV × AV) (m : MapEntry), es[i]? = some p → en[i]? = some m → VR ρ G p.1 m.key ∧ VR ρ G p.2 m.val
  | .lp st j R => w.heap[g.blk]? = some (.loop { g.lp with state := st, pending := j.code }) ∧ LR ρ G R g.lp
  | .dfb => w.heap[g.blk]? = some (.deferred (some []))
  | .nro ns e => ns ≠ [] ∧ NAt w g ns (e.den ρ).l
  | .nrows ns e => g.off = 0 ∧ ns ≠ [] ∧ (g.sz = 0 → (e.den ρ).l = []) ∧ (g.sz ≠ 0 → ∃ arr, ∃ t : Tz g.sz, w.heap[g.blk]? = some (.cells arr t.ty t.fz) ∧ arr.size = g.sz ∧ (e.den ρ).l.length * ns.length ≤ arr.size) ∧ NAt w g ns (e.den ρ).l
def Solid (ρ : Env) (g : GI) : Ob → Prop
  | .ro _ e => (e.den ρ).l ≠ []
  | .rows _ _ => g.sz ≠ 0
  | .roc cs => cs ≠ []
  | .nro _ e => (e.den ρ).l ≠ []
  | .nrows _ _ => g.sz ≠ 0
  | _ => True
def Ob.also (o : Ob) (g : GI) (k : Nat) : Prop :=
  match o with
  | .nro .. => ∃ q a n c, g.hd q = some (.slice (some a) n c) ∧ 0 < n ∧ a.block = k
  | .nrows .. => ∃ q a n c, g.hd q = some (.slice (some a) n c) ∧ 0 < n ∧ a.block = k
  | _ => False
theorem hd_def (b o s q : Nat) : GI.hd ⟨b, o, s, default⟩ q = none := rfl
theorem also_def {ob : Ob} {b o s k : Nat} : ¬ ob.also ⟨b, o, s, default⟩ k := fun h => by
  cases ob with
  | nro ns e => obtain ⟨q, a, n, c, h, _⟩ := h; rw [hd_def] at h; cases h
  | nrows ns e => obtain ⟨q, a, n, c, h, _⟩ := h; rw [hd_def] at h; cases h
  | _ => exact h
def Mine (ρ : Env) (G : Gh) (M : Me) (k : Nat) : Prop := ∃ b o g, hget M.hp b = some o ∧ o.own = true ∧ G b = some g ∧ Solid ρ g o ∧ g.blk = k
def Known (ρ : Env) (G : Gh) (M : Me) (k : Nat) : Prop := ∃ b o g, hget M.hp b = some o ∧ G b = some g ∧ ((Solid ρ g o ∧ g.blk = k) ∨ o.also g k)
structure MR (ρ : Env) (G : Gh) (M : Me) (w : World) : Prop where
  pc : holdsAll ρ M.pc
  fresh : ∀ b g, G b = some g → b < M.nb
  ob : ∀ b o, hget M.hp b = some o → ∃ g, G b = some g ∧ OR ρ G w g o
  apart : ∀ b o c p g h, hget M.hp b = some o → hget M.hp c = some p → o.own = true → b ≠ c → G b = some g → G c = some h → Solid ρ g o → Solid ρ h p → g.blk ≠ h.blk
  sub : ∀ c p h k, hget M.hp c = some p → G c = some h → p.also h k → k < w.heap.size ∧ ¬ Mine ρ G M k
abbrev ObR (ρ : Env) (G : Gh) (M : Me) (w : World) : Prop := ∀ b o, hget M.hp b = some o → ∃ g, G b = some g ∧ OR ρ G w g o
structure Stp (ρ : Env) (G : Gh) (M : Me) (w : World) (G' : Gh) (M' : Me) (w' : World) : Prop where
  gh : G.le G'
  os : w'.os = w.os
  tape : w'.tape = w.tape
  output : w'.output = w.output
  size : w.heap.size ≤ w'.heap.size
  keep : ∀ k, k < w.heap.size → ¬ Mine ρ G M k → w'.heap[k]? = w.heap[k]?
  mine : ∀ k, Mine ρ G' M' k → k < w.heap.size → Mine ρ G M k
  nb : M.nb ≤ M'.nb
  old : ∀ b g, G' b = some g → G b = some g ∨ M.nb ≤ b
  seen : ∀ k, Known ρ G' M' k → k < w.heap.size → Known ρ G M k
theorem Stp.refl (ρ : Env) (G : Gh) (M : Me) (w : World) : Stp ρ G M w G M w := ⟨G.le_refl, rfl, rfl, rfl, Nat.le_refl _, fun _ _ _ => rfl, fun _ h _ => h, Nat.le_refl _, fun _ _ h => .inl h, fun _ h _ => h⟩
theorem Stp.trans {ρ : Env} {G G1 G2 : Gh} {M M1 M2 : Me} {w w1 w2 : World} (h : Stp ρ G M w G1 M1 w1) (k : Stp ρ G1 M1 w1 G2 M2 w2) : Stp ρ G M w G2 M2 w2 :=
  ⟨Gh.le_trans h.gh k.gh, k.os.trans h.os, k.tape.trans h.tape, k.output.trans h.output, Nat.le_trans h.size k.size,
    fun i hi hm => (k.keep i (Nat.lt_of_lt_of_le hi h.size) (fun hm1 => hm (h.mine i hm1 hi))).trans (h.keep i hi hm),
    fun i hm hi => h.mine i (k.mine i hm (Nat.lt_of_lt_of_le hi h.size)) hi, Nat.le_trans h.nb k.nb,
    fun b g hg => (k.old b g hg).elim (h.old b g) (fun hb => .inr (Nat.le_trans h.nb hb)), fun i hm hi => h.seen i (k.seen i hm (Nat.lt_of_lt_of_le hi h.size)) hi⟩
theorem cell_lt {w : World} {a : Addr} {v : Value} (h : w.cell? a = some v) : a.block < w.heap.size := by
  unfold World.cell? at h
  split at h
  · rename_i c _ _ hb; exact (Array.getElem?_eq_some_iff.1 hb).1
  · cases h
theorem OR.blk_lt {ρ : Env} {G : Gh} {w : World} {g : GI} {o : Ob} (h : OR ρ G w g o) (ho : Solid ρ g o) : g.blk < w.heap.size := by
  cases o with
  | cells cs => obtain ⟨_, arr, t, h, _⟩ := h; exact (Array.getElem?_eq_some_iff.1 h).1
  | rows ks e => obtain ⟨_, _, _, h⟩ := h; obtain ⟨arr, t, h, _⟩ := h ho; exact (Array.getElem?_eq_some_iff.1 h).1
  | ro ks e =>
    obtain ⟨hk, h⟩ := h
    cases hl : (e.den ρ).l with
    | nil => exact absurd hl ho
    | cons d r =>
      cases hks : ks with
      | nil => exact absurd hks hk
      | cons k r' => exact cell_lt (h 0 0 d k (by simp [hl]) (by simp [hks]))
  | roc cs =>
    cases cs with
    | nil => exact absurd rfl ho
    | cons a r => obtain ⟨v, hv, _⟩ := h 0 a rfl; exact cell_lt hv
  | map es => obtain ⟨en, c, h, _⟩ := h; exact (Array.getElem?_eq_some_iff.1 h).1
  | lp st j R => exact (Array.getElem?_eq_some_iff.1 h.1).1
  | dfb => exact (Array.getElem?_eq_some_iff.1 (show w.heap[g.blk]? = _ from h)).1
  | nro ns e =>
    obtain ⟨hk, h⟩ := h
    cases hl : (e.den ρ).l with
    | nil => exact absurd hl ho
    | cons d r =>
      cases hks : ns with
      | nil => exact absurd hks hk
      | cons k r' =>
        obtain ⟨v, hv, _⟩ := h 0 0 d k (by simp [hl]) (by simp [hks])
        exact cell_lt hv
  | nrows ns e => obtain ⟨_, _, _, h, _⟩ := h; obtain ⟨arr, t, h, _⟩ := h ho; exact (Array.getElem?_eq_some_iff.1 h).1
theorem cell_same {w w' : World} {a : Addr} (h : w'.heap[a.block]? = w.heap[a.block]?) : w'.cell? a = w.cell? a := by simp [World.cell?, h]
theorem SubAt.same {w w' : World} {ks : List CK} {l : List DV} {v : Value} (h : SubAt w ks l v) (hb : ∀ a n c, v = .slice (some a) n c → 0 < n → w'.heap[a.block]? = w.heap[a.block]?) : SubAt w' ks l v := by
  obtain ⟨h1, a, n, c, rfl, h2, h3, h4, h5⟩ := h
  refine ⟨h1, a, n, c, rfl, h2, h3, h4, fun i j x k hi hj => ?_⟩
  obtain ⟨blk, off, rfl, h6⟩ := h5 i j x k hi hj
  have : 0 < n := by have := (List.getElem?_eq_some_iff.1 hi).1; omega
  exact ⟨blk, off, rfl, by rw [cell_same (w := w) (a := ⟨blk, off + i * ks.length + j, none⟩) (hb ⟨blk, off, none⟩ n c rfl this)]; exact h6⟩
theorem NAt.same {w w' : World} {g : GI} {ns : List NK} {l : List DV} (h : NAt w g ns l) (hb : l ≠ [] → w'.heap[g.blk]? = w.heap[g.blk]?) (ha : ∀ q a n c, g.hd q = some (.slice (some a) n c) → 0 < n → w'.heap[a.block]? = w.heap[a.block]?) : NAt w' g ns l := by
  intro i j d k hi hj
  obtain ⟨v, hv, hk⟩ := h i j d k hi hj
  refine ⟨v, by rw [cell_same (w := w) (hb (fun hn => by rw [hn] at hi; simp at hi))]; exact hv, ?_⟩
  cases k with
  | pl k => exact hk
  | sub ks => exact ⟨hk.1, hk.2.same fun a n c e hn => ha _ a n c (e ▸ hk.1) hn⟩
theorem OR.same {ρ : Env} {G G' : Gh} {w w' : World} {g : GI} {o : Ob} (h : OR ρ G w g o) (hG : G.le G') (hb : Solid ρ g o → w'.heap[g.blk]? = w.heap[g.blk]?) (ha : ∀ k, o.also g k → w'.heap[k]? = w.heap[k]?) : OR ρ G' w' g o := by
  cases o with
  | nro ns e => exact ⟨h.1, h.2.same hb fun q a n c h1 h2 => ha _ ⟨q, a, n, c, h1, h2, rfl⟩⟩
  | nrows ns e =>
    obtain ⟨h1, h2, h3, h4, h5⟩ := h
    exact ⟨h1, h2, h3, fun hs => by obtain ⟨arr, t, k1, k2⟩ := h4 hs; exact ⟨arr, t, by rw [hb hs]; exact k1, k2⟩, h5.same (fun hn => hb fun hz => hn (h3 hz)) fun q a n c k1 k2 => ha _ ⟨q, a, n, c, k1, k2, rfl⟩⟩
  | cells cs => obtain ⟨h0, arr, t, h, h2, h3, h4⟩ := h; exact ⟨h0, arr, t, by rw [hb trivial]; exact h, h2, h3, fun i a v x y => (h4 i a v x y).mono hG⟩
  | rows ks e => obtain ⟨h0, h1, h2, h3⟩ := h; exact ⟨h0, h1, h2, fun hs => by obtain ⟨arr, t, h, r⟩ := h3 hs; exact ⟨arr, t, by rw [hb hs]; exact h, r⟩⟩
  | ro ks e =>
    refine ⟨h.1, fun i j d k hi hj => ?_⟩
    rw [cell_same (w := w) (hb (fun hn => by rw [hn] at hi; simp at hi))]
    exact h.2 i j d k hi hj
  | roc cs =>
    intro i a hi
    obtain ⟨v, hv, hr⟩ := h i a hi
    exact ⟨v, by rw [cell_same (w := w) (hb (fun hn => by rw [hn] at hi; simp at hi))]; exact hv, hr.mono hG⟩
  | map es => obtain ⟨en, c, h, h1, h2⟩ := h; exact ⟨en, c, by rw [hb trivial]; exact h, h1, fun i p m x y => ⟨(h2 i p m x y).1.mono hG, (h2 i p m x y).2.mono hG⟩⟩
  | lp st j R => exact ⟨by rw [hb trivial]; exact h.1, h.2.mono hG⟩
  | dfb => show w'.heap[g.blk]? = _; rw [hb trivial]; exact h
theorem MR.solid_lt {ρ : Env} {G : Gh} {M : Me} {w : World} (h : MR ρ G M w) {b : Nat} {o : Ob} {g : GI} (hb : hget M.hp b = some o) (hg : G b = some g) (hs : Solid ρ g o) : g.blk < w.heap.size := by
  obtain ⟨g', h5, h6⟩ := h.ob b o hb
  rw [hg] at h5; cases h5
  exact h6.blk_lt hs
theorem more_lt {w w' : World} (hs : ∀ k, k < w.heap.size → w'.heap[k]? = w.heap[k]?) {k : Nat} (hk : k < w.heap.size) : k < w'.heap.size := by
  have h := hs k hk
  rw [Array.getElem?_eq_getElem hk] at h
  exact (Array.getElem?_eq_some_iff.1 h).1
theorem MR.more {ρ : Env} {G : Gh} {M : Me} {w w' : World} (h : MR ρ G M w) (hs : ∀ k, k < w.heap.size → w'.heap[k]? = w.heap[k]?) : MR ρ G M w' :=
  ⟨h.pc, h.fresh, fun b o hb => by
    obtain ⟨g, hg, ho⟩ := h.ob b o hb
    exact ⟨g, hg, ho.same G.le_refl (fun hc => hs _ (ho.blk_lt hc)) fun k hk => hs _ (h.sub b o g k hb hg hk).1⟩, h.apart, fun c p x k hc hx hk => ⟨more_lt hs (h.sub c p x k hc hx hk).1, (h.sub c p x k hc hx hk).2⟩⟩
theorem MR.newAt {ρ : Env} {G : Gh} {M : Me} {w w' : World} (h : MR ρ G M w) (ob : Ob) (g : GI) (c nb : Nat) (hn : G c = none) (hcn : c < nb) (hnb : M.nb ≤ nb) (hg : w.heap.size ≤ g.blk) (hor : OR ρ (G.add c g) w' g ob) (hos : w'.os = w.os) (htape : w'.tape = w.tape) (hout : w'.output = w.output) (hsz : w.heap.size ≤ w'.heap.size)
    (hmore : ∀ k, k < w.heap.size → w'.heap[k]? = w.heap[k]?) (hal : ∀ k, ob.also g k → k < w.heap.size ∧ ¬ Mine ρ G M k ∧ Known ρ G M k := by intro k h; exact h.elim) :
    MR ρ (G.add c g) { M with hp := hset M.hp c ob, nb } w' ∧ ∀ G0 M0 w0, ob.own = true → M0.nb ≤ c → Stp ρ G0 M0 w0 G M w → Stp ρ G0 M0 w0 (G.add c g) { M with hp := hset M.hp c ob, nb } w' := by
  have hle := Gh.le_add (g := g) hn
  have h' := h.more hmore
  have hadd : ∀ d x, d ≠ c → (G.add c g) d = some x → G d = some x := fun d x hc hx => by unfold Gh.add at hx; rwa [if_neg hc] at hx
  have hmine : ∀ k, Mine ρ (G.add c g) { M with hp := hset M.hp c ob, nb } k → k < w.heap.size → Mine ρ G M k := fun k hk hlt => by
    obtain ⟨b, o, x, h1, h2, h3, h4, rfl⟩ := hk
    rw [hget_hset] at h1
    split at h1
    · rename_i e; subst e
      simp [Gh.add] at h3; subst h3; omega
    · rename_i hbn
      exact ⟨b, o, x, h1, h2, hadd b x hbn h3, h4, rfl⟩
  refine ⟨⟨h.pc, fun b x hx => ?_, fun b o hb => ?_, fun b o d p x y hb hc ho hne hx hy s1 s2 => ?_, fun b p x k hb hx hk => ?_⟩, fun G0 M0 w0 hown hc0 h0 => ⟨Gh.le_trans h0.gh hle, hos.trans h0.os, htape.trans h0.tape, hout.trans h0.output, Nat.le_trans h0.size hsz, fun k hk hm => (hmore k (Nat.lt_of_lt_of_le hk h0.size)).trans (h0.keep k hk hm), fun k hk hlt => h0.mine k (hmine k hk (Nat.lt_of_lt_of_le hlt h0.size)) hlt, Nat.le_trans h0.nb hnb, fun b x hx => ?_, fun k hk hlt => h0.seen k ?_ hlt⟩⟩
  · unfold Gh.add at hx
    show b < nb
    split at hx
    · omega
    · have := h.fresh _ _ hx; omega
  · rw [hget_hset] at hb
    split at hb
    · rename_i e; subst e; simp at hb; subst hb
      exact ⟨g, by simp [Gh.add], hor⟩
    · obtain ⟨x, hx, hox⟩ := h'.ob b o hb
      exact ⟨x, hle _ _ hx, hox.same hle (fun _ => rfl) fun _ _ => rfl⟩
  · rw [hget_hset] at hb hc
    split at hb
    · rename_i e; subst e
      simp [Gh.add] at hx; subst hx
      rw [if_neg (Ne.symm hne)] at hc
      have hy' := hadd d y (Ne.symm hne) hy
      have := h.solid_lt hc hy' s2
      omega
    · rename_i hbn
      have hx' := hadd b x hbn hx
      split at hc
      · rename_i e; subst e
        simp [Gh.add] at hy; subst hy
        have := h.solid_lt hb hx' s1
        omega
      · rename_i hdn
        exact h.apart b o d p x y hb hc ho hne hx' (hadd d y hdn hy) s1 s2
  · rw [hget_hset] at hb
    have main : k < w.heap.size ∧ ¬ Mine ρ G M k := by
      split at hb
      · rename_i e; subst e; simp at hb; subst hb
        simp [Gh.add] at hx; subst hx
        obtain ⟨q1, q2, _⟩ := hal k hk
        exact ⟨q1, q2⟩
      · rename_i hbn
        exact h.sub b p x k hb (hadd b x hbn hx) hk
    exact ⟨Nat.lt_of_lt_of_le main.1 hsz, fun hm => main.2 (hmine k hm main.1)⟩
  · by_cases hbc : b = c
    · exact .inr (hbc ▸ hc0)
    · exact h0.old b x (hadd b x hbc hx)
  · have hlt' := Nat.lt_of_lt_of_le hlt h0.size
    obtain ⟨b, o, x, h1, h3, h4⟩ := hk
    rw [hget_hset] at h1
    split at h1
    · rename_i e; subst e; simp at h1; subst h1
      simp [Gh.add] at h3; subst h3
      rcases h4 with ⟨h4, rfl⟩ | h4
      · omega
      · exact (hal k h4).2.2
    · rename_i hbn
      exact ⟨b, o, x, h1, hadd b x hbn h3, h4⟩
theorem MR.no {ρ : Env} {G : Gh} {M : Me} {w : World} (h : MR ρ G M w) : G M.nb = none := by
  cases hx : G M.nb with
  | none => rfl
  | some x => exact absurd (h.fresh _ _ hx) (Nat.lt_irrefl _)
theorem MR.new {ρ : Env} {G : Gh} {M : Me} {w w' : World} (h : MR ρ G M w) (ob : Ob) (g : GI) (hg : w.heap.size ≤ g.blk) (hor : OR ρ (G.add M.nb g) w' g ob) (hos : w'.os = w.os) (htape : w'.tape = w.tape) (hout : w'.output = w.output) (hsz : w.heap.size ≤ w'.heap.size)
    (hmore : ∀ k, k < w.heap.size → w'.heap[k]? = w.heap[k]?) (hown : ob.own = true := by rfl) (hal : ∀ k, ob.also g k → k < w.heap.size ∧ ¬ Mine ρ G M k ∧ Known ρ G M k := by intro k h; exact h.elim) :
    MR ρ (G.add M.nb g) { M with hp := hset M.hp M.nb ob, nb := M.nb + 1 } w' ∧ Stp ρ G M w (G.add M.nb g) { M with hp := hset M.hp M.nb ob, nb := M.nb + 1 } w' :=
  have H := h.newAt ob g M.nb (M.nb + 1) h.no (Nat.lt_succ_self _) (Nat.le_succ _) hg hor hos htape hout hsz hmore hal
  ⟨H.1, H.2 _ _ _ hown (Nat.le_refl _) (Stp.refl _ _ _ _)⟩
theorem alloc_more (w : World) (o : Obj) : ∀ k, k < w.heap.size → (w.alloc o).heap[k]? = w.heap[k]? := fun k hk => by
  show (w.heap.push o)[k]? = _
  rw [Array.getElem?_push, if_neg (by omega)]
theorem alloc_new (w : World) (o : Obj) : (w.alloc o).heap[w.heap.size]? = some o := by
  show (w.heap.push o)[w.heap.size]? = _
  rw [Array.getElem?_push, if_pos rfl]
theorem MR.turn {ρ : Env} {G : Gh} {M : Me} {w w' : World} (h : MR ρ G M w) {b : Nat} {o : Ob} {g : GI} (ob : Ob) (hb : hget M.hp b = some o) (hg : G b = some g) (ho : o.own = true) (hown : ob.own = true) (hsol : Solid ρ g o)
    (hos : w'.os = w.os) (htape : w'.tape = w.tape) (hout : w'.output = w.output) (hsz : w.heap.size ≤ w'.heap.size) (hk : ∀ k, k < w.heap.size → k ≠ g.blk → w'.heap[k]? = w.heap[k]?) (hor : OR ρ G w' g ob) (hal : ∀ k, ob.also g k → k < w.heap.size ∧ ¬ Mine ρ G M k ∧ Known ρ G M k := by intro k h; exact h.elim) :
    MR ρ G { M with hp := hset M.hp b ob } w' ∧ Stp ρ G M w G { M with hp := hset M.hp b ob } w' := by
  have hsame : ∀ c p y, c ≠ b → hget M.hp c = some p → G c = some y → Solid ρ y p → y.blk ≠ g.blk := fun c p y hne hc hy hcond =>
    Ne.symm (h.apart b o c p g y hb hc ho (Ne.symm hne) hg hy hsol hcond)
  have hmine : ∀ k, Mine ρ G { M with hp := hset M.hp b ob } k → Mine ρ G M k := fun k hkm => by
    obtain ⟨c, p, x, h1, h2, h3, h4, rfl⟩ := hkm
    rw [hget_hset] at h1
    split at h1
    · rename_i e; subst e; rw [hg] at h3; cases h3; exact ⟨c, o, g, hb, ho, hg, hsol, rfl⟩
    · exact ⟨c, p, x, h1, h2, h3, h4, rfl⟩
  have hal0 : ∀ c p y k, c ≠ b → hget M.hp c = some p → G c = some y → p.also y k → k < w.heap.size ∧ k ≠ g.blk := fun c p y k _ hc hy hk => ⟨(h.sub c p y k hc hy hk).1, fun e => (h.sub c p y k hc hy hk).2 ⟨b, o, g, hb, ho, hg, hsol, e.symm⟩⟩
  refine ⟨⟨h.pc, h.fresh, fun c p hc => ?_, fun c p d q x y hc hd hp hne hx hy s1 s2 => ?_, fun c p y k hc hy hk' => ?_⟩, ⟨G.le_refl, hos, htape, hout, hsz, fun k hlt hm => hk k hlt fun e => hm ⟨b, o, g, hb, ho, hg, hsol, e.symm⟩, fun k hkm hlt => hmine k hkm, Nat.le_refl _, fun _ _ h => .inl h, fun k hkm hlt => ?_⟩⟩
  · rw [hget_hset] at hc
    split at hc
    · rename_i e; subst e; simp at hc; subst hc; exact ⟨g, hg, hor⟩
    · rename_i hne
      obtain ⟨y, hy, hoy⟩ := h.ob c p hc
      exact ⟨y, hy, hoy.same G.le_refl (fun hcond => hk _ (hoy.blk_lt hcond) (hsame c p y hne hc hy hcond)) fun k hk' => hk _ (hal0 c p y k hne hc hy hk').1 (hal0 c p y k hne hc hy hk').2⟩
  · rw [hget_hset] at hc hd
    split at hc
    · rename_i e; subst e
      rw [if_neg (Ne.symm hne)] at hd
      rw [hg] at hx; cases hx
      exact Ne.symm (hsame d q y (Ne.symm hne) hd hy s2)
    · rename_i hcb
      split at hd
      · rename_i e; subst e
        rw [hg] at hy; cases hy
        exact hsame c p x hcb hc hx s1
      · exact h.apart c p d q x y hc hd hp hne hx hy s1 s2
  · rw [hget_hset] at hc
    have main : k < w.heap.size ∧ ¬ Mine ρ G M k := by
      split at hc
      · rename_i e; subst e; simp at hc; subst hc
        rw [hg] at hy; cases hy
        exact ⟨(hal k hk').1, (hal k hk').2.1⟩
      · exact h.sub c p y k hc hy hk'
    exact ⟨Nat.lt_of_lt_of_le main.1 hsz, fun hm => main.2 (hmine k hm)⟩
  · obtain ⟨c, p, x, h1, h3, h4⟩ := hkm
    rw [hget_hset] at h1
    split at h1
    · rename_i e; subst e; simp at h1; subst h1
      rw [hg] at h3; cases h3
      rcases h4 with ⟨h4, rfl⟩ | h4
      · exact ⟨c, o, g, hb, hg, .inl ⟨hsol, rfl⟩⟩
      · exact (hal k h4).2.2
    · exact ⟨c, p, x, h1, h3, h4⟩
theorem MR.kill {ρ : Env} {G : Gh} {M : Me} {w w' : World} (h : MR ρ G M w) {b : Nat} {o : Ob} {g : GI} (hb : hget M.hp b = some o) (hg : G b = some g) (ho : o.own = true) (hsol : Solid ρ g o)
    (hos : w'.os = w.os) (htape : w'.tape = w.tape) (hout : w'.output = w.output) (hsz : w.heap.size ≤ w'.heap.size) (hk : ∀ k, k < w.heap.size → k ≠ g.blk → w'.heap[k]? = w.heap[k]?) :
    MR ρ G { M with hp := hdel M.hp b } w' ∧ Stp ρ G M w G { M with hp := hdel M.hp b } w' := by
  have hsub : ∀ c p, hget (hdel M.hp b) c = some p → c ≠ b ∧ hget M.hp c = some p := fun c p hc => by
    rw [hget_hdel] at hc
    split at hc
    · cases hc
    · rename_i hne; exact ⟨hne, hc⟩
  refine ⟨⟨h.pc, h.fresh, fun c p hc => ?_, fun c p d q x y hc hd hp hne hx hy s1 s2 => h.apart c p d q x y (hsub c p hc).2 (hsub d q hd).2 hp hne hx hy s1 s2, fun c p y k hc hy hk' => ⟨Nat.lt_of_lt_of_le (h.sub c p y k (hsub c p hc).2 hy hk').1 hsz, fun ⟨d, q, x, h1, h2, h3, h4, h5⟩ => (h.sub c p y k (hsub c p hc).2 hy hk').2 ⟨d, q, x, (hsub d q h1).2, h2, h3, h4, h5⟩⟩⟩,
    ⟨G.le_refl, hos, htape, hout, hsz, fun k hlt hm => hk k hlt fun e => hm ⟨b, o, g, hb, ho, hg, hsol, e.symm⟩, fun k ⟨c, p, x, h1, h2, h3, h4, h5⟩ _ => ⟨c, p, x, (hsub c p h1).2, h2, h3, h4, h5⟩, Nat.le_refl _, fun _ _ h => .inl h, fun k ⟨c, p, x, h1, h3, h4⟩ _ => ⟨c, p, x, (hsub c p h1).2, h3, h4⟩⟩⟩
  obtain ⟨hne, hc⟩ := hsub c p hc
  obtain ⟨y, hy, hoy⟩ := h.ob c p hc
  exact ⟨y, hy, hoy.same G.le_refl (fun hcond => hk _ (hoy.blk_lt hcond) (Ne.symm (h.apart b o c p g y hb hc ho (Ne.symm hne) hg hy hsol hcond))) fun k hk' => hk _ (h.sub c p y k hc hy hk').1 fun e => (h.sub c p y k hc hy hk').2 ⟨b, o, g, hb, ho, hg, hsol, e.symm⟩⟩
theorem MR.move {ρ : Env} {G : Gh} {M : Me} {w w' : World} (h : MR ρ G M w) {b : Nat} {o : Ob} {g g2 : GI} (ob : Ob) (hb : hget M.hp b = some o) (hg : G b = some g) (ho : o.own = true) (hsol : Solid ρ g o) (hg2 : g2.blk = g.blk)
    (hos : w'.os = w.os) (htape : w'.tape = w.tape) (hout : w'.output = w.output) (hsz : w.heap.size ≤ w'.heap.size) (hk : ∀ k, k < w.heap.size → k ≠ g.blk → w'.heap[k]? = w.heap[k]?) (hor : OR ρ (G.add M.nb g2) w' g2 ob) (hown : ob.own = true := by rfl) (hal : ∀ k, ob.also g2 k → k < w.heap.size ∧ ¬ Mine ρ G M k ∧ Known ρ G M k := by intro k h; exact h.elim) :
    MR ρ (G.add M.nb g2) { M with hp := hset (hdel M.hp b) M.nb ob, nb := M.nb + 1 } w' ∧ Stp ρ G M w (G.add M.nb g2) { M with hp := hset (hdel M.hp b) M.nb ob, nb := M.nb + 1 } w' := by
  have hn : G M.nb = none := by
    cases hx : G M.nb with
    | none => rfl
    | some x => exact absurd (h.fresh _ _ hx) (Nat.lt_irrefl _)
  have hle := Gh.le_add (g := g2) hn
  have hadd : ∀ c x, c ≠ M.nb → (G.add M.nb g2) c = some x → G c = some x := fun c x hc hx => by unfold Gh.add at hx; rwa [if_neg hc] at hx
  have hold : ∀ c p, c ≠ M.nb → hget (hset (hdel M.hp b) M.nb ob) c = some p → c ≠ b ∧ hget M.hp c = some p := fun c p hc h => by
    rw [hget_hset, if_neg hc, hget_hdel] at h
    split at h
    · cases h
    · rename_i hcb; exact ⟨hcb, h⟩
  have hsame : ∀ c p y, c ≠ b → hget M.hp c = some p → G c = some y → Solid ρ y p → y.blk ≠ g.blk := fun c p y hne hc hy hcond =>
    Ne.symm (h.apart b o c p g y hb hc ho (Ne.symm hne) hg hy hsol hcond)
  have hmine : ∀ k, Mine ρ (G.add M.nb g2) { M with hp := hset (hdel M.hp b) M.nb ob, nb := M.nb + 1 } k → Mine ρ G M k := fun k hkm => by
    obtain ⟨c, p, x, h1, h2, h3, h4, rfl⟩ := hkm
    by_cases hcn : c = M.nb
    · subst hcn
      simp [Gh.add] at h3; subst h3
      exact ⟨b, o, g, hb, ho, hg, hsol, hg2.symm⟩
    · obtain ⟨hcb, h1⟩ := hold c p hcn h1
      exact ⟨c, p, x, h1, h2, hadd c x hcn h3, h4, rfl⟩
  refine ⟨⟨h.pc, fun c x hx => ?_, fun c p hc => ?_, fun c p d q x y hc hd hp hne hx hy s1 s2 => ?_, fun c p y k hc hy hk' => ?_⟩, ⟨hle, hos, htape, hout, hsz, fun k hlt hm => hk k hlt fun e => hm ⟨b, o, g, hb, ho, hg, hsol, e.symm⟩, fun k hkm hlt => hmine k hkm, Nat.le_succ _, fun c x hx => ?_, fun k hkm hlt => ?_⟩⟩
  · unfold Gh.add at hx
    show c < M.nb + 1
    split at hx
    · omega
    · have := h.fresh _ _ hx; omega
  · by_cases hcn : c = M.nb
    · subst hcn
      rw [hget_hset, if_pos rfl] at hc
      cases hc
      exact ⟨g2, by simp [Gh.add], hor⟩
    · obtain ⟨hcb, hc⟩ := hold c p hcn hc
      obtain ⟨y, hy, hoy⟩ := h.ob c p hc
      exact ⟨y, hle _ _ hy, hoy.same hle (fun hcond => hk _ (hoy.blk_lt hcond) (hsame c p y hcb hc hy hcond)) fun k hk' => hk _ (h.sub c p y k hc hy hk').1 fun e => (h.sub c p y k hc hy hk').2 ⟨b, o, g, hb, ho, hg, hsol, e.symm⟩⟩
  · by_cases hcn : c = M.nb
    · subst hcn
      obtain ⟨hdb, hd⟩ := hold d q (Ne.symm hne) hd
      simp [Gh.add] at hx; subst hx
      rw [hg2]
      exact Ne.symm (hsame d q y hdb hd (hadd d y (Ne.symm hne) hy) s2)
    · obtain ⟨hcb, hc⟩ := hold c p hcn hc
      have hx' := hadd c x hcn hx
      by_cases hdn : d = M.nb
      · subst hdn
        simp [Gh.add] at hy; subst hy
        rw [hg2]
        exact hsame c p x hcb hc hx' s1
      · obtain ⟨hdb, hd⟩ := hold d q hdn hd
        exact h.apart c p d q x y hc hd hp hne hx' (hadd d y hdn hy) s1 s2
  · have main : k < w.heap.size ∧ ¬ Mine ρ G M k := by
      by_cases hcn : c = M.nb
      · subst hcn
        rw [hget_hset, if_pos rfl] at hc
        cases hc
        simp [Gh.add] at hy; subst hy
        exact ⟨(hal k hk').1, (hal k hk').2.1⟩
      · obtain ⟨hcb, hc⟩ := hold c p hcn hc
        exact h.sub c p y k hc (hadd c y hcn hy) hk'
    exact ⟨Nat.lt_of_lt_of_le main.1 hsz, fun hm => main.2 (hmine k hm)⟩
  · by_cases hcn : c = M.nb
    · exact .inr (Nat.le_of_eq hcn.symm)
    · exact .inl (hadd c x hcn hx)
  · obtain ⟨c, p, x, h1, h3, h4⟩ := hkm
    by_cases hcn : c = M.nb
    · subst hcn
      rw [hget_hset, if_pos rfl] at h1
      cases h1
      simp [Gh.add] at h3; subst h3
      rcases h4 with ⟨h4, rfl⟩ | h4
      · exact ⟨b, o, g, hb, hg, .inl ⟨hsol, hg2.symm⟩⟩
      · exact (hal k h4).2.2
    · obtain ⟨hcb, h1⟩ := hold c p hcn h1
      exact ⟨c, p, x, h1, hadd c x hcn h3, h4⟩
theorem MR.drew {ρ : Env} {G : Gh} {M : Me} {w : World} (h : MR ρ G M w) : MR ρ G M w.drew := h.more fun _ _ => rfl
theorem Stp.drew (ρ : Env) (G : Gh) (M : Me) (w : World) : Stp ρ G M w G M w.drew := ⟨G.le_refl, rfl, rfl, rfl, Nat.le_refl _, fun _ _ _ => rfl, fun _ h _ => h, Nat.le_refl _, fun _ _ h => .inl h, fun _ h _ => h⟩
theorem MR.drop {ρ : Env} {G : Gh} {M : Me} {w : World} (h : MR ρ G M w) (hp : List (Nat × Ob)) (hd : ∀ b o, hget hp b = some o → hget M.hp b = some o) : MR ρ G { M with hp } w ∧ Stp ρ G M w G { M with hp } w :=
  ⟨⟨h.pc, h.fresh, fun b o hb => h.ob b o (hd b o hb), fun b o c p g y hb hc => h.apart b o c p g y (hd b o hb) (hd c p hc), fun c p y k hc hy hk => ⟨(h.sub c p y k (hd c p hc) hy hk).1, fun ⟨b, o, g, h1, h2⟩ => (h.sub c p y k (hd c p hc) hy hk).2 ⟨b, o, g, hd b o h1, h2⟩⟩⟩,
   ⟨G.le_refl, rfl, rfl, rfl, Nat.le_refl _, fun _ _ _ => rfl, fun k ⟨b, o, g, h1, h2, h3, h4⟩ _ => ⟨b, o, g, hd b o h1, h2, h3, h4⟩, Nat.le_refl _, fun _ _ h => .inl h, fun k ⟨b, o, g, h1, h2, h3⟩ _ => ⟨b, o, g, hd b o h1, h2, h3⟩⟩⟩
theorem MR.learn {ρ : Env} {G : Gh} {M : Me} {w : World} (h : MR ρ G M w) {c : SE} {t : Bool} (hc : (c.den ρ).b = t) : MR ρ G { M with pc := lay M.pc c t } w := ⟨lay_holds h.pc hc, h.fresh, h.ob, h.apart, h.sub⟩
theorem Stp.pc {ρ : Env} {G G' : Gh} {M M' : Me} {w w' : World} (h : Stp ρ G M w G' M' w') (p q : PC) : Stp ρ G { M with pc := p } w G' { M' with pc := q } w' := ⟨h.gh, h.os, h.tape, h.output, h.size, h.keep, h.mine, h.nb, h.old, h.seen⟩
theorem Stp.learn {ρ : Env} {G : Gh} (M : Me) (w : World) (p : PC) : Stp ρ G M w G { M with pc := p } w := ⟨G.le_refl, rfl, rfl, rfl, Nat.le_refl _, fun _ _ _ => rfl, fun _ h _ => h, Nat.le_refl _, fun _ _ h => .inl h, fun _ h _ => h⟩
theorem MR.sameRow {ρ : Env} {G : Gh} {M : Me} {w : World} (hM : MR ρ G M w) {b : Nat} {ks : List CK} {e e2 : SE} (hob : hget M.hp b = some (.rows ks e)) (he : (e2.den ρ).l = (e.den ρ).l) :
    MR ρ G { M with hp := hset M.hp b (.rows ks e2) } w ∧ Stp ρ G M w G { M with hp := hset M.hp b (.rows ks e2) } w := by
  obtain ⟨g, hg, hgo, hks2, hvirt, hreal⟩ := hM.ob _ _ hob
  have hmine : ∀ k, Mine ρ G { M with hp := hset M.hp b (.rows ks e2) } k → Mine ρ G M k := fun k ⟨c, o, y, h1, h2, h3, h4, h5⟩ => by
    rw [hget_hset] at h1
    split at h1
    · rename_i e1; subst e1; cases h1; exact ⟨c, _, y, hob, rfl, h3, h4, h5⟩
    · exact ⟨c, o, y, h1, h2, h3, h4, h5⟩
  constructor
  · refine ⟨hM.pc, hM.fresh, fun c o hc => ?_, fun c o c2 p x y h1 h2 ho hne hx hy s1 s2 => ?_, fun c o y k hc hy hk => ?_⟩
    · rw [hget_hset] at hc
      split at hc
      · rename_i e1; subst e1; cases hc
        exact ⟨g, hg, hgo, hks2, fun hz => by rw [he]; exact hvirt hz, fun hz => by rw [he]; exact hreal hz⟩
      · exact hM.ob c o hc
    · rw [hget_hset] at h1 h2
      have s1' : Solid ρ x o := s1
      split at h1
      · rename_i e1; subst e1; cases h1
        rw [if_neg (Ne.symm hne)] at h2
        exact hM.apart c _ c2 p x y hob h2 rfl hne hx hy s1 s2
      · split at h2
        · rename_i e1; subst e1; cases h2
          exact hM.apart c o c2 _ x y h1 hob ho hne hx hy s1 s2
        · exact hM.apart c o c2 p x y h1 h2 ho hne hx hy s1 s2
    · rw [hget_hset] at hc
      split at hc
      · rename_i e1; subst e1; cases hc; exact hk.elim
      · exact ⟨(hM.sub c o y k hc hy hk).1, fun hm => (hM.sub c o y k hc hy hk).2 (hmine k hm)⟩
  · refine ⟨G.le_refl, rfl, rfl, rfl, Nat.le_refl _, fun _ _ _ => rfl, fun k hk _ => hmine k hk, Nat.le_refl _, fun _ _ h => .inl h, fun k ⟨c, o, y, h1, h3, h4⟩ _ => ?_⟩
    rw [hget_hset] at h1
    split at h1
    · rename_i e1; subst e1; cases h1
      rcases h4 with ⟨h4, h5⟩ | h4
      · exact ⟨c, _, y, hob, h3, .inl ⟨h4, h5⟩⟩
      · exact h4.elim
    · exact ⟨c, o, y, h1, h3, h4⟩
end Go.Proofs.YtkfjgggiopegbaaDoor
noncomputable section
namespace Go.Proofs.YtkfjgggiopegbaaDoor
open Go.RowKit
def Tr.set (f : Nat) (t : Tr) (n : Nat) (x : AV) : Option Tr :=
  match f with
  | 0 => none
  | f + 1 =>
    match t with
    | .lf => (match n with
      | 0 => some (.nd (some x) .lf .lf)
      | m + 1 => bif Nat.beq (m % 2) 0 then (match Tr.set f .lf (m / 2) x with | some l => some (.nd none l .lf) | none => none) else (match Tr.set f .lf (m / 2) x with | some r => some (.nd none .lf r) | none => none))
    | .nd v l r => (match n with
      | 0 => some (.nd (some x) l r)
      | m + 1 => bif Nat.beq (m % 2) 0 then (match Tr.set f l (m / 2) x with | some l => some (.nd v l r) | none => none) else (match Tr.set f r (m / 2) x with | some r => some (.nd v l r) | none => none))
def Tr.put (t : Tr) : Nat → AV → Option Tr :=
  Tr.rec (motive := fun _ => Nat → AV → Option Tr) (fun n x => Tr.set 20 .lf n x) (fun v l r pl pr n x =>
    Nat.rec (motive := fun _ => Option Tr) (some (.nd (some x) l r)) (fun m _ => Bool.rec (motive := fun _ => Option Tr)
      (Option.rec (motive := fun _ => Option Tr) none (fun r => some (.nd v l r)) (pr (Nat.div m 2) x))
      (Option.rec (motive := fun _ => Option Tr) none (fun l => some (.nd v l r)) (pl (Nat.div m 2) x)) (Nat.beq (Nat.mod m 2) 0)) n) t
theorem Tr.put_lf (n : Nat) (x : AV) : Tr.put .lf n x = Tr.set 20 .lf n x := by first | rfl | (unfold Tr.put; rfl)
theorem Tr.put_eq (v : Option AV) (l r : Tr) (n : Nat) (x : AV) : Tr.put (.nd v l r) n x = (match n with
    | 0 => some (.nd (some x) l r)
    | m + 1 => bif Nat.beq (m % 2) 0 then (match Tr.put l (m / 2) x with | some l => some (.nd v l r) | none => none) else (match Tr.put r (m / 2) x with | some r => some (.nd v l r) | none => none)) := by
  cases n with
  | zero => first | rfl | (unfold Tr.put; rfl)
  | succ m =>
    first
    | rfl
    | (refine (rec_cond _ _ _).trans ?_
       show (bif Nat.beq (m % 2) 0 then Option.rec (motive := fun _ => Option Tr) none (fun l => some (.nd v l r)) (Tr.put l (m / 2) x) else Option.rec (motive := fun _ => Option Tr) none (fun r => some (.nd v l r)) (Tr.put r (m / 2) x)) = (bif Nat.beq (m % 2) 0 then (match Tr.put l (m / 2) x with | some l => some (.nd v l r) | none => none) else (match Tr.put r (m / 2) x with | some r => some (.nd v l r) | none => none))
       cases Nat.beq (m % 2) 0 with
       | true => simp only [cond_true]; cases Tr.put l (m / 2) x <;> rfl
       | false => simp only [cond_false]; cases Tr.put r (m / 2) x <;> rfl)
def Tr.map (f : AV → AV) : Tr → Tr
  | .lf => .lf
  | .nd v l r => .nd (v.map f) (Tr.map f l) (Tr.map f r)
structure Fr where
  tm : Tr
  n : Nat
  df : List (AV × List AV)
inductive XK where
  | norm | exit (id : Nat) | goto (l : Nat) | ret | panic (v : AV)
inductive Lf where
  | val (v : AV) (M : Me)
  | pan (v : AV) (M : Me)
  | code (k : XK) (F : Fr) (M : Me)
  | nxt (xs : List SE)
  | out
inductive T where
  | ret (l : Lf)
  | br (c : SE) (t e : T)
  | asrt (c : SE) (t : T)
  | fail (why : Nat)
  | loop (nv : Nat) (x0 : List SE) (body rest : T)
  | both (t e : T)
def test (M : Me) (c : SE) (k : Bool → Me → T) : T :=
  match known M.pc c with
  | some b => k b M
  | none => .br c (k true { M with pc := lay M.pc c true }) (k false { M with pc := lay M.pc c false })
def need (M : Me) (c : SE) (k : Me → T) : T :=
  match known M.pc c with
  | some true => k M
  | some false => .fail 1
  | none => .asrt c (k { M with pc := lay M.pc c true })
def needs (M : Me) (cs : List SE) (k : Me → T) : T :=
  match cs with
  | [] => k M
  | c :: r => need M c fun M => needs M r k
def litS (v : Value) : AV :=
  match v with
  | .bool b => .bool (.bool b)
  | .int k n => .int k (.int n)
  | .string s => .str (.str s.data.toList)
  | .pointer none => .nilp
  | .slice none 0 0 => .nils
  | .map none => .nilm
  | .nilFunc => .nilf
  | .nilIface => .nili
  | _ => .any
def litV (v : Value) : AV :=
  match v with
  | .agg cs => .agg (cs.toList.map litS)
  | .tuple cs => bif cs.toList.isEmpty then .tup [] else .any
  | v => litS v
def ev (F : Fr) (x : Operand) : AV :=
  match x with
  | .tmp t => (F.tm.get t).getD .any
  | .const v => litV v
  | .global _ => .any
  | .func f => .func (.func f) [] []
def AV.one : AV → Bool
  | .any | .agg _ | .tup _ => false
  | _ => true
def AV.cells? : AV → Option (List AV)
  | .agg cs => some cs
  | .any | .tup _ => none
  | v => some [v]
def isAggB (P : Program) (t : TypeId) : Option Bool :=
  match P.underlying t with
  | some (.struct _) | some (.array _ _) => some true
  | some _ => some false
  | none => none
def sizeB (P : Program) (t : TypeId) : Option Nat := (P.info? t).map (·.size)
def zeroA (P : Program) (t : TypeId) : Option AV :=
  match P.info? t with
  | some i => i.zero.map litV
  | none => none
def setMany (l : List AV) (o : Nat) (vs : List AV) : List AV :=
  match vs with
  | [] => l
  | v :: r => setMany (l.set o v) (o + 1) r
def fillA (place : Nat → Option (Nat × Nat)) (cells : List AV) : List (Nat × AV) → Option (List AV)
  | [] => some cells
  | (i, v) :: rest =>
    match place i with
    | none => none
    | some (off, size) =>
      match v.cells? with
      | some vc => bif Nat.beq vc.length size && Nat.ble (off + size) cells.length then fillA place (setMany cells off vc) rest else none
      | none => none
def partA (P : Program) (t : TypeId) (cs : List AV) (off : Nat) : Option AV :=
  match isAggB P t, sizeB P t with
  | some true, some n => bif Nat.ble (off + n) cs.length then some (.agg ((cs.drop off).take n)) else none
  | some false, some _ => cs[off]?
  | _, _ => none
def ckOf : AV → Option CK
  | .int k _ => some (.int k)
  | .bool _ => some .bool
  | .str _ => some .str
  | _ => none
def seOf : AV → SE
  | .int _ e | .bool e | .str e => e
  | _ => .nil
def rowE (cs : List AV) : SE :=
  match cs with
  | [v] => seOf v
  | cs => cs.foldr (fun v r => .bin .cons (seOf v) r) .nil
def litN : SE → Option Nat
  | .int (.ofNat n) => some n
  | _ => none
def eqA (P : Program) (f : Nat) (t : TypeId) (x y : AV) : Option SE :=
  match f with
  | 0 => none
  | f + 1 =>
    match P.underlying t, x, y with
    | some .bool, .bool a, .bool b => some (mkB .eqb a b)
    | some (.int _), .int k a, .int k' b => if k = k' then some (mkB .eq a b) else none
    | some .string, .str a, .str b => some (mkB .eqs a b)
    | some (.struct fs), .agg xs, .agg ys =>
      bif P.stoodInHeld t then none else
      fs.toList.foldr (fun fl (acc : Option SE) =>
        match acc with
        | none => none
        | some s => if fl.name = "_" then some s else
          match partA P fl.type xs fl.offset, partA P fl.type ys fl.offset with
          | some u, some v => (match eqA P f fl.type u v with | some e => some (mkB .and e s) | none => none)
          | _, _ => none) (some (.bool true))
    | _, _, _ => none
def eqlA (P : Program) (t : TypeId) (x y : AV) : Option SE :=
  match x, y with
  | .agg _, .agg _ => bif P.eqGuardType P.depth t then none else eqA P 20 t x y
  | .nili, .nili => (match P.underlying t with | some (.interface ms) => bif ms.isEmpty then some (.bool true) else none | _ => none)
  | .nili, .iface _ _ => (match P.underlying t with | some (.interface _) => some (.bool false) | _ => none)
  | .iface _ _, .nili => (match P.underlying t with | some (.interface _) => some (.bool false) | _ => none)
  | .nils, .nils => (match P.underlying t with | some (.slice _) => some (.bool true) | _ => none)
  | _, _ => eqA P 1 t x y
def i64 (e : SE) : AV := .int .i64 e
def ltE (a b : SE) : SE := mkU .not (mkB .le b a)
def binA (P : Program) (op : BinOp) (t : TypeId) (x y : AV) : Option (AV × List SE) :=
  match op, x, y with
  | .shl, .int k a, .int _ b => some (.int k (mkB (.shl k) a b), [mkB .le (.int 0) b])
  | .shr, .int k a, .int _ b => some (.int k (mkB (.shr k) a b), [mkB .le (.int 0) b])
  | op, .int k a, .int k' b =>
    if k = k' then
      match op with
      | .add => some (.int k (mkU (.wrap k) (mkB .add a b)), [])
      | .sub => some (.int k (mkU (.wrap k) (mkB .sub a b)), [])
      | .mul => some (.int k (mkU (.wrap k) (mkB .mul a b)), [])
      | .quo => some (.int k (mkU (.wrap k) (mkB .tdiv a b)), [mkU .not (mkB .eq b (.int 0))])
      | .rem => some (.int k (mkB .tmod a b), [mkU .not (mkB .eq b (.int 0))])
      | .and => some (.int k (mkB (.band k) a b), [])
      | .or => some (.int k (mkB (.bor k) a b), [])
      | .xor => some (.int k (mkB (.bxor k) a b), [])
      | .andNot => some (.int k (mkB (.bandn k) a b), [])
      | .eql => some (.bool (mkB .eq a b), [])
      | .neq => some (.bool (mkU .not (mkB .eq a b)), [])
      | .lss => some (.bool (ltE a b), [])
      | .leq => some (.bool (mkB .le a b), [])
      | .gtr => some (.bool (ltE b a), [])
      | .geq => some (.bool (mkB .le b a), [])
      | _ => none
    else none
  | op, .str a, .str b =>
    match op with
    | .add => some (.str (mkB .cat a b), [mkB .le (mkB .add (mkU .slen a) (mkU .slen b)) (.int 9223372036854775807)])
    | .eql => some (.bool (mkB .eqs a b), [])
    | .neq => some (.bool (mkU .not (mkB .eqs a b)), [])
    | .lss => some (.bool (mkB .slt a b), [])
    | _ => none
  | .eql, .sl _ _ _ len _, .nils => (match P.underlying t with | some (.slice _) => some (.boolu (mkB .le len (.int 0)), []) | _ => none)
  | .eql, x, y => (eqlA P t x y).map fun e => (.bool e, [])
  | .neq, x, y => (eqlA P t x y).map fun e => (.bool (mkU .not e), [])
  | _, _, _ => none
def boundA (x : Option AV) (d : SE) (hi : SE) : Option (SE × List SE) :=
  match x with
  | none => some (d, [])
  | some (.int _ e) => some (e, [mkB .le (.int 0) e, mkB .le e hi])
  | some _ => none
def opV (P : Program) (o : Oper) (ev : Operand → AV) : Option (AV × List SE) :=
  match o.op with
  | .move x | .assign x => some (ev x, [])
  | .build t parts =>
    match zeroA P t, P.underlying t with
    | some z, some (.struct fs) =>
      (match z.cells?, fs.toList.mapM (fun f => sizeB P f.type) with
      | some zc, some szs => (fillA (fun i => match fs[i]?, szs[i]? with | some f, some n => some (f.offset, n) | _, _ => none) zc (parts.toList.map fun p => (p.1, ev p.2))).map fun cs => (.agg cs, [])
      | _, _ => none)
    | some z, some (.array _ e) =>
      (match sizeB P e, z.cells? with
      | some n, some zc => (fillA (fun i => some (i * n, n)) zc (parts.toList.map fun p => (p.1, ev p.2))).map fun cs => (.agg cs, [])
      | _, _ => none)
    | _, _ => none
  | .nilCheck x =>
    match ev x with
    | .ptr b o => some (.ptr b o, [])
    | .elt b s i j => some (.elt b s i j, [])
    | .nelt b s i j ks x c => some (.nelt b s i j ks x c, [])
    | .func (.func f) a b => some (.func (.func f) a b, [])
    | _ => none
  | .binOp op t x y _ => binA P op t (ev x) (ev y)
  | .unOp op _ x =>
    match op, ev x with
    | .neg, .int k e => some (.int k (mkU (.wrap k) (mkB .sub (.int 0) e)), [])
    | .xor, .int k e => some (.int k (mkB (.bxor k) (.int (if k.signed then -1 else k.max)) e), [])
    | .not, .bool e => some (.bool (mkU .not e), [])
    | _, _ => none
  | .convert s d x =>
    match P.underlying s, P.underlying d, ev x with
    | some _, some (.int k), .int _ e => some (.int k (mkU (.wrap k) e), [])
    | some _, some .string, .str e => some (.str e, [])
    | _, _, _ => none
  | .makeInterface t x =>
    match P.underlying t with
    | some (.interface _) => none
    | some _ => some (.iface t (ev x), [])
    | none => none
  | .makeFunc fn first cap => some (.func fn (first.toList.map ev) (cap.toList.map ev), [])
  | .fieldAddr t x f =>
    match P.underlying t with
    | some (.struct fs) =>
      (match fs[f]? with
      | some fl => (match sizeB P fl.type, ev x with
        | some (_ + 1), .ptr b o => some (.ptr b (o + fl.offset), [])
        | some (_ + 1), .elt b s i j => some (.elt b s i (j + fl.offset), [])
        | some (_ + 1), .nelt b s i j ks x c => some (.nelt b s i j ks x (c + fl.offset), [])
        | _, _ => none)
      | none => none)
    | _ => none
  | .field t x f =>
    match P.underlying t, ev x with
    | some (.struct fs), .agg cs => (match fs[f]? with | some fl => (partA P fl.type cs fl.offset).map fun v => (v, []) | none => none)
    | _, _ => none
  | .indexAddr t x i =>
    match P.underlying t, ev x, ev i with
    | some (.slice el), .sl b s off len _, .int _ e =>
      (match sizeB P el with
      | some n => bif Nat.beq n s then
          (match litN (mkB .add off e) with
          | some q => some (.ptr b (q * s), [mkB .le (.int 0) e, ltE e len])
          | none => some (.elt b s (mkB .add off e) 0, [mkB .le (.int 0) e, ltE e len])) else none
      | none => none)
    | some (.slice el), .nsl b s i j ks len, .int _ e =>
      (match sizeB P el with
      | some n => bif Nat.beq n ks.length then some (.nelt b s i j ks e 0, [mkB .le (.int 0) e, ltE e len]) else none
      | none => none)
    | some (.array n el), .ptr b o, .int _ e =>
      (match sizeB P el, litN e with
      | some s, some q => bif Nat.blt q n then some (.ptr b (o + q * s), []) else none
      | _, _ => none)
    | _, _, _ => none
  | .index t x i =>
    match P.underlying t, ev x, ev i with
    | some (.array n el), .agg cs, .int _ e =>
      (match sizeB P el, litN e with
      | some s, some q => bif Nat.blt q n then (partA P el cs (q * s)).map fun v => (v, []) else none
      | _, _ => none)
    | some .string, .str s, .int _ e => some (.int .u8 (mkB .byte s e), [mkB .le (.int 0) e, ltE e (mkU .slen s)])
    | _, _, _ => none
  | .slice t x lo hi mx =>
    match P.underlying t, ev x with
    | some .string, .str s =>
      (match mx, boundA (hi.map ev) (mkU .slen s) (mkU .slen s) with
      | none, some (h, c1) => (match boundA (lo.map ev) (.int 0) h with
        | some (l, c2) => some (.str (mkB .sdrop (mkB .stake s h) l), c1 ++ c2)
        | none => none)
      | _, _ => none)
    | some (.slice el), .sl b s off len cap =>
      (match sizeB P el, mx, cap, hi with
      | some n, none, some c, _ => bif Nat.beq n s then
          (match boundA (hi.map ev) len c with
          | some (h, c1) => (match boundA (lo.map ev) (.int 0) h with
            | some (l, c2) => some (.sl b s (mkB .add off l) (mkB .sub h l) (some (mkB .sub c l)), c1 ++ c2)
            | none => none)
          | none => none) else none
      | some n, none, none, _ => bif Nat.beq n s then
          (match boundA (hi.map ev) len len with
          | some (h, c1) => (match boundA (lo.map ev) (.int 0) h with
            | some (l, c2) => some (.sl b s (mkB .add off l) (mkB .sub h l) none, c1 ++ c2)
            | none => none)
          | none => none) else none
      | some n, some _, _, some _ => bif Nat.beq n s then
          (match boundA (mx.map ev) (cap.getD len) (cap.getD len) with
          | some (mm, c0) => (match boundA (hi.map ev) len mm with
            | some (h, c1) => (match boundA (lo.map ev) (.int 0) h with
              | some (l, c2) => some (.sl b s (mkB .add off l) (mkB .sub h l) (some (mkB .sub mm l)), c0 ++ (c1 ++ c2))
              | none => none)
            | none => none)
          | none => none) else none
      | _, _, _, _ => none)
    | some (.slice el), .nils =>
      (match sizeB P el, mx, boundA (hi.map ev) (.int 0) (.int 0) with
      | some _, none, some (h, c1) => (match boundA (lo.map ev) (.int 0) h with
        | some (_, c2) => some (.nils, c1 ++ c2)
        | none => none)
      | _, _, _ => none)
    | _, _ => none
  | .extract x i =>
    match ev x with
    | .tup vs => (vs[i]?).map fun v => (v, [])
    | _ => none
  | .typeAssert x _ a ok =>
    match P.underlying a, ev x with
    | some (.interface _), _ => none
    | some _, .iface t v => if t = a then some (if ok then .tup [v, .bool (.bool true)] else v, []) else if ok then (zeroA P a).map fun z => (.tup [z, .bool (.bool false)], []) else none
    | some _, .nili => if ok then (zeroA P a).map fun z => (.tup [z, .bool (.bool false)], []) else none
    | _, _ => none
  | .call { callee := .builtin b, args, argTypes } =>
    match b, (args.toList.map ev), argTypes.toList with
    | .len, [x], [t] =>
      (match P.underlying t, x with
      | some .string, .str s => some (i64 (mkU .slen s), [])
      | some (.array n _), _ => some (i64 (.int n), [])
      | some (.slice _), .sl _ _ _ len _ => some (i64 len, [])
      | some (.slice _), .nils => some (i64 (.int 0), [])
      | some (.slice _), .nsl _ _ _ _ _ len => some (i64 len, [])
      | _, _ => none)
    | .min, [.int k a, .int _ b], _ => some (.int k (mkT .ite (ltE b a) b a), [])
    | .max, [.int k a, .int _ b], _ => some (.int k (mkT .ite (ltE a b) b a), [])
    | _, _, _ => none
  | _ => none
def op_build (P : Program) (ev : Operand → AV) (t : TypeId) (parts : Array (Nat × Operand)) : Option (AV × List SE) :=
    match zeroA P t, P.underlying t with
    | some z, some (.struct fs) =>
      (match z.cells?, fs.toList.mapM (fun f => sizeB P f.type) with
      | some zc, some szs => (fillA (fun i => match fs[i]?, szs[i]? with | some f, some n => some (f.offset, n) | _, _ => none) zc (parts.toList.map fun p => (p.1, ev p.2))).map fun cs => (.agg cs, [])
      | _, _ => none)
    | some z, some (.array _ e) =>
      (match sizeB P e, z.cells? with
      | some n, some zc => (fillA (fun i => some (i * n, n)) zc (parts.toList.map fun p => (p.1, ev p.2))).map fun cs => (.agg cs, [])
      | _, _ => none)
    | _, _ => none
def op_nilCheck (P : Program) (ev : Operand → AV) (x : Operand) : Option (AV × List SE) :=
    match ev x with
    | .ptr b o => some (.ptr b o, [])
    | .elt b s i j => some (.elt b s i j, [])
    | .nelt b s i j ks x c => some (.nelt b s i j ks x c, [])
    | .func (.func f) a b => some (.func (.func f) a b, [])
    | _ => none
def op_binOp (P : Program) (ev : Operand → AV) (op : BinOp) (t : TypeId) (x y : Operand) : Option (AV × List SE) := binA P op t (ev x) (ev y)
def op_unOp (P : Program) (ev : Operand → AV) (op : UnOp) (x : Operand) : Option (AV × List SE) :=
    match op, ev x with
    | .neg, .int k e => some (.int k (mkU (.wrap k) (mkB .sub (.int 0) e)), [])
    | .xor, .int k e => some (.int k (mkB (.bxor k) (.int (if k.signed then -1 else k.max)) e), [])
    | .not, .bool e => some (.bool (mkU .not e), [])
    | _, _ => none
def op_convert (P : Program) (ev : Operand → AV) (s d : TypeId) (x : Operand) : Option (AV × List SE) :=
    match P.underlying s, P.underlying d, ev x with
    | some _, some (.int k), .int _ e => some (.int k (mkU (.wrap k) e), [])
    | some _, some .string, .str e => some (.str e, [])
    | _, _, _ => none
def op_makeInterface (P : Program) (ev : Operand → AV) (t : TypeId) (x : Operand) : Option (AV × List SE) :=
    match P.underlying t with
    | some (.interface _) => none
    | some _ => some (.iface t (ev x), [])
    | none => none
def op_fieldAddr (P : Program) (ev : Operand → AV) (t : TypeId) (x : Operand) (f : Nat) : Option (AV × List SE) :=
    match P.underlying t with
    | some (.struct fs) =>
      (match fs[f]? with
      | some fl => (match sizeB P fl.type, ev x with
        | some (_ + 1), .ptr b o => some (.ptr b (o + fl.offset), [])
        | some (_ + 1), .elt b s i j => some (.elt b s i (j + fl.offset), [])
        | some (_ + 1), .nelt b s i j ks x c => some (.nelt b s i j ks x (c + fl.offset), [])
        | _, _ => none)
      | none => none)
    | _ => none
def op_field (P : Program) (ev : Operand → AV) (t : TypeId) (x : Operand) (f : Nat) : Option (AV × List SE) :=
    match P.underlying t, ev x with
    | some (.struct fs), .agg cs => (match fs[f]? with | some fl => (partA P fl.type cs fl.offset).map fun v => (v, []) | none => none)
    | _, _ => none
def op_indexAddr (P : Program) (ev : Operand → AV) (t : TypeId) (x i : Operand) : Option (AV × List SE) :=
    match P.underlying t, ev x, ev i with
    | some (.slice el), .sl b s off len _, .int _ e =>
      (match sizeB P el with
      | some n => bif Nat.beq n s then
          (match litN (mkB .add off e) with
          | some q => some (.ptr b (q * s), [mkB .le (.int 0) e, ltE e len])
          | none => some (.elt b s (mkB .add off e) 0, [mkB .le (.int 0) e, ltE e len])) else none
      | none => none)
    | some (.slice el), .nsl b s i j ks len, .int _ e =>
      (match sizeB P el with
      | some n => bif Nat.beq n ks.length then some (.nelt b s i j ks e 0, [mkB .le (.int 0) e, ltE e len]) else none
      | none => none)
    | some (.array n el), .ptr b o, .int _ e =>
      (match sizeB P el, litN e with
      | some s, some q => bif Nat.blt q n then some (.ptr b (o + q * s), []) else none
      | _, _ => none)
    | _, _, _ => none
def op_index (P : Program) (ev : Operand → AV) (t : TypeId) (x i : Operand) : Option (AV × List SE) :=
    match P.underlying t, ev x, ev i with
    | some (.array n el), .agg cs, .int _ e =>
      (match sizeB P el, litN e with
      | some s, some q => bif Nat.blt q n then (partA P el cs (q * s)).map fun v => (v, []) else none
      | _, _ => none)
    | some .string, .str s, .int _ e => some (.int .u8 (mkB .byte s e), [mkB .le (.int 0) e, ltE e (mkU .slen s)])
    | _, _, _ => none
def op_slice (P : Program) (ev : Operand → AV) (t : TypeId) (x : Operand) (lo hi mx : Option Operand) : Option (AV × List SE) :=
    match P.underlying t, ev x with
    | some .string, .str s =>
      (match mx, boundA (hi.map ev) (mkU .slen s) (mkU .slen s) with
      | none, some (h, c1) => (match boundA (lo.map ev) (.int 0) h with
        | some (l, c2) => some (.str (mkB .sdrop (mkB .stake s h) l), c1 ++ c2)
        | none => none)
      | _, _ => none)
    | some (.slice el), .sl b s off len cap =>
      (match sizeB P el, mx, cap, hi with
      | some n, none, some c, _ => bif Nat.beq n s then
          (match boundA (hi.map ev) len c with
          | some (h, c1) => (match boundA (lo.map ev) (.int 0) h with
            | some (l, c2) => some (.sl b s (mkB .add off l) (mkB .sub h l) (some (mkB .sub c l)), c1 ++ c2)
            | none => none)
          | none => none) else none
      | some n, none, none, _ => bif Nat.beq n s then
          (match boundA (hi.map ev) len len with
          | some (h, c1) => (match boundA (lo.map ev) (.int 0) h with
            | some (l, c2) => some (.sl b s (mkB .add off l) (mkB .sub h l) none, c1 ++ c2)
            | none => none)
          | none => none) else none
      | some n, some _, _, some _ => bif Nat.beq n s then
          (match boundA (mx.map ev) (cap.getD len) (cap.getD len) with
          | some (mm, c0) => (match boundA (hi.map ev) len mm with
            | some (h, c1) => (match boundA (lo.map ev) (.int 0) h with
              | some (l, c2) => some (.sl b s (mkB .add off l) (mkB .sub h l) (some (mkB .sub mm l)), c0 ++ (c1 ++ c2))
              | none => none)
            | none => none)
          | none => none) else none
      | _, _, _, _ => none)
    | some (.slice el), .nils =>
      (match sizeB P el, mx, boundA (hi.map ev) (.int 0) (.int 0) with
      | some _, none, some (h, c1) => (match boundA (lo.map ev) (.int 0) h with
        | some (_, c2) => some (.nils, c1 ++ c2)
        | none => none)
      | _, _, _ => none)
    | _, _ => none
def op_typeAssert (P : Program) (ev : Operand → AV) (x : Operand) (a : TypeId) (ok : Bool) : Option (AV × List SE) :=
    match P.underlying a, ev x with
    | some (.interface _), _ => none
    | some _, .iface t v => if t = a then some (if ok then .tup [v, .bool (.bool true)] else v, []) else if ok then (zeroA P a).map fun z => (.tup [z, .bool (.bool false)], []) else none
    | some _, .nili => if ok then (zeroA P a).map fun z => (.tup [z, .bool (.bool false)], []) else none
    | _, _ => none
def op_call (P : Program) (ev : Operand → AV) (b : Builtin) (args : Array Operand) (argTypes : Array TypeId) : Option (AV × List SE) :=
    match b, (args.toList.map ev), argTypes.toList with
    | .len, [x], [t] =>
      (match P.underlying t, x with
      | some .string, .str s => some (i64 (mkU .slen s), [])
      | some (.array n _), _ => some (i64 (.int n), [])
      | some (.slice _), .sl _ _ _ len _ => some (i64 len, [])
      | some (.slice _), .nils => some (i64 (.int 0), [])
      | some (.slice _), .nsl _ _ _ _ _ len => some (i64 len, [])
      | _, _ => none)
    | .min, [.int k a, .int _ b], _ => some (.int k (mkT .ite (ltE b a) b a), [])
    | .max, [.int k a, .int _ b], _ => some (.int k (mkT .ite (ltE a b) b a), [])
    | _, _, _ => none
def opVf (P : Program) (o : Oper) (ev : Operand → AV) : Option (AV × List SE) :=
  match o.op with
  | .move x | .assign x => some (ev x, [])
  | .build t parts => op_build P ev t parts
  | .nilCheck x => op_nilCheck P ev x
  | .binOp op t x y _ => op_binOp P ev op t x y
  | .unOp op _ x => op_unOp P ev op x
  | .convert s d x => op_convert P ev s d x
  | .makeInterface t x => op_makeInterface P ev t x
  | .makeFunc fn first cap => some (.func fn (first.toList.map ev) (cap.toList.map ev), [])
  | .fieldAddr t x f => op_fieldAddr P ev t x f
  | .field t x f => op_field P ev t x f
  | .indexAddr t x i => op_indexAddr P ev t x i
  | .index t x i => op_index P ev t x i
  | .slice t x lo hi mx => op_slice P ev t x lo hi mx
  | .extract x i =>
    match ev x with
    | .tup vs => (vs[i]?).map fun v => (v, [])
    | _ => none
  | .typeAssert x _ a ok => op_typeAssert P ev x a ok
  | .call { callee := .builtin b, args, argTypes } => op_call P ev b args argTypes
  | _ => none
theorem opVf_eq (P : Program) (o : Oper) (ev : Operand → AV) : opVf P o ev = opV P o ev := by
  obtain ⟨dst, op, ty, pos, after, guard⟩ := o
  cases op with
  | call c =>
    obtain ⟨callee, args, ats⟩ := c
    cases callee <;> rfl
  | _ => rfl
def readN (g : Bool) (n b : Nat) (ns : List NK) (e i : SE) (j : Nat) : Option (AV × List SE) :=
  bif Nat.ble (j + n) ns.length then
    bif g then some (.agg (((ns.drop j).take n).zipIdx.map fun p => p.1.av b ns.length i (j + p.2) (mkB .idx e i)), [mkB .le (.int 0) i, ltE i (mkU .len e)])
    else (ns[j]?).map fun k => (k.av b ns.length i j (mkB .idx e i), [mkB .le (.int 0) i, ltE i (mkU .len e)])
  else none
def readS (g : Bool) (n s : Nat) (ns : List NK) (e i : SE) (j : Nat) (ks : List CK) (x : SE) (c : Nat) : Option (AV × List SE) :=
  bif Nat.beq s ns.length && (decide (ns[j]? = some (.sub ks)) && Nat.ble (c + n) ks.length) then
    let l := mkB .idx (mkB .idx e i) (.int j)
    let cs := [mkB .le (.int 0) i, ltE i (mkU .len e), mkB .le (.int 0) x, ltE x (mkU .len l)]
    bif g then some (.agg (((ks.drop c).take n).zipIdx.map fun p => p.1.av (cellE ks (mkB .idx l x) (c + p.2))), cs)
    else (ks[c]?).map fun k => (k.av (cellE ks (mkB .idx l x) c), cs)
  else none
def readA (P : Program) (hp : List (Nat × Ob)) (t : TypeId) (a : AV) : Option (AV × List SE) :=
  match isAggB P t, sizeB P t with
  | some g, some n =>
    (match a with
    | .ptr b o =>
      (match hget hp b with
      | some (.cells cs) => bif Nat.ble (o + n) cs.length then (bif g then some (.agg ((cs.drop o).take n), []) else (cs[o]?).map fun v => (v, [])) else none
      | some (.roc cs) => bif g then none else (cs[o]?).map fun v => (v, [])
      | some (.rows ks e) | some (.ro ks e) =>
        let s := ks.length
        let i := o / s
        let j := o % s
        bif Nat.ble (j + n) s then
          let r := mkB .idx e (.int i)
          bif g then some (.agg (((ks.drop j).take n).zipIdx.map fun p => p.1.av (cellE ks r (j + p.2))), [ltE (.int i) (mkU .len e)])
          else (ks[j]?).map fun k => (k.av (cellE ks r j), [ltE (.int i) (mkU .len e)])
        else none
      | some (.nrows ns e) | some (.nro ns e) => readN g n b ns e (.int (o / ns.length : Nat)) (o % ns.length)
      | _ => none)
    | .elt b s i j =>
      (match hget hp b with
      | some (.rows ks e) | some (.ro ks e) =>
        bif Nat.beq s ks.length && Nat.ble (j + n) s then
          let r := mkB .idx e i
          bif g then some (.agg (((ks.drop j).take n).zipIdx.map fun p => p.1.av (cellE ks r (j + p.2))), [mkB .le (.int 0) i, ltE i (mkU .len e)])
          else (ks[j]?).map fun k => (k.av (cellE ks r j), [mkB .le (.int 0) i, ltE i (mkU .len e)])
        else none
      | some (.nrows ns e) | some (.nro ns e) => bif Nat.beq s ns.length then readN g n b ns e i j else none
      | _ => none)
    | .nelt b s i j ks x c =>
      (match hget hp b with
      | some (.nrows ns e) | some (.nro ns e) => readS g n s ns e i j ks x c
      | _ => none)
    | _ => none)
  | _, _ => none
def opL (P : Program) (o : Oper) (ev : Operand → AV) (hp : List (Nat × Ob)) : Option (AV × List SE) :=
  match o.op with
  | .load t a => readA P hp t (ev a)
  | _ => none
def litSh (q : Bool) (zc : List AV) (a : SE) : Option Nat :=
  match litN a with
  | some n => bif q && (Nat.ble 9 n && (zc.mapM ckOf).isSome) then none else some n
  | none => none
theorem litSh_ok {q : Bool} {zc : List AV} {a : SE} {n : Nat} (h : litSh q zc a = some n) : litN a = some n := by
  unfold litSh at h
  split at h
  · rename_i m hm
    cases hq : (q && (Nat.ble 9 m && (zc.mapM ckOf).isSome)) with
    | true => rw [hq] at h; cases h
    | false => rw [hq] at h; cases h; exact hm
  · cases h
def opA (P : Program) (o : Oper) (ev : Operand → AV) : Option (Ob × (Nat → AV) × List SE) :=
  match o.op with
  | .alloc t =>
    match zeroA P t with
    | some z => (match z.cells? with | some zc => some (.cells zc, fun b => .ptr b 0, []) | none => none)
    | none => none
  | .box _ x => (match (ev x).cells? with | some xc => some (.cells xc, fun b => .ptr b 0, []) | none => none)
  | .buildSlice t len parts =>
    (match P.underlying t with
    | some (.slice el) =>
      (match sizeB P el, zeroA P el with
      | some n, some z =>
        (match z.cells? with
        | some zc => bif Nat.ble (len * n) 1000000 && Nat.beq zc.length n then
          (fillA (fun i => some (i * n, n)) (List.replicate len zc).flatten (parts.toList.map fun p => (p.1, ev p.2))).map fun cs => (.cells cs, fun b => .sl b n (.int 0) (.int len) (some (.int len)), []) else none
        | none => none)
      | _, _ => none)
    | _ => none)
  | .makeSlice t l c =>
    (match P.underlying t, ev l, ev c with
    | some (.slice el), .int .i64 a, .int .i64 b =>
      (match P.info? el, zeroA P el with
      | some inf, some z =>
        (match z.cells? with
        | some zc => bif Nat.beq zc.length inf.size && Nat.ble inf.bytes 10000 then
          (match litSh (decide (a = b)) zc a, litSh (decide (a = b)) zc b with
          | some la, some lb => bif Nat.ble la lb && Nat.ble lb 1000000 then some (.cells (List.replicate lb zc).flatten, fun q => .sl q inf.size (.int 0) (.int la) (some (.int lb)), []) else none
          | _, _ => if a = b then
              (match zc.mapM ckOf with
              | some (k :: ks) => some (.rows (k :: ks) (mkB .rep a (rowE zc)), fun q => .sl q inf.size (.int 0) a (some a), [mkB .le (.int 0) a, mkB .le a (.int 1000000)])
              | _ => none) else none) else none
        | none => none)
      | _, _ => none)
    | _, _, _ => none)
  | .makeMap _ none => some (.map [], fun b => .map b, [])
  | _ => none
end Go.Proofs.YtkfjgggiopegbaaDoor
noncomputable section
namespace Go.Proofs.YtkfjgggiopegbaaDoor
open Go.RowKit
def AV.same (f : Nat) (x y : AV) : Bool :=
  match f with
  | 0 => false
  | f + 1 =>
    let lst := fun (a b : List AV) => Nat.beq a.length b.length && (a.zip b).all fun p => AV.same f p.1 p.2
    match x, y with
    | .int k e, .int k' e' => decide (k = k') && decide (e = e')
    | .bool e, .bool e' => decide (e = e')
    | .str e, .str e' => decide (e = e')
    | .nilp, .nilp => true
    | .ptr b o, .ptr b' o' => Nat.beq b b' && Nat.beq o o'
    | .elt b s i j, .elt b' s' i' j' => Nat.beq b b' && Nat.beq s s' && Nat.beq j j' && decide (i = i')
    | .nils, .nils => true
    | .sl b s o l c, .sl b' s' o' l' c' => Nat.beq b b' && Nat.beq s s' && decide (o = o') && decide (l = l') && decide (c = c')
    | .func fn a b, .func fn' a' b' => decide (fn = fn') && lst a a' && lst b b'
    | .nilf, .nilf => true
    | .iface t v, .iface t' v' => Nat.beq t t' && AV.same f v v'
    | .nili, .nili => true
    | .agg a, .agg b => lst a b
    | .tup a, .tup b => lst a b
    | .map b, .map b' => Nat.beq b b'
    | .nilm, .nilm => true
    | .boolu c, .boolu c' => decide (c = c')
    | .yld b, .yld b' => Nat.beq b b'
    | .nsl b s i j ks l, .nsl b' s' i' j' ks' l' => Nat.beq b b' && (Nat.beq s s' && (Nat.beq j j' && (decide (ks = ks') && (decide (i = i') && decide (l = l')))))
    | .nelt b s i j ks x c, .nelt b' s' i' j' ks' x' c' => Nat.beq b b' && (Nat.beq s s' && (Nat.beq j j' && (Nat.beq c c' && (decide (ks = ks') && (decide (i = i') && decide (x = x'))))))
    | _, _ => false
def srcCells (hp : List (Nat × Ob)) (n : Nat) (x : AV) : Option (List AV) :=
  match x with
  | .nils => some []
  | .sl b s off len _ =>
    (match hget hp b, litN off, litN len with
    | some (.cells cs), some o, some l => bif Nat.beq s n && Nat.ble ((o + l) * s) cs.length then some ((cs.drop (o * s)).take (l * s)) else none
    | _, _, _ => none)
  | _ => none
def srcRows (hp : List (Nat × Ob)) (n : Nat) (x : AV) : Option (List CK × SE × SE × List SE) :=
  match x with
  | .sl b s off len _ =>
    (match hget hp b with
    | some (.rows ks e) | some (.ro ks e) => bif Nat.beq s ks.length && Nat.beq s n then
        (if off = .int 0 ∧ (len = .un .len e ∨ (len = lenE e ∨ len = lenL e)) then some (ks, e, len, []) else some (ks, mkB .take (mkB .drop e off) len, len, [mkB .le (.int 0) len, mkB .le (mkB .add off len) (mkU .len e)])) else none
    | _ => none)
  | _ => none
def chunk (n : Nat) (f : Nat) (cs : List AV) : List (List AV) :=
  match f with
  | 0 => []
  | f + 1 => match cs with | [] => [] | cs => cs.take n :: chunk n f (cs.drop n)
def rowsOf (n : Nat) (cs : List AV) : SE := (chunk n cs.length cs).foldr (fun r e => .bin .cons (rowE r) e) .nil
def allData (ks : List CK) (n f : Nat) (cs : List AV) : Bool :=
  match f with
  | 0 => true
  | f + 1 => match cs with | [] => true | cs => decide ((cs.take n).mapM ckOf = some ks) && allData ks n f (cs.drop n)
inductive DK where
  | zero
  | fixed (b o l c : Nat) (cs : List AV)
  | tip (b l : Nat) (cs : List AV)
  | rows (b : Nat) (ks : List CK) (e len : SE)
def destK (hp : List (Nat × Ob)) (n : Nat) (s : AV) : Option DK :=
  match s with
  | .nils => some .zero
  | .sl b s' off len cap =>
    bif Nat.beq s' n then
      (match litN len, cap.bind litN with
      | some 0, some 0 => some .zero
      | _, _ =>
        (match hget hp b, litN off, litN len, cap with
        | some (.cells cs), some o, some l, some c => (match litN c with | some c => some (.fixed b o l c cs) | none => none)
        | some (.cells cs), some 0, some l, none => bif Nat.beq (l * n) cs.length then some (.tip b l cs) else none
        | some (.rows ks e), some 0, _, _ => bif Nat.beq ks.length n then some (.rows b ks e len) else none
        | _, _, _, _ => none))
    else none
  | _ => none
def appendA (P : Program) (t xt : TypeId) (M : Me) (s x : AV) : Option (AV × Me × List SE) :=
  match P.underlying t, P.underlying xt with
  | some (.slice el), some (.slice _) =>
    (match sizeB P el, P.info? el, (zeroA P el).bind AV.cells? with
    | some (n + 1), some inf, some zc =>
      bif Nat.ble inf.bytes 10000 && Nat.beq zc.length (n + 1) then
      (match srcCells M.hp (n + 1) x with
      | some xs =>
        let m := xs.length / (n + 1)
        let cond := fun (q : Nat) => [mkB .le (.int q) (.int 4294967296)]
        bif Nat.beq m 0 then (match s with | .nils => some (.nils, M, []) | .sl b s' o l c => some (.sl b s' o l c, M, []) | _ => none) else
        bif Nat.beq (m * (n + 1)) xs.length && xs.all AV.one then
        (match destK M.hp (n + 1) s with
        | some .zero => some (.sl M.nb (n + 1) (.int 0) (.int m) none, { M with hp := hset M.hp M.nb (.cells xs), nb := M.nb + 1 }, cond m)
        | some (.fixed b o l c cs) =>
          bif Nat.ble (l + m) c then
            (bif Nat.ble ((o + l + m) * (n + 1)) cs.length then some (.sl b (n + 1) (.int o) (.int (l + m : Nat)) (some (.int c)), { M with hp := hset M.hp b (.cells (setMany cs ((o + l) * (n + 1)) xs)) }, cond (l + m)) else none)
          else (bif Nat.ble ((o + l) * (n + 1)) cs.length then some (.sl M.nb (n + 1) (.int 0) (.int (l + m : Nat)) none, { M with hp := hset M.hp M.nb (.cells ((cs.drop (o * (n + 1))).take (l * (n + 1)) ++ xs)), nb := M.nb + 1 }, cond (l + m)) else none)
        | some (.tip b l cs) => some (.sl M.nb (n + 1) (.int 0) (.int (l + m : Nat)) none, { M with hp := hset (hdel M.hp b) M.nb (.cells (cs ++ xs)), nb := M.nb + 1 }, cond (l + m))
        | some (.rows b ks e len) =>
          bif allData ks (n + 1) xs.length xs then
            some (.sl M.nb (n + 1) (.int 0) (mkB .add len (.int m)) none, { M with hp := hset (hdel M.hp b) M.nb (.rows ks (match chunk (n + 1) xs.length xs with | [r] => mkB .snoc e (rowE r) | _ => mkB .app e (rowsOf (n + 1) xs))), nb := M.nb + 1 }, [mkB .eq len (mkU .len e), mkB .le (mkB .add len (.int m)) (.int 4294967296)])
          else none
        | none => none) else none
      | none =>
        (match srcRows M.hp (n + 1) x with
        | some (ks, e', L, cs) =>
          (match destK M.hp (n + 1) s with
          | some .zero => some (.sl M.nb (n + 1) (.int 0) L none, { M with hp := hset M.hp M.nb (.rows ks e'), nb := M.nb + 1 }, mkB .eq (mkU .len e') L :: mkB .le L (.int 4294967296) :: cs)
          | some (.rows b ks' e len) => if ks' = ks then
              some (.sl M.nb (n + 1) (.int 0) (mkB .add len L) none, { M with hp := hset (hdel M.hp b) M.nb (.rows ks (mkB .app e e')), nb := M.nb + 1 }, mkB .eq len (mkU .len e) :: mkB .eq (mkU .len e') L :: mkB .le (mkB .add len L) (.int 4294967296) :: cs) else none
          | _ => none)
        | none => none)) else none
    | _, _, _ => none)
  | _, _ => none
def storeA (P : Program) (hp : List (Nat × Ob)) (t : TypeId) (a v : AV) : Option (Nat × Ob × List SE) :=
  match sizeB P t with
  | some n =>
    (match v.cells? with
    | none => none
    | some vc =>
    bif Nat.beq vc.length n && vc.all AV.one then
    (match a with
    | .ptr b o =>
      (match hget hp b with
      | some (.cells cs) => bif Nat.ble (o + n) cs.length then some (b, .cells (setMany cs o vc), []) else none
      | _ => none)
    | .elt b s i 0 =>
      (match hget hp b with
      | some (.rows ks e) => bif Nat.beq s ks.length && Nat.beq n s then
          (if vc.mapM ckOf = some ks then some (b, .rows ks (mkT .set e i (rowE vc)), [mkB .le (.int 0) i, ltE i (mkU .len e)]) else none) else none
      | _ => none)
    | _ => none) else none)
  | none => none
def ptrElt (hp : List (Nat × Ob)) (a : AV) : AV :=
  match a with
  | .ptr b o => (match hget hp b with
    | some (.rows ks _) => bif Nat.beq (o / ks.length * ks.length) o then .elt b ks.length (.int (o / ks.length : Nat)) 0 else a
    | _ => a)
  | a => a
def storeX (P : Program) (hp : List (Nat × Ob)) (t : TypeId) (a v : AV) : Option (Nat × Ob × List SE) := storeA P hp t (ptrElt hp a) v
def copyA (P : Program) (t : TypeId) (M : Me) (d x : AV) : Option (AV × Me × List SE) :=
  match P.underlying t with
  | some (.slice el) =>
    (match sizeB P el, d with
    | some (n + 1), .sl b s off len _ =>
      bif Nat.beq s (n + 1) then
      (match hget M.hp b, litN off with
      | some (.rows ks e), some 0 =>
        (match srcRows M.hp (n + 1) x with
        | some (ks', e', l', cs) => if len = l' ∧ ks' = ks then some (i64 l', { M with hp := hset M.hp b (.rows ks e') }, mkB .eq (mkU .len e) len :: mkB .eq (mkU .len e') len :: cs) else none
        | none => none)
      | some (.cells ds), some o =>
        (match litN len, srcCells M.hp (n + 1) x with
        | some l, some xs =>
          let m := xs.length / (n + 1)
          bif Nat.blt 0 m && (Nat.ble m l && (Nat.beq (m * (n + 1)) xs.length && (xs.all AV.one && Nat.ble ((o + l) * (n + 1)) ds.length))) then some (i64 (.int m), { M with hp := hset M.hp b (.cells (setMany ds (o * (n + 1)) xs)) }, []) else none
        | _, _ => none)
      | _, _ => none) else none
    | _, _ => none)
  | _ => none
inductive Kd where
  | v | l | a | h
  deriving DecidableEq
def kindOf (o : Oper) : Kd :=
  match o.op with
  | .load .. | .convert .. => .l
  | .alloc _ | .box .. | .buildSlice .. | .makeSlice .. | .makeMap .. => .a
  | .store .. | .insert .. | .lookup .. | .mapUpdate .. | .defer _ | .panic _ => .h
  | .call { callee := .builtin b, .. } => (match b with | .len | .min | .max => .v | _ => .h)
  | .call _ => .h
  | _ => .v
structure Dr where
  ops : Array Oper
  b : Array Nat
  q : Nat
def isH (ops : Array Oper) (i : Nat) : Bool := match ops[i]? with | some o => decide (kindOf o = .h) | none => false
def isL (ops : Array Oper) (i : Nat) : Bool := match ops[i]? with | some o => decide (kindOf o = .l) | none => false
def lights (ops : Array Oper) (b : Array Nat) : List Nat → Nat → List Nat × Nat
  | [], done => ([], done)
  | i :: r, done =>
    bif !isH ops i && !done.testBit i && Nat.beq (Nat.lor (b.getD i 0) done) done then
      (match lights ops b r (Nat.lor done (2 ^ i)) with | (l, d) => (i :: l, d))
    else lights ops b r done
def canon (ops : Array Oper) (b : Array Nat) (hv : List Nat) (done : Nat) : List Nat :=
  match lights ops b (List.range ops.size) done with
  | (l, d) => match hv with
    | [] => l
    | h :: r => l ++ h :: canon ops b r (Nat.lor d (2 ^ h))
def validB (ops : Array Oper) (b : Array Nat) : Nat → List Nat → Bool
  | rem, [] => Nat.beq rem 0
  | rem, i :: r => Nat.beq (Nat.land (b.getD i 0) rem) 0 && rem.testBit i && (!isH ops i || r.all fun j => (b.getD j 0).testBit i) && validB ops b (Nat.xor rem (2 ^ i)) r
def tmpsOf (ops : Array Oper) (o : Oper) : List Tmp :=
  (match o.guard with | some (j, _) => ((ops[j]?).bind (·.dst)).toList | none => []) ++ o.op.operands.toList.filterMap fun | .tmp t => some t | _ => none
def writers (t : Tr) : List (Oper × Nat) → Option Tr
  | [] => some t
  | (o, i) :: r => match o.dst with
    | none => writers t r
    | some d => match t.set 20 d (.ptr i 0) with | some t => writers t r | none => none
def tidyB (ops : Array Oper) (b : Array Nat) (W : Tr) (l : List (Oper × Nat)) : Bool :=
  l.all fun (o, i) =>
    (match o.dst with | none => true | some d => (match W.get d with | some (.ptr j _) => Nat.beq i j | _ => false)) &&
    ((tmpsOf ops o).all fun t => match W.get t with | none => true | some (.ptr j _) => (b.getD i 0).testBit j || (!decide (kindOf o = .l) && ((b.getD j 0).testBit i || Nat.beq i j)) | _ => false) &&
    Nat.beq (b.getD i 0) (o.after.toList.foldl (fun u e => bif Region.binds .any e then Nat.lor u (Nat.lor (2 ^ e.on) (b.getD e.on 0)) else u) 0) &&
    (o.after.toList.all fun e => !Region.binds .any e || Nat.blt e.on i)
def tidy (ops : Array Oper) (b : Array Nat) : Bool :=
  match writers .lf ops.toList.zipIdx with
  | some W => tidyB ops b W ops.toList.zipIdx
  | none => false
def blank (t : Tr) : List Tmp → Option Tr
  | [] => some t
  | d :: r => match t.put d .any with | some t => blank t r | none => none
def dsts (ops : Array Oper) (p : Nat → Bool) : List Tmp := (ops.toList.zipIdx.filter fun x => p x.2).filterMap fun x => x.1.dst
def keepHp (q n : Nat) (bits : Nat) (hp : List (Nat × Ob)) : List (Nat × Ob) := hfilt (fun c => Nat.blt c q || Nat.ble (q + n) c || bits.testBit (c - q)) hp
def dropHp (q n : Nat) (bits : Nat) (hp : List (Nat × Ob)) : List (Nat × Ob) := hfilt (fun c => !(Nat.blt c q || Nat.ble (q + n) c || bits.testBit (c - q))) hp
theorem dropHp_eq (q n : Nat) (bits : Nat) (hp : List (Nat × Ob)) : dropHp q n bits hp = hp.filter fun p => !(Nat.blt p.1 q || Nat.ble (q + n) p.1 || bits.testBit (p.1 - q)) := hfilt_eq _ hp
def plainO (o : Oper) : Bool := match o.op with | .defer _ => false | _ => true
def plainC : Code → Bool
  | .region _ ops _ => ops.toList.all plainO
  | .seq a b => plainC a && plainC b
  | .cond _ a b => plainC a && plainC b
  | .block _ c => plainC c
  | .loop c => plainC c
  | .scope c => plainC c
  | .rangeFunc .. => false
  | _ => true
inductive Task where
  | code (c : Code)
  | loop (c : Code)
  | ops (ops : Array Oper) (l : List Oper)
  | call (f : AV) (args : List AV)
  | draw (D : Dr) (todo : List Nat)
  | defers (fn : Func) (ds : List (AV × List AV)) (pn : Option AV)
def Fr.tmTo (F : Fr) (tm : Tr) : Fr := match F with | ⟨_, n, df⟩ => ⟨tm, n, df⟩
def Fr.dfTo (F : Fr) (df : List (AV × List AV)) : Fr := match F with | ⟨tm, n, _⟩ => ⟨tm, n, df⟩
def Fr.put (F : Fr) (d : Option Tmp) (v : AV) (k : Fr → T) : T :=
  match d with
  | none => k F
  | some d => match F with | ⟨tm0, n, df⟩ => bif Nat.blt d n then (match tm0.put d v with | some tm => k ⟨tm, n, df⟩ | none => .fail 2) else .fail 3
def keyNe (kk : IntKind) (q : Int) (p : AV × AV) : Bool := match p.1 with | .int kk' (.int q') => decide (kk = kk') && !decide (q = q') | _ => false
def keyIs (kk : IntKind) (p : AV × AV) : Bool := match p.1 with | .int kk' _ => decide (kk = kk') | _ => false
def findA (M : Me) (k : SE) (es : List (AV × AV)) (yes : AV → Me → T) (no : Me → T) : T :=
  match es with
  | [] => no M
  | (.int _ e, v) :: r => test M (mkB .eq k e) fun b M => if b then yes v M else findA M k r yes no
  | _ => .fail 4
def resultsA (P : Program) (F : Fr) (M : Me) (rs : List ResultVar) (k : List AV → Me → T) : T :=
  match rs with
  | [] => k [] M
  | .tmp t :: r => resultsA P F M r fun vs M => k ((F.tm.get t).getD .any :: vs) M
  | .cell a t :: r =>
    match readA P M.hp t ((F.tm.get a).getD .any) with
    | some (v, cs) => needs M cs fun M => resultsA P F M r fun vs M => k (v :: vs) M
    | none => .fail 5
def argsTm (f i : Nat) (t : Tr) (l : List AV) : Option Tr :=
  match f, l with
  | _, [] => some t
  | 0, _ => none
  | f + 1, v :: r => match t.put i v with | some t => argsTm f (i + 1) t r | none => none
def undefA : AV := .tup []
def fullTr (d : Nat) : Tr := match d with | 0 => .lf | d + 1 => .nd (some undefA) (fullTr d) (fullTr d)
def undefTm (n : Nat) : Option Tr := some (fullTr (Nat.log2 n + 1))
inductive Cl where
  | pl (k : CK)
  | rows (own : Bool) (ks : List CK)
  | nst (ns : List NK)
  deriving DecidableEq
inductive Sh where
  | one (c : Cl) | agg (cs : List Cl)
def Sh.cls : Sh → List Cl
  | .one c => [c]
  | .agg cs => cs
def clsOf (shs : List Sh) : List Cl := match shs with | [] => [] | s :: r => s.cls ++ clsOf r
def flatA (shs : List Sh) (as : List AV) : Option (List AV) :=
  match shs with
  | [] => (match as with | [] => some [] | _ => none)
  | .one _ :: r => (match as with
    | a :: l => (match flatA r l with | some x => some (a :: x) | none => none)
    | [] => none)
  | .agg cs :: r => (match as with
    | .agg us :: l => bif Nat.beq us.length cs.length then (match flatA r l with | some x => some (us ++ x) | none => none) else none
    | _ => none)
def packA (shs : List Sh) (fl : List AV) : List AV :=
  match shs with
  | [] => []
  | .one _ :: r => (match fl with | a :: l => a :: packA r l | [] => [])
  | .agg cs :: r => .agg (fl.take cs.length) :: packA r (fl.drop cs.length)
def cellX (hp : List (Nat × Ob)) (c : Cl) (a : AV) : Option (SE × List SE) :=
  match c with
  | .pl k => (match ckOf a with | some k' => if k' = k then some (seOf a, []) else none | none => none)
  | .rows _ ks =>
    bif ks.isEmpty then none else
    match srcRows hp ks.length a with
    | some (ks', e, _, cs) => if ks' = ks then some (e, cs) else none
    | none => match srcCells hp ks.length a with
      | some xs => bif allData ks ks.length xs.length xs then some (rowsOf ks.length xs, []) else none
      | none => none
  | .nst ns =>
    bif ns.isEmpty then none else
    match a with
    | .nils => some (.nil, [])
    | .sl b s off len _ =>
      (match hget hp b with
      | some (.nrows ns' e) | some (.nro ns' e) => bif Nat.beq s ns.length && decide (ns' = ns) then
          (if off = .int 0 then (if len = .un .len e ∨ (len = lenE e ∨ len = lenL e) then some (e, []) else some (mkB .take e len, [mkB .le (.int 0) len, mkB .le len (mkU .len e)])) else none) else none
      | _ => none)
    | _ => none
def cellsX (hp : List (Nat × Ob)) (cs : List Cl) (as : List AV) : Option (List SE × List SE) :=
  match cs, as with
  | [], [] => some ([], [])
  | c :: cs, a :: as => (match cellX hp c a with
    | some (e, q) => (match cellsX hp cs as with | some (es, qs) => some (e :: es, q ++ qs) | none => none)
    | none => none)
  | _, _ => none
def lstE (es : List SE) : SE := match es with | [] => .nil | e :: r => .bin .cons e (lstE r)
def outX (D : Nat → SE) (cs : List Cl) (i : Nat) (M : Me) : List AV × Me :=
  match cs with
  | [] => ([], M)
  | .pl k :: l => (match outX D l (i + 1) M with | (as, M) => (k.av (D i) :: as, M))
  | .rows own ks :: l => (match outX D l (i + 1) { M with hp := hset M.hp M.nb (bif own then .rows ks (D i) else .ro ks (D i)), nb := M.nb + 1 } with
    | (as, M') => (.sl M.nb ks.length (.int 0) (lenL (D i)) none :: as, M'))
  | .nst ns :: l => (match outX D l (i + 1) { M with hp := hset M.hp M.nb (.nro ns (D i)), nb := M.nb + 1 } with
    | (as, M') => (.sl M.nb ns.length (.int 0) (lenL (D i)) none :: as, M'))
def Cl.shares : Cl → Bool
  | .rows false _ => true
  | .nst _ => true
  | _ => false
def frz1 (hp : List (Nat × Ob)) (c : Cl) (a : AV) : Option (List (Nat × Ob)) :=
  match c, a with
  | .rows _ ks, .sl b _ _ _ _ => (match hget hp b with
    | some (.rows ks' e) => some (hset hp b (.ro ks' e))
    | some (.cells cs) => bif !ks.isEmpty && allData ks ks.length cs.length cs then some (hset hp b (.ro ks (rowsOf ks.length cs))) else none
    | some (.ro _ _) => some hp
    | _ => none)
  | _, _ => some hp
def frz (hp : List (Nat × Ob)) (cs : List Cl) (as : List AV) : Option (List (Nat × Ob)) :=
  match cs, as with
  | c :: cs, a :: as => (match frz1 hp c a with | some hp => frz hp cs as | none => none)
  | _, _ => some hp
structure Smy where
  sym : Nat
  ins : List Sh
  outs : List Sh
  pre : List SE → List SE
  ev : Option (List DV → List DV)
def resE (sm : Smy) (es : List SE) : Nat → SE :=
  match sm.ev with
  | none => fun i => .bin .idx (.fn sm.sym (lstE es)) (.int i)
  | some g => match lvs es with
    | none => fun i => .bin .idx (.fn sm.sym (lstE es)) (.int i)
    | some ds => fun i => DV.se (((g ds)[i]?).getD (.int 0))
def packR (vs : List AV) : AV := match vs with | [v] => v | vs => .tup vs
def useA (sm : Smy) (M : Me) (args : List AV) : Option (AV × Me × List SE) :=
  match flatA sm.ins args with
  | none => none
  | some fl =>
    match cellsX M.hp (clsOf sm.ins) fl with
    | none => none
    | some (es, cs) =>
      match (bif (clsOf sm.outs).any Cl.shares then frz M.hp (clsOf sm.ins) fl else some M.hp) with
      | none => none
      | some hp =>
        match outX (resE sm es) (clsOf sm.outs) 0 { M with hp } with
        | (avs, M') => some (packR (packA sm.outs avs), M', cs ++ sm.pre es)
def revA (M : Me) (a : AV) : AV × Me × List SE :=
  match a with
  | .nsl b s i j ks _ =>
    (match hget M.hp b with
    | some (.nrows ns e) | some (.nro ns e) => bif Nat.beq s ns.length && decide (ns[j]? = some (.sub ks)) then
        (.sl M.nb ks.length (.int 0) (lenL (mkB .idx (mkB .idx e i) (.int j))) none, { M with hp := hset M.hp M.nb (.ro ks (mkB .idx (mkB .idx e i) (.int j))), nb := M.nb + 1 }, [mkB .le (.int 0) i, ltE i (mkU .len e)]) else (a, M, [])
    | _ => (a, M, []))
  | _ => (a, M, [])
def revC (M : Me) (l : List AV) : List AV × Me × List SE :=
  match l with
  | [] => ([], M, [])
  | a :: r => (match revA M a with | (a', M1, c1) => (match revC M1 r with | (r', M2, c2) => (a' :: r', M2, c1 ++ c2)))
def revL (M : Me) (l : List AV) : List AV × Me × List SE :=
  match l with
  | [] => ([], M, [])
  | .agg cs :: r => (match revC M cs with | (cs', M1, c1) => (match revL M1 r with | (r', M2, c2) => (.agg cs' :: r', M2, c1 ++ c2)))
  | a :: r => (match revA M a with | (a', M1, c1) => (match revL M1 r with | (r', M2, c2) => (a' :: r', M2, c1 ++ c2)))
def useX (sm : Smy) (M : Me) (args : List AV) : Option (AV × Me × List SE) :=
  match revL M args with
  | (args', M1, c1) => (match useA sm M1 args' with | some (v, M', cs) => some (v, M', c1 ++ cs) | none => none)
def ckT (P : Program) (t : TypeId) : Option CK := match P.underlying t with | some (.int k) => some (.int k) | some .bool => some .bool | some .string => some .str | _ => none
def cksT (P : Program) (t : TypeId) : Option (List CK) := match P.underlying t with | some (.struct fs) => fs.toList.mapM (fun f => ckT P f.type) | _ => (ckT P t).map fun k => [k]
def nkT (P : Program) (t : TypeId) : Option NK := match ckT P t with | some k => some (.pl k) | none => (match P.underlying t with | some (.slice el) => (cksT P el).map .sub | _ => none)
def NK.isSub : NK → Bool | .sub _ => true | .pl _ => false
def nksT (P : Program) (t : TypeId) : Option (List NK) := match P.underlying t with | some (.struct fs) => (match fs.toList.mapM (fun f => nkT P f.type) with | some l => bif l.any NK.isSub then some l else none | none => none) | _ => none
def NK.cl : NK → Cl | .pl k => .pl k | .sub ks => .rows false ks
def appendN (P : Program) (t xt : TypeId) (M : Me) (s x : AV) : Option (AV × Me × List SE) :=
  match P.underlying t, P.underlying xt with
  | some (.slice el), some (.slice _) =>
    match nksT P el with
    | none => none
    | some ns =>
    match sizeB P el, P.info? el, (zeroA P el).bind AV.cells? with
    | some (n + 1), some inf, some zc =>
      bif Nat.ble inf.bytes 10000 && (Nat.beq zc.length (n + 1) && Nat.beq ns.length (n + 1)) then
      (match srcCells M.hp (n + 1) x with
      | some xs0 =>
        bif Nat.beq xs0.length (n + 1) && xs0.all AV.one then
        (match revC M xs0 with
        | (xs, M1, c1) =>
          (match cellsX M1.hp (ns.map NK.cl) xs, frz M1.hp (ns.map NK.cl) xs with
          | some (es, qs), some hp1 =>
            (match s with
            | .nils => some (.sl M1.nb (n + 1) (.int 0) (.int 1) none, { M1 with hp := hset hp1 M1.nb (.nrows ns (.bin .cons (lstE es) .nil)), nb := M1.nb + 1 }, c1 ++ qs)
            | .sl b s' off len _ =>
              (match hget hp1 b, litN off with
              | some (.nrows ns' e), some 0 => bif Nat.beq s' (n + 1) && decide (ns' = ns) then
                  some (.sl M1.nb (n + 1) (.int 0) (mkB .add len (.int 1)) none, { M1 with hp := hset (hdel hp1 b) M1.nb (.nrows ns (mkB .snoc e (lstE es))), nb := M1.nb + 1 }, mkB .eq len (mkU .len e) :: mkB .le (mkB .add len (.int 1)) (.int 4294967296) :: (c1 ++ qs)) else none
              | _, _ => none)
            | _ => none)
          | _, _ => none)) else none
      | none => none) else none
    | _, _, _ => none
  | _, _ => none
def appendX (P : Program) (t xt : TypeId) (M : Me) (s x : AV) : Option (AV × Me × List SE) :=
  match appendN P t xt M s x with
  | some r => some r
  | none => appendA P t xt M s x
def SE.isLit : SE → Bool
  | .int _ | .bool _ | .str _ | .nil => true
  | .bin .cons a b => a.isLit && b.isLit
  | _ => false
def litArgs (sm : Smy) (M : Me) (args : List AV) : Bool :=
  match sm.ev with
  | some _ => false
  | none =>
  match flatA sm.ins args with
  | none => false
  | some fl => match cellsX M.hp (clsOf sm.ins) fl with | none => false | some (es, _) => !es.isEmpty && es.all SE.isLit
def getS (f : Nat) (l : List (Nat × Smy)) : Option Smy := match l with | [] => none | (g, s) :: r => bif Nat.beq g f then some s else getS f r
structure LA where
  slots : List (Nat × AV)
  blks : List (Nat × Ob)
  drop : List Nat
  k : Nat
  nb : Nat
structure LK where
  n : Nat
  rid : Nat
  nb : Nat
  nv : Nat
  nc : Nat
def ridOf : Code → Option Nat
  | .seq a _ => ridOf a
  | .block _ c => ridOf c
  | .region id _ _ => some id
  | _ => none
def getL (n rid nb nv nc : Nat) (l : List (LK × LA)) : Option LA :=
  match l with
  | [] => none
  | (k, a) :: r => bif Nat.beq k.n n && (Nat.beq k.rid rid && (Nat.beq k.nb nb && (Nat.beq k.nv nv && Nat.beq k.nc nc))) then some a else getL n rid nb nv nc r
structure Cx where
  P : Program
  S : List (Nat × Smy)
  L : List (LK × LA)
  E : Bool
def Tr.all (p : Nat → AV → Bool) : Tr → Bool
  | .lf => true
  | .nd v l r => (match v with | none => true | some a => p 0 a) && (l.all (fun j => p (2 * j + 1)) && r.all (fun j => p (2 * j + 2)))
def AV.sc (nv nb f : Nat) (a : AV) : Bool :=
  match f with
  | 0 => false
  | f + 1 =>
    match a with
    | .int _ e | .bool e | .str e => e.sc nv
    | .ptr b _ | .map b => Nat.blt b nb
    | .elt b _ i _ => Nat.blt b nb && i.sc nv
    | .sl b _ o l c => Nat.blt b nb && (o.sc nv && (l.sc nv && (match c with | none => true | some c => c.sc nv)))
    | .func _ x y => x.all (AV.sc nv nb f) && y.all (AV.sc nv nb f)
    | .iface _ v => AV.sc nv nb f v
    | .boolu c => c.sc nv
    | .agg l | .tup l => l.all (AV.sc nv nb f)
    | .yld b => Nat.blt b nb
    | .nsl b _ i _ _ len => Nat.blt b nb && (i.sc nv && len.sc nv)
    | .nelt b _ i _ _ x _ => Nat.blt b nb && (i.sc nv && x.sc nv)
    | _ => true
def newV (nv : Nat) : SE → Option Nat
  | .var i => bif Nat.ble nv i then some (i - nv) else none
  | _ => none
def bgetA (β : List (Nat × AV)) (b : Nat) : Option AV := match β with | [] => none | (c, a) :: r => bif Nat.beq c b then some a else bgetA r b
def seIs (xs : List SE) (j : Nat) (e : SE) : Bool := match xs[j]? with | some x => decide (x = e) | none => false
def chkV (nv nb : Nat) (xs : List SE) (β : List (Nat × AV)) (f : Nat) (g a : AV) : Bool :=
  match f with
  | 0 => false
  | f + 1 =>
    let oth := AV.same 50 g a && AV.sc nv nb 50 g
    match g with
    | .any => true
    | .int k e => (match newV nv e with | some j => (match a with | .int k' e' => decide (k = k') && seIs xs j e' | _ => false) | none => oth)
    | .bool e => (match newV nv e with | some j => (match a with | .bool e' => seIs xs j e' | _ => false) | none => oth)
    | .str e => (match newV nv e with | some j => (match a with | .str e' => seIs xs j e' | _ => false) | none => oth)
    | .sl b s off len cap => bif Nat.ble nb b then
        (match off, len, cap, bgetA β b with
        | .int 0, .un .len (.var _), none, some a' => AV.same 50 a a'
        | _, _, _, _ => false)
        else oth
    | .agg gs => (match a with | .agg as => Nat.beq gs.length as.length && (gs.zip as).all fun p => chkV nv nb xs β f p.1 p.2 | _ => oth)
    | _ => oth
def chkO (nv nb : Nat) (xs : List SE) (β : List (Nat × AV)) (hp : List (Nat × Ob)) (b : Nat) (o : Ob) : Bool :=
  bif Nat.blt b nb then
    (match o, hget hp b with
    | .cells gs, some (.cells as) => Nat.beq gs.length as.length && (gs.zip as).all fun p => chkV nv nb xs β 50 p.1 p.2
    | .rows ks e, some (.rows ks' e') => decide (ks = ks') && (match newV nv e with | some j => seIs xs j e' | none => decide (e = e') && e.sc nv)
    | .ro ks e, some (.ro ks' e') => decide (ks = ks') && (decide (e = e') && e.sc nv)
    | .roc gs, some (.roc as) => Nat.beq gs.length as.length && (gs.zip as).all fun p => AV.same 50 p.1 p.2 && AV.sc nv nb 50 p.1
    | .lp st j R, some (.lp st' j' _) => decide (st = st') && (decide (j = j') && R.tm.all fun _ a => AV.sc nv nb 50 a)
    | .dfb, some .dfb => true
    | .nro ns e, some (.nro ns' e') => decide (ns = ns') && (decide (e = e') && e.sc nv)
    | .nrows ns e, some (.nrows ns' e') => decide (ns = ns') && (decide (e = e') && e.sc nv)
    | _, _ => false)
  else
    (match o, bgetA β b with
    | .rows ks e, some a => (match newV nv e, cellX hp (.rows true ks) a with
      | some j, some (e', _) => seIs xs j e' && (match a with
        | .nils => true
        | .sl b' _ off _ _ => decide (off = .int 0) && (match hget hp b' with | some (.rows _ _) | some (.cells _) => true | _ => false)
        | _ => false)
      | _, _ => false)
    | .ro ks e, some a => (match newV nv e, cellX hp (.rows false ks) a with
      | some j, some (e', _) => seIs xs j e'
      | _, _ => false)
    | .nrows ns e, some a => (match newV nv e, cellX hp (.nst ns) a with
      | some j, some (e', _) => seIs xs j e' && (match a with
        | .nils => true
        | .sl b' _ _ _ _ => (match hget hp b' with | some (.nrows _ _) => true | _ => false)
        | _ => false)
      | _, _ => false)
    | .nro ns e, some a => (match newV nv e, cellX hp (.nst ns) a with
      | some j, some (e', _) => seIs xs j e'
      | _, _ => false)
    | _, _ => false)
def clO : Ob → Cl
  | .rows ks _ | .ro ks _ => .rows true ks
  | .nrows ns _ | .nro ns _ => .nst ns
  | _ => .rows true []
def seO : Ob → SE
  | .rows _ e | .ro _ e | .nrows _ e | .nro _ e => e
  | _ => .nil
def patOk (nv nb : Nat) (hp : List (Nat × Ob)) (f : Nat) (g : AV) : Bool :=
  match f with
  | 0 => false
  | f + 1 =>
    match g with
    | .sl b s _ len _ => bif Nat.ble nb b then
        (match hget hp b with
        | some (.rows ks e) | some (.ro ks e) => Nat.beq s ks.length && decide (len = .un .len e)
        | some (.nrows ns e) | some (.nro ns e) => Nat.beq s ns.length && decide (len = .un .len e)
        | _ => false) else true
    | .agg gs => gs.all (patOk nv nb hp f)
    | _ => true
def srcOf (nb : Nat) (β : List (Nat × AV)) (b : Nat) : Option Nat :=
  bif Nat.blt b nb then some b else match bgetA β b with
    | some (.sl b' _ _ _ _) => some b'
    | _ => none
def lone (nb : Nat) (β : List (Nat × AV)) (hp : List (Nat × Ob)) : Bool :=
  hp.all fun p => !p.2.own || (match srcOf nb β p.1 with
    | none => true
    | some s => hp.all fun q => Nat.beq q.1 p.1 || (match srcOf nb β q.1 with | none => true | some s' => !Nat.beq s s'))
def collV (nv nb : Nat) (f : Nat) (g a : AV) : List (Nat × SE) × List (Nat × AV) :=
  match f with
  | 0 => ([], [])
  | f + 1 =>
    match g with
    | .int _ e | .bool e | .str e => (match newV nv e with | some j => ([(j, seOf a)], []) | none => ([], []))
    | .sl b _ _ _ _ => bif Nat.ble nb b then ([], [(b, a)]) else ([], [])
    | .agg gs => (match a with
      | .agg as => (gs.zip as).foldr (fun p r => match collV nv nb f p.1 p.2 with | (x, y) => (x ++ r.1, y ++ r.2)) ([], [])
      | _ => ([], []))
    | _ => ([], [])
def collB (nv nb : Nat) (hp : List (Nat × Ob)) (b : Nat) (o : Ob) : List (Nat × SE) × List (Nat × AV) :=
  bif Nat.blt b nb then
    (match o, hget hp b with
    | .cells gs, some (.cells as) => (gs.zip as).foldr (fun p r => match collV nv nb 50 p.1 p.2 with | (x, y) => (x ++ r.1, y ++ r.2)) ([], [])
    | .rows _ e, some (.rows _ e') => (match newV nv e with | some j => ([(j, e')], []) | none => ([], []))
    | _, _ => ([], []))
  else ([], [])
def sgetA (σ : List (Nat × SE)) (j : Nat) : Option SE := match σ with | [] => none | (c, a) :: r => bif Nat.beq c j then some a else sgetA r j
def condB (nb : Nat) (β : List (Nat × AV)) (hp : List (Nat × Ob)) (b : Nat) (o : Ob) : List SE :=
  bif Nat.blt b nb then [] else match bgetA β b with
    | some a => (match cellX hp (clO o) a with | some (_, cs) => cs | none => [])
    | none => []
def findX (la : LA) (nv nb : Nat) (F : Fr) (M : Me) : List (Nat × AV) × Option (List SE) :=
  match (la.slots.foldr (fun p r => match collV nv nb 50 p.2 ((F.tm.get p.1).getD .any) with | (x, y) => (x ++ r.1, y ++ r.2)) ([], [])), (la.blks.foldr (fun p r => match collB nv nb M.hp p.1 p.2 with | (x, y) => (x ++ r.1, y ++ r.2)) ([], [])) with
  | (s1, β1), (s2, β2) =>
    let β := β1 ++ β2
    let σ := s1 ++ (s2 ++ la.blks.foldr (fun p r => bif Nat.blt p.1 nb then r else match bgetA β p.1, newV nv (seO p.2) with
      | some a, some j => (match cellX M.hp (clO p.2) a with | some (e, _) => (j, e) :: r | none => r)
      | _, _ => r) [])
    (β, (List.range la.k).mapM (sgetA σ))
def headOk (nv nb : Nat) (xs : List SE) (β : List (Nat × AV)) (Fg : Fr) (Mg : Me) (F : Fr) (M : Me) : Bool :=
  (Nat.beq Fg.n F.n && (Fg.df.isEmpty && F.df.isEmpty)) &&
    (Fg.tm.all (fun t g => chkV nv nb xs β 50 g ((F.tm.get t).getD .any) && patOk nv nb Mg.hp 50 g) &&
    (Mg.hp.all (fun p => chkO nv nb xs β M.hp p.1 p.2 && (Nat.blt p.1 Mg.nb && (match p.2 with | .cells gs => gs.all (patOk nv nb Mg.hp 50) | _ => true))) &&
    lone nb β Mg.hp))
def Ob.isLp : Ob → Bool
  | .lp .. => true
  | _ => false
def instA (la : LA) (nv nb : Nat) (Fg : Fr) (Mg : Me) (F : Fr) (M : Me) : Option (List SE × List SE) :=
  match findX la nv nb F M with
  | (β, some xs) => bif Nat.beq xs.length la.k && (headOk nv nb xs β Fg Mg F M && la.blks.all fun p => !p.2.isLp) then some (xs, Mg.hp.foldr (fun p r => condB nb β M.hp p.1 p.2 ++ r) []) else none
  | _ => none
def LF.sc (nv : Nat) (f : LF) : Bool := f.ts.all fun p => p.1.sc nv
def PC.cut (nv : Nat) (pc : PC) : PC := ⟨pc.cs.filter fun p => p.1.sc nv, pc.fs.filter (LF.sc nv)⟩
def genF (F : Fr) (l : List (Nat × AV)) : Option Fr :=
  match l with
  | [] => some F
  | (t, v) :: r => match F.tm.put t v with | some tm => genF { F with tm } r | none => none
def genM (M : Me) (la : LA) : Me :=
  { hp := la.blks.foldl (fun hp p => hset hp p.1 p.2) (la.drop.foldl hdel M.hp), nb := M.nb + la.nb, nv := M.nv + la.k, pc := M.pc.cut M.nv }
def guardA (ops : Array Oper) (F : Fr) (o : Oper) (M : Me) (yes no : Me → T) : T :=
  match o.guard with
  | none => yes M
  | some (j, want) =>
    match (ops[j]?).bind (·.dst) with
    | some d => (match (F.tm.get d).getD .any with
      | .bool e => test M e fun b M => if b = want then yes M else no M
      | .tup [] => no M
      | _ => .fail 30)
    | none => .fail 31
def copyB (P : Program) (t : TypeId) (M : Me) (d x : AV) : Option (AV × Me × List SE) :=
  match P.underlying t, d with
  | some (.slice el), .sl b s off len _ =>
    (match sizeB P el with
    | some (n + 1) => bif Nat.beq s (n + 1) then
        (match hget M.hp b with
        | some (.rows ks e) => bif Nat.beq ks.length (n + 1) then
            (match cellX M.hp (.rows true ks) x with
            | some (e', cs) =>
              let m := mkT .ite (mkB .le len (lenE e')) len (lenE e')
              some (i64 m, { M with hp := hset M.hp b (.rows ks (mkB .app (mkB .take e off) (mkB .app (mkB .take e' m) (mkB .drop e (mkB .add off m))))) }, mkB .le (mkB .add off len) (mkU .len e) :: cs)
            | none => none) else none
        | _ => none) else none
    | _ => none)
  | _, _ => none
def copyX (P : Program) (t : TypeId) (M : Me) (d x : AV) : Option (AV × Me × List SE) :=
  match copyA P t M d x with
  | some r => some r
  | none => copyB P t M d x
def rowify (hp : List (Nat × Ob)) (d : AV) : Option (List (Nat × Ob)) :=
  match d with
  | .sl b _ _ _ _ => (match hget hp b with
    | some (.cells cs) => bif allData [.int .u8] 1 cs.length cs then some (hset hp b (.rows [.int .u8] (rowsOf 1 cs))) else none
    | some (.rows _ _) => some hp
    | _ => none)
  | _ => none
def copyS (P : Program) (t : TypeId) (M : Me) (d : AV) (x : SE) : Option (AV × Me × List SE) :=
  match P.underlying t, d, rowify M.hp d with
  | some (.slice el), .sl b s off len _, some hp =>
    (match sizeB P el with
    | some 1 => bif Nat.beq s 1 then
        (match hget hp b with
        | some (.rows ks e) => if ks = [.int .u8] then
              let e' := mkU .bytes x
              let m := mkT .ite (mkB .le len (lenE e')) len (lenE e')
              some (i64 m, { M with hp := hset hp b (.rows ks (mkB .app (mkB .take e off) (mkB .app (mkB .take e' m) (mkB .drop e (mkB .add off m))))) }, [mkB .le (mkB .add off len) (mkU .len e)])
            else none
        | _ => none) else none
    | _ => none)
  | _, _, _ => none
def copyZ (P : Program) (t : TypeId) (M : Me) (d x : AV) : Option (AV × Me × List SE) :=
  match x with
  | .str e => copyS P t M d e
  | x => copyX P t M d x
def auxA (P : Program) (o : Oper) (ev : Operand → AV) (M : Me) : Option (AV × Me × List SE) :=
  match o.op with
  | .convert s d x =>
    (match P.underlying s, P.underlying d, ev x with
    | some .string, some (.slice el), .str e =>
      (match P.underlying el with
      | some (.int .u8) => some (.sl M.nb 1 (.int 0) (lenE (mkU .bytes e)) none, { M with hp := hset M.hp M.nb (.rows [.int .u8] (mkU .bytes e)), nb := M.nb + 1 }, [])
      | _ => none)
    | _, _, _ => none)
  | .slice t x lo hi none =>
    (match P.underlying t, ev x with
    | some (.array n el), .ptr b o =>
      (match sizeB P el with
      | some (s + 1) =>
        bif Nat.beq (o / (s + 1) * (s + 1)) o then
          (match (match hget M.hp b with
            | some (.cells cs) => bif Nat.ble ((o / (s + 1) + n) * (s + 1)) cs.length then some [] else none
            | some (.rows ks e) => bif Nat.beq ks.length (s + 1) then some [mkB .le (.int (o / (s + 1) + n : Nat)) (mkU .len e)] else none
            | _ => none) with
          | some c0 => (match boundA (hi.map ev) (.int n) (.int n) with
            | some (h, c1) => (match boundA (lo.map ev) (.int 0) h with
              | some (l, c2) => some (.sl b (s + 1) (mkB .add (.int (o / (s + 1) : Nat)) l) (mkB .sub h l) (some (mkB .sub (.int n) l)), M, c0 ++ (c1 ++ c2))
              | none => none)
            | none => none)
          | none => none)
        else none
      | _ => none)
    | _, _ => none)
  | _ => none
def aux_convert (P : Program) (ev : Operand → AV) (M : Me) (s d : TypeId) (x : Operand) : Option (AV × Me × List SE) :=
    (match P.underlying s, P.underlying d, ev x with
    | some .string, some (.slice el), .str e =>
      (match P.underlying el with
      | some (.int .u8) => some (.sl M.nb 1 (.int 0) (lenE (mkU .bytes e)) none, { M with hp := hset M.hp M.nb (.rows [.int .u8] (mkU .bytes e)), nb := M.nb + 1 }, [])
      | _ => none)
    | _, _, _ => none)
def aux_slice (P : Program) (ev : Operand → AV) (M : Me) (t : TypeId) (x : Operand) (lo hi : Option Operand) : Option (AV × Me × List SE) :=
    (match P.underlying t, ev x with
    | some (.array n el), .ptr b o =>
      (match sizeB P el with
      | some (s + 1) =>
        bif Nat.beq (o / (s + 1) * (s + 1)) o then
          (match (match hget M.hp b with
            | some (.cells cs) => bif Nat.ble ((o / (s + 1) + n) * (s + 1)) cs.length then some [] else none
            | some (.rows ks e) => bif Nat.beq ks.length (s + 1) then some [mkB .le (.int (o / (s + 1) + n : Nat)) (mkU .len e)] else none
            | _ => none) with
          | some c0 => (match boundA (hi.map ev) (.int n) (.int n) with
            | some (h, c1) => (match boundA (lo.map ev) (.int 0) h with
              | some (l, c2) => some (.sl b (s + 1) (mkB .add (.int (o / (s + 1) : Nat)) l) (mkB .sub h l) (some (mkB .sub (.int n) l)), M, c0 ++ (c1 ++ c2))
              | none => none)
            | none => none)
          | none => none)
        else none
      | _ => none)
    | _, _ => none)
def auxF (P : Program) (o : Oper) (ev : Operand → AV) (M : Me) : Option (AV × Me × List SE) :=
  match o.op with
  | .convert s d x => aux_convert P ev M s d x
  | .slice t x lo hi none => aux_slice P ev M t x lo hi
  | _ => none
theorem auxF_eq (P : Program) (o : Oper) (ev : Operand → AV) (M : Me) : auxF P o ev M = auxA P o ev M := by
  obtain ⟨dst, op, ty, pos, after, guard⟩ := o
  cases op with
  | slice t x lo hi mx => cases mx <;> rfl
  | _ => rfl
def opLx (P : Program) (o : Oper) (ev : Operand → AV) (hp : List (Nat × Ob)) : Option (AV × List SE) :=
  match o.op with
  | .convert s d x =>
    (match P.underlying s, P.underlying d with
    | some (.slice el), some .string => (match P.underlying el with
      | some (.int .u8) => (match cellX hp (.rows true [.int .u8]) (ev x) with
        | some (e, cs) => some (.str (mkU .str8 e), cs)
        | none => none)
      | _ => none)
    | _, _ => opVf P o ev)
  | _ => opL P o ev hp
def lightA (P : Program) (F : Fr) (o : Oper) (q : Nat) (M : Me) (k : AV → Option Ob → Me → T) : T :=
  match kindOf o with
  | .v => (match o.op with
    | .pick c a b => (match ev F c with
      | .bool e => test M e fun t M => k (if t then ev F a else ev F b) none M
      | _ => .fail 9)
    | _ => match opVf P o (ev F) with
      | some (v, cs) => needs M cs fun M => k v none M
      | none => .fail 14)
  | .l => (match opLx P o (ev F) M.hp with
    | some (v, cs) => needs M cs fun M => k v none M
    | none => .fail 15)
  | .a => (match opA P o (ev F) with
    | some (ob, f, cs) => needs M cs fun M => k (f q) (some ob) M
    | none => .fail 16)
  | .h => .fail 59
def layA (M : Me) (q : Nat) : Option Ob → Me
  | none => M
  | some ob => { M with hp := hset M.hp q ob }
def Me.lay1 (M : Me) (ob : Option Ob) : Me := match M with
  | ⟨hp, nb, nv, pc⟩ => match ob with
    | none => ⟨hp, nb, nv, pc⟩
    | some ob => ⟨hset hp nb ob, nb + 1, nv, pc⟩
def Me.pcOf (M M' : Me) : Me := match M, M' with
  | ⟨hp, nb, nv, _⟩, ⟨_, _, _, pc⟩ => ⟨hp, nb, nv, pc⟩
def recheckO (P : Program) (ops : Array Oper) (F : Fr) (l : List Nat) (M : Me) (k : Me → T) : T :=
  match l with
  | [] => k M
  | j :: l =>
    match ops[j]? with
    | none => .fail 33
    | some o => guardA ops F o M (fun M => lightA P F o 0 M fun v _ M =>
        (match o.dst with
        | none => recheckO P ops F l M k
        | some d => bif AV.same 50 ((F.tm.get d).getD .any) v then recheckO P ops F l M k else .fail 37)) (fun M => match o.dst with
      | none => recheckO P ops F l M k
      | some d => bif AV.same 50 ((F.tm.get d).getD .any) undefA then recheckO P ops F l M k else .fail 37)
def recheck (P : Program) (D : Dr) (F : Fr) (l : List Nat) (M : Me) (k : Me → T) : T := recheckO P D.ops F l M k
theorem recheck_cons (P : Program) (D : Dr) (F : Fr) (j : Nat) (l : List Nat) (M : Me) (k : Me → T) : recheck P D F (j :: l) M k =
    (match D.ops[j]? with
    | none => .fail 33
    | some o => guardA D.ops F o M (fun M => lightA P F o 0 M fun v _ M =>
        (match o.dst with
        | none => recheck P D F l M k
        | some d => bif AV.same 50 ((F.tm.get d).getD .any) v then recheck P D F l M k else .fail 37)) (fun M => match o.dst with
      | none => recheck P D F l M k
      | some d => bif AV.same 50 ((F.tm.get d).getD .any) undefA then recheck P D F l M k else .fail 37)) := rfl
def recovers (c : Code) : Option (Option Tmp × Code) :=
  match c with
  | .seq (.region _ ops false) r => (match ops.toList with
    | [{ dst, op := .call { callee := .builtin .recover, .. }, guard := none, .. }] => some (dst, r)
    | _ => none)
  | _ => none
def loopB (la : LA) (nv nb : Nat) (Fg : Fr) (Mg : Me) (l : Lf) : T :=
  match l with
  | .code .norm F' M' => (match instA la nv nb Fg Mg F' M' with
    | none => .fail 72
    | some (ys, cs) => needs M' cs fun _ => .ret (.nxt ys))
  | _ => .ret .out
def loopR (k : Lf → T) (l : Lf) : T :=
  match l with
  | .code .norm _ _ => .fail 73
  | l => k l
def yieldTm (n : Nat) (t : Tr) (l : List (Tmp × AV)) : Option Tr :=
  match l with
  | [] => some t
  | (d, v) :: r => bif Nat.blt d n then (match t.put d v with | some t => yieldTm n t r | none => none) else none
def skipOk (X : Cx) (ev : Operand → AV) (o : Oper) : Bool :=
  !X.E || (match o.op with
    | .call { callee := .builtin _, .. } => true
    | .call { callee := .value f, .. } => (match ev f with
      | .func (.func fid) _ _ => (X.P.funcs[fid]?).isSome
      | .tup [] | .nilf => true
      | _ => false)
    | .call _ => false
    | _ => true)
def endR (b : Nat) (k : Lf → T) (l : Lf) : T :=
  match l with
  | .code .norm _ M => (match hget M.hp b with | some (.lp _ _ R) => k (.val (.bool (.bool true)) { M with hp := hset M.hp b (.lp .ready .no R) }) | _ => .fail 104)
  | .code .ret _ M => (match hget M.hp b with | some (.lp _ _ R) => k (.val (.bool (.bool false)) { M with hp := hset M.hp b (.lp .done .ret R) }) | _ => .fail 104)
  | .code (.exit i) _ M => (match hget M.hp b with | some (.lp _ _ R) => k (.val (.bool (.bool false)) { M with hp := hset M.hp b (.lp .done (.exit i) R) }) | _ => .fail 104)
  | .code (.panic v) F M => (match F.df with | [] => k (.pan v M) | _ => .fail 117)
  | _ => .fail 105
def endF (b : Nat) (F : Fr) (k : Lf → T) (l : Lf) : T :=
  match l with
  | .val _ M => (match hget M.hp b with
    | some (.lp st j R) => if st = .busy then .fail 106 else
      (match j with
      | .no => k (.code .norm F { M with hp := hdel M.hp b })
      | .ret => k (.code .ret F { M with hp := hdel M.hp b })
      | .exit i => k (.code (.exit i) F { M with hp := hdel M.hp b }))
    | _ => .fail 107)
  | .pan v M => k (.code (.panic v) F M)
  | _ => .fail 108
def subV (k : IntKind) (e : SE) (q : Nat) (v : AV) : AV :=
  match v with
  | .int k' e' => if k' = k ∧ e' = e then .int k (.int q) else .int k' e'
  | v => v
def Fr.sub (F : Fr) (k : IntKind) (e : SE) (q : Nat) : Fr := { F with tm := F.tm.map (subV k e q) }
def splitI (n : Nat) (e : SE) (M : Me) (k : Nat → Me → T) : T :=
  match n with
  | 0 => .fail 62
  | n + 1 => test M (mkB .eq e (.int n)) fun b M => if b then k n M else splitI n e M k
def slotFrom (ops : List Oper) (F : Fr) (t : Tmp) : AV :=
  match ops.find? (fun o => decide (o.dst = some t)) with
  | none => (F.tm.get t).getD .any
  | some o => match o.op with
    | .move (.tmp t0) => bif (ops.find? fun o => decide (o.dst = some t0)).isNone then (F.tm.get t0).getD .any else .any
    | _ => .any
def slotV (P : Program) (hp : List (Nat × Ob)) (ops : List Oper) (F : Fr) (f : Nat) (x : Operand) : AV :=
  match f with
  | 0 => .any
  | f + 1 =>
    match x with
    | .tmp t => (match ops.find? (fun o => decide (o.dst = some t)) with
      | none => (F.tm.get t).getD .any
      | some o => (match o.op with
        | .move x => slotV P hp ops F f x
        | .nilCheck x => slotV P hp ops F f x
        | .fieldAddr t x j => (match P.underlying t, slotV P hp ops F f x with
          | some (.struct fs), .ptr b o => (match fs[j]? with | some fl => .ptr b (o + fl.offset) | none => .any)
          | _, _ => .any)
        | .field t x j => (match P.underlying t, slotV P hp ops F f x with
          | some (.struct fs), .agg cs => (match fs[j]? with | some fl => (cs[fl.offset]?).getD .any | none => .any)
          | _, _ => .any)
        | .load t x => (match readA P hp t (slotV P hp ops F f x) with | some (v, _) => v | none => .any)
        | _ => .any))
    | _ => .any
def splitR (P : Program) (hp : List (Nat × Ob)) (F : Fr) (ops : List Oper) : Option (IntKind × SE × Nat) :=
  ops.findSome? fun o =>
    match (match o.op with | .indexAddr t x (.tmp i) => some (t, x, i) | .index t x (.tmp i) => some (t, x, i) | _ => none) with
    | some (t, x, i) => (match P.underlying t with
      | some (.array n _) => bif Nat.ble n 8 then (match slotFrom ops F i with | .int k e => (match litN e with | none => some (k, e, n) | some _ => none) | _ => none) else none
      | some (.slice _) => (match slotFrom ops F i with
        | .int k e => (match litN e with
          | none => (match slotV P hp ops F 8 x with
            | .sl b _ _ len _ => (match litN len, hget hp b with
              | some n, some (.cells _) | some n, some (.roc _) => bif Nat.ble n 8 then some (k, e, n) else none
              | _, _ => none)
            | _ => none)
          | some _ => none)
        | _ => none)
      | _ => none)
    | none => none
def rCode (go : Task → Fr → Me → (Lf → T) → T) (X : Cx) (c : Code) (F : Fr) (M : Me) (k : Lf → T) : T :=
      (match c with
      | .skip | .label _ => k (.code .norm F M)
      | .region id ops draw =>
        (match splitR X.P M.hp F ops.toList with
        | some (ik, e, m) => splitI m e M fun q M => go (.code (.region id ops draw)) (F.sub ik e q) M k
        | none =>
        (match draw with
        | false => go (.ops ops ops.toList) F M k
        | true =>
          let b := Region.before ops
          let hv := (List.range ops.size).filter (isH ops)
          let l := canon ops b hv 0
          bif tidy ops b && validB ops b (2 ^ ops.size - 1) l then
            go (.draw ⟨ops, b, M.nb⟩ l) F { M with nb := M.nb + ops.size } k else .fail 11))
      | .seq a b => go (.code a) F M fun l => match l with | .code .norm F M => go (.code b) F M k | l => k l
      | .cond c a b => (match ev F c with | .bool e => test M e fun t M => go (.code (if t then a else b)) F M k | .boolu e => test M e fun t M => if t then .both (go (.code a) F M k) (go (.code b) F M k) else go (.code b) F M k | _ => .fail 12)
      | .block id c => go (.code c) F M fun l => match l with | .code (.exit i) F M => (bif Nat.beq i id then k (.code .norm F M) else k (.code (.exit i) F M)) | l => k l
      | .loop c =>
        (match (ridOf c).bind fun rid => getL F.n rid M.nb M.nv M.pc.cs.length X.L with
        | none => go (.loop c) F M k
        | some la =>
          (match genF F la.slots with
          | none => .fail 70
          | some Fg =>
            let Mg := genM M la
            (match instA la M.nv M.nb Fg Mg F M with
            | none => .fail 71
            | some (xs, cs) => needs M cs fun _ =>
              .loop M.nv xs (go (.code c) Fg Mg (loopB la M.nv M.nb Fg Mg)) (go (.code c) Fg Mg (loopR k)))))
      | .exit i => k (.code (.exit i) F M)
      | .goto i => k (.code (.goto i) F M)
      | .ret => k (.code .ret F M)
      | .scope c => go (.code c) F M fun l => match l with | .code (.goto _) _ _ => .fail 61 | l => k l
      | .rangeFunc g ps asg body =>
        (match ev F g with
        | .func (.func fid) first cap =>
          bif X.E && (plainC asg && plainC body) then
            (let F' := { F with df := (.yld M.nb, []) :: F.df }
             go (.call (.func (.func fid) first cap) [.yld (M.nb + 1)]) F' { M with hp := hset (hset M.hp M.nb .dfb) (M.nb + 1) (.lp .ready .no ⟨F.tm, F.n, ps, asg, body⟩), nb := M.nb + 2 } (endF (M.nb + 1) F' k))
          else .fail 101
        | _ => .fail 102)
      | _ => .fail 13)
def rHeavy (go : Task → Fr → Me → (Lf → T) → T) (X : Cx) (ops : Array Oper) (o : Oper) (r : List Oper) (F : Fr) (M : Me) (k : Lf → T) : T :=
            (match o.op with
            | .store t a v => (match storeX X.P M.hp t (ev F a) (ev F v) with
              | some (b, ob, cs) => needs M cs fun M => F.put o.dst undefA fun F => go (.ops ops r) F { M with hp := hset M.hp b ob } k
              | none => .fail 17)
            | .insert t m key v => (match X.P.underlying t, ev F m, ev F key with
              | some (.map kt _), .map b, .int kk (.int q) => (match X.P.underlying kt, hget M.hp b with
                | some (.int _), some (.map es) => bif es.all (keyNe kk q) then
                    F.put o.dst undefA fun F' => go (.ops ops r) F' { M with hp := hset M.hp b (.map (es ++ [(.int kk (.int q), ev F v)])) } k else .fail 18
                | _, _ => .fail 19)
              | _, _, _ => .fail 20)
            | .lookup t m key ok => (match X.P.underlying t, ev F m, ev F key with
              | some (.map kt el), .map b, .int kk e => (match X.P.underlying kt, hget M.hp b, zeroA X.P el with
                | some (.int _), some (.map es), some z => bif es.all (keyIs kk) then
                  let fin := fun (v : AV) (b : Bool) (M : Me) => F.put o.dst (if ok then .tup [v, .bool (.bool b)] else v) fun F => go (.ops ops r) F M k
                  findA M e es (fun v M => fin v true M) (fun M => fin z false M) else .fail 21
                | _, _, _ => .fail 21)
              | _, _, _ => .fail 22)
            | .panic x => (match ev F x with | .iface t v => k (.code (.panic (.iface t v)) F M) | _ => .fail 23)
            | .defer { callee := .value f, args, .. } => (match ev F f with
              | .func (.func fid) first cap => F.put o.dst undefA fun F' => go (.ops ops r) { F' with df := (.func (.func fid) first cap, args.toList.map (ev F)) :: F'.df } M k
              | _ => .fail 60)
            | .call { callee := .builtin .append, args, argTypes } =>
              (match args.toList, argTypes.toList with
              | [s, x], [t, xt] => (match appendX X.P t xt M (ev F s) (ev F x) with
                | some (v, M', cs) => needs M cs fun M => F.put o.dst v fun F => go (.ops ops r) F { M' with pc := M.pc } k
                | none => .fail 24)
              | _, _ => .fail 25)
            | .call { callee := .builtin .copy, args, argTypes } =>
              (match args.toList, argTypes.toList with
              | [s, x], [t, _] => (match copyZ X.P t M (ev F s) (ev F x) with
                | some (v, M', cs) => needs M cs fun M => F.put o.dst v fun F => go (.ops ops r) F { M' with pc := M.pc } k
                | none => .fail 26)
              | _, _ => .fail 27)
            | .call { callee := .value f, args, .. } =>
              (match ev F f with
              | .func (.func fid) first cap => go (.call (.func (.func fid) first cap) (args.toList.map (ev F))) F M fun l =>
                match l with
                | .val v M => F.put o.dst v fun F => go (.ops ops r) F M k
                | .pan v M => k (.code (.panic v) F M)
                | _ => .fail 28
              | .yld b => go (.call (.yld b) (args.toList.map (ev F))) F M fun l =>
                match l with
                | .val v M => F.put o.dst v fun F => go (.ops ops r) F M k
                | .pan v M => k (.code (.panic v) F M)
                | _ => .fail 28
              | _ => .fail 46)
            | _ => .fail 29)
def rOps (go : Task → Fr → Me → (Lf → T) → T) (X : Cx) (ops : Array Oper) (l : List Oper) (F : Fr) (M : Me) (k : Lf → T) : T :=
      (match l with
      | [] => k (.code .norm F M)
      | o :: r =>
        guardA ops F o M (fun M =>
          match kindOf o with
          | .h =>
            rHeavy go X ops o r F M k
          | _ => (match auxF X.P o (ev F) M with
            | some (v, M', cs) => needs M cs fun M => F.put o.dst v fun F => go (.ops ops r) F (Me.pcOf M' M) k
            | none => lightA X.P F o M.nb M fun v ob M => F.put o.dst v fun F => go (.ops ops r) F (Me.lay1 M ob) k))
          (fun M => bif skipOk X (ev F) o then F.put o.dst undefA fun F => go (.ops ops r) F M k else .fail 115))
def rDrawA (go : Task → Fr → Me → (Lf → T) → T) (X : Cx) (ops : Array Oper) (b : Array Nat) (q : Nat) (todo : List Nat) (F : Fr) (M : Me) (k : Lf → T) : T :=
      (match todo with
      | [] => k (.code .norm F M)
      | i :: r =>
        match ops[i]? with
        | none => .fail 33
        | some o =>
          match kindOf o with
          | .h =>
            let bi := b.getD i 0
            (match blank F.tm (dsts ops fun j => !bi.testBit j && !(i :: r).contains j) with
            | none => .fail 38
            | some tm =>
              go (.ops ops [o]) (F.tmTo tm) { M with hp := keepHp q ops.size bi M.hp } fun l =>
                match l with
                | .code .norm F' M' => bif !Nat.beq F'.n F.n then .fail 39 else
                  Fr.put (F.dfTo F'.df) o.dst (match o.dst with | some d => (F'.tm.get d).getD .any | none => .any) fun F2 =>
                    recheckO X.P ops F2 ((List.range ops.size).filter fun j => isL ops j && !r.contains j && !bi.testBit j) { M' with hp := happ M'.hp (dropHp q ops.size bi M.hp) }
                      fun M => go (.draw ⟨ops, b, q⟩ r) F2 M k
                | .code (.panic v) F' M' => k (.code (.panic v) F' M')
                | _ => .fail 36)
          | _ => guardA ops F o M
            (fun M => lightA X.P F o (q + i) M fun v ob M => F.put o.dst v fun F => go (.draw ⟨ops, b, q⟩ r) F (layA M (q + i) ob) k)
            (fun M => F.put o.dst undefA fun F => go (.draw ⟨ops, b, q⟩ r) F M k))
def rDraw (go : Task → Fr → Me → (Lf → T) → T) (X : Cx) (D : Dr) (todo : List Nat) (F : Fr) (M : Me) (k : Lf → T) : T :=
  match D with
  | ⟨ops, b, q⟩ => rDrawA go X ops b q todo F M k
def AV.refs (nb f : Nat) (a : AV) (acc : List Nat) : List Nat :=
  match f with
  | 0 => acc
  | f + 1 =>
    match a with
    | .ptr b _ | .elt b _ _ _ | .sl b _ _ _ _ | .map b | .yld b | .nsl b _ _ _ _ _ | .nelt b _ _ _ _ _ _ => bif Nat.ble nb b then b :: acc else acc
    | .func _ x y => y.foldl (fun acc a => AV.refs nb f a acc) (x.foldl (fun acc a => AV.refs nb f a acc) acc)
    | .iface _ v => AV.refs nb f v acc
    | .agg l | .tup l => l.foldl (fun acc a => AV.refs nb f a acc) acc
    | _ => acc
def Tr.refs (nb : Nat) (t : Tr) (acc : List Nat) : List Nat :=
  match t with
  | .lf => acc
  | .nd v l r => Tr.refs nb l (Tr.refs nb r (match v with | none => acc | some a => AV.refs nb 20 a acc))
def Ob.refs (nb : Nat) (o : Ob) (acc : List Nat) : List Nat :=
  match o with
  | .cells cs => cs.foldl (fun acc a => AV.refs nb 20 a acc) acc
  | .map es => es.foldl (fun acc p => AV.refs nb 20 p.1 (AV.refs nb 20 p.2 acc)) acc
  | .lp _ _ R => Tr.refs nb R.tm acc
  | _ => acc
def hasN (l : List Nat) (b : Nat) : Bool := match l with | [] => false | c :: r => bif Nat.beq c b then true else hasN r b
def markA (hp : List (Nat × Ob)) (nb : Nat) : Nat → List Nat → List Nat → List Nat
  | 0, _, seen => seen
  | _ + 1, [], seen => seen
  | f + 1, b :: r, seen => bif hasN seen b then markA hp nb f r seen else
    markA hp nb f (match hget hp b with | some o => Ob.refs nb o r | none => r) (b :: seen)
def rootsA (nb : Nat) : List (Nat × Ob) → List Nat → List Nat
  | [], acc => acc
  | p :: r, acc => rootsA nb r (bif Nat.blt p.1 nb then Ob.refs nb p.2 acc else acc)
def gcM (nb : Nat) (v : AV) (M : Me) : Me :=
  bif Nat.ble (nb + 14) M.nb then (match markA M.hp nb 100000 (AV.refs nb 20 v (rootsA nb M.hp [])) [] with | seen => { M with hp := M.hp.filter fun p => Nat.blt p.1 nb || hasN seen p.1 }) else M
def gcL (nb : Nat) (l : Lf) : Lf :=
  match l with
  | .val v M => .val v (gcM nb v M)
  | .pan v M => .pan v (gcM nb v M)
  | l => l
def callK (go : Task → Fr → Me → (Lf → T) → T) (X : Cx) (fn : Func) (k : Lf → T) (l : Lf) : T :=
  match l with
  | .code .norm F M | .code .ret F M =>
    (match F.df with
    | [] => resultsA X.P F M fn.results.toList fun vs M => (match vs with | [v] => k (.val v M) | vs => k (.val (.tup vs) M))
    | ds => go (.defers fn ds none) F M k)
  | .code (.panic v) F M =>
    (match F.df with
    | [] => k (.pan v M)
    | ds => go (.defers fn ds (some v)) F M k)
  | _ => .fail 40
def rCall (go : Task → Fr → Me → (Lf → T) → T) (X : Cx) (f : AV) (args : List AV) (F : Fr) (M : Me) (k : Lf → T) : T :=
      (match f with
      | .func (.func fid) first cap =>
        (match (match getS fid X.S with | none => none | some sm => bif litArgs sm M args then none else some sm) with
        | some sm => (match first, cap with
          | [], [] => (match useX sm M args with
            | some (v, M', cs) => needs M cs fun M => k (.val v { M' with pc := M.pc })
            | none => .fail 80)
          | _, _ => .fail 81)
        | none =>
        match X.P.funcs[fid]? with
        | some fn =>
          (match fn.body with
          | some c =>
            let as := first ++ args ++ cap
            bif Nat.ble as.length fn.ntmps then
            (match undefTm fn.ntmps with
            | some t0 =>
              (match argsTm 200 0 t0 as with
              | some tm =>
                go (.code c) ⟨tm, fn.ntmps, []⟩ M (callK (go) X fn fun l => k (gcL M.nb l))
              | none => .fail 41)
            | none => .fail 42) else .fail 43
          | none => .fail 44)
        | none => .fail 45)
      | .yld b =>
        (match hget M.hp b with
        | some (.lp .ready .no R) =>
          bif X.E && (Nat.beq args.length R.ps.size && plainC R.asg) then
            (match yieldTm R.n R.tm (R.ps.toList.zip args) with
            | some tm => go (.code R.asg) ⟨tm, R.n, []⟩ M fun l =>
              match l with
              | .code .norm F' M' =>
                (match hget M'.hp b with
                | some (.lp .ready .no R') => bif plainC R'.body then go (.code R'.body) F' { M' with hp := hset M'.hp b (.lp .busy .no R') } (endR b k) else .fail 116
                | _ => .fail 109)
              | _ => .fail 110
            | none => .fail 111)
          else .fail 112
        | _ => .fail 113)
      | _ => .fail 46)
def rDefers (go : Task → Fr → Me → (Lf → T) → T) (X : Cx) (fn : Func) (ds : List (AV × List AV)) (pn : Option AV) (F : Fr) (M : Me) (k : Lf → T) : T :=
      (match ds with
      | [] => (match pn with
        | none => resultsA X.P F M fn.results.toList fun vs M => (match vs with | [v] => k (.val v M) | vs => k (.val (.tup vs) M))
        | some v => k (.pan v M))
      | (f, args) :: r =>
        (match f with
        | .func (.func fid) first cap =>
          (match X.P.funcs[fid]? with
          | some fn' =>
            (match fn'.body with
            | some c =>
              let as := first ++ args ++ cap
              bif Nat.ble as.length fn'.ntmps then
              (match undefTm fn'.ntmps with
              | some t0 =>
                (match argsTm 200 0 t0 as with
                | some tm =>
                  (match recovers c with
                  | some (d, rest) =>
                    Fr.put ⟨tm, fn'.ntmps, []⟩ d (pn.getD .nili) fun G => go (.code rest) G M fun l =>
                      match l with
                      | .code .norm G M | .code .ret G M => (match G.df with
                        | [] => resultsA X.P G M fn'.results.toList fun _ M => go (.defers fn r none) F M k
                        | _ => .fail 50)
                      | _ => .fail 51
                  | none => .fail 52)
                | none => .fail 53)
              | none => .fail 54) else .fail 55
            | none => .fail 56)
          | none => .fail 57)
        | .yld b => (match hget M.hp b with
          | some .dfb => go (.defers fn r pn) F { M with hp := hdel M.hp b } k
          | _ => .fail 114)
        | _ => .fail 58))
def run (n : Nat) (X : Cx) (t : Task) (F : Fr) (M : Me) (k : Lf → T) : T :=
  match n with
  | 0 => .fail 10
  | n + 1 =>
    match t with
    | .code c => rCode (run n X) X c F M k
    | .loop c => run n X (.code c) F M fun l => match l with | .code .norm F M => run n X (.loop c) F M k | l => k l
    | .ops ops l => rOps (run n X) X ops l F M k
    | .draw D todo => rDraw (run n X) X D todo F M k
    | .call f args => rCall (run n X) X f args F M k
    | .defers fn ds pn => rDefers (run n X) X fn ds pn F M k
theorem run_succ (n : Nat) (X : Cx) (t : Task) (F : Fr) (M : Me) (k : Lf → T) : run (n + 1) X t F M k =
    (match t with
    | .code c =>
      (match c with
      | .skip | .label _ => k (.code .norm F M)
      | .region id ops draw =>
        (match splitR X.P M.hp F ops.toList with
        | some (ik, e, m) => splitI m e M fun q M => run n X (.code (.region id ops draw)) (F.sub ik e q) M k
        | none =>
        (match draw with
        | false => run n X (.ops ops ops.toList) F M k
        | true =>
          let b := Region.before ops
          let hv := (List.range ops.size).filter (isH ops)
          let l := canon ops b hv 0
          bif tidy ops b && validB ops b (2 ^ ops.size - 1) l then
            run n X (.draw ⟨ops, b, M.nb⟩ l) F { M with nb := M.nb + ops.size } k else .fail 11))
      | .seq a b => run n X (.code a) F M fun l => match l with | .code .norm F M => run n X (.code b) F M k | l => k l
      | .cond c a b => (match ev F c with | .bool e => test M e fun t M => run n X (.code (if t then a else b)) F M k | .boolu e => test M e fun t M => if t then .both (run n X (.code a) F M k) (run n X (.code b) F M k) else run n X (.code b) F M k | _ => .fail 12)
      | .block id c => run n X (.code c) F M fun l => match l with | .code (.exit i) F M => (bif Nat.beq i id then k (.code .norm F M) else k (.code (.exit i) F M)) | l => k l
      | .loop c =>
        (match (ridOf c).bind fun rid => getL F.n rid M.nb M.nv M.pc.cs.length X.L with
        | none => run n X (.loop c) F M k
        | some la =>
          (match genF F la.slots with
          | none => .fail 70
          | some Fg =>
            let Mg := genM M la
            (match instA la M.nv M.nb Fg Mg F M with
            | none => .fail 71
            | some (xs, cs) => needs M cs fun _ =>
              .loop M.nv xs (run n X (.code c) Fg Mg (loopB la M.nv M.nb Fg Mg)) (run n X (.code c) Fg Mg (loopR k)))))
      | .exit i => k (.code (.exit i) F M)
      | .goto i => k (.code (.goto i) F M)
      | .ret => k (.code .ret F M)
      | .scope c => run n X (.code c) F M fun l => match l with | .code (.goto _) _ _ => .fail 61 | l => k l
      | .rangeFunc g ps asg body =>
        (match ev F g with
        | .func (.func fid) first cap =>
          bif X.E && (plainC asg && plainC body) then
            (let F' := { F with df := (.yld M.nb, []) :: F.df }
             run n X (.call (.func (.func fid) first cap) [.yld (M.nb + 1)]) F' { M with hp := hset (hset M.hp M.nb .dfb) (M.nb + 1) (.lp .ready .no ⟨F.tm, F.n, ps, asg, body⟩), nb := M.nb + 2 } (endF (M.nb + 1) F' k))
          else .fail 101
        | _ => .fail 102)
      | _ => .fail 13)
    | .loop c => run n X (.code c) F M fun l => match l with | .code .norm F M => run n X (.loop c) F M k | l => k l
    | .ops ops l =>
      (match l with
      | [] => k (.code .norm F M)
      | o :: r =>
        guardA ops F o M (fun M =>
          match kindOf o with
          | .h =>
            (match o.op with
            | .store t a v => (match storeX X.P M.hp t (ev F a) (ev F v) with
              | some (b, ob, cs) => needs M cs fun M => F.put o.dst undefA fun F => run n X (.ops ops r) F { M with hp := hset M.hp b ob } k
              | none => .fail 17)
            | .insert t m key v => (match X.P.underlying t, ev F m, ev F key with
              | some (.map kt _), .map b, .int kk (.int q) => (match X.P.underlying kt, hget M.hp b with
                | some (.int _), some (.map es) => bif es.all (keyNe kk q) then
                    F.put o.dst undefA fun F' => run n X (.ops ops r) F' { M with hp := hset M.hp b (.map (es ++ [(.int kk (.int q), ev F v)])) } k else .fail 18
                | _, _ => .fail 19)
              | _, _, _ => .fail 20)
            | .lookup t m key ok => (match X.P.underlying t, ev F m, ev F key with
              | some (.map kt el), .map b, .int kk e => (match X.P.underlying kt, hget M.hp b, zeroA X.P el with
                | some (.int _), some (.map es), some z => bif es.all (keyIs kk) then
                  let fin := fun (v : AV) (b : Bool) (M : Me) => F.put o.dst (if ok then .tup [v, .bool (.bool b)] else v) fun F => run n X (.ops ops r) F M k
                  findA M e es (fun v M => fin v true M) (fun M => fin z false M) else .fail 21
                | _, _, _ => .fail 21)
              | _, _, _ => .fail 22)
            | .panic x => (match ev F x with | .iface t v => k (.code (.panic (.iface t v)) F M) | _ => .fail 23)
            | .defer { callee := .value f, args, .. } => (match ev F f with
              | .func (.func fid) first cap => F.put o.dst undefA fun F' => run n X (.ops ops r) { F' with df := (.func (.func fid) first cap, args.toList.map (ev F)) :: F'.df } M k
              | _ => .fail 60)
            | .call { callee := .builtin .append, args, argTypes } =>
              (match args.toList, argTypes.toList with
              | [s, x], [t, xt] => (match appendX X.P t xt M (ev F s) (ev F x) with
                | some (v, M', cs) => needs M cs fun M => F.put o.dst v fun F => run n X (.ops ops r) F { M' with pc := M.pc } k
                | none => .fail 24)
              | _, _ => .fail 25)
            | .call { callee := .builtin .copy, args, argTypes } =>
              (match args.toList, argTypes.toList with
              | [s, x], [t, _] => (match copyZ X.P t M (ev F s) (ev F x) with
                | some (v, M', cs) => needs M cs fun M => F.put o.dst v fun F => run n X (.ops ops r) F { M' with pc := M.pc } k
                | none => .fail 26)
              | _, _ => .fail 27)
            | .call { callee := .value f, args, .. } =>
              (match ev F f with
              | .func (.func fid) first cap => run n X (.call (.func (.func fid) first cap) (args.toList.map (ev F))) F M fun l =>
                match l with
                | .val v M => F.put o.dst v fun F => run n X (.ops ops r) F M k
                | .pan v M => k (.code (.panic v) F M)
                | _ => .fail 28
              | .yld b => run n X (.call (.yld b) (args.toList.map (ev F))) F M fun l =>
                match l with
                | .val v M => F.put o.dst v fun F => run n X (.ops ops r) F M k
                | .pan v M => k (.code (.panic v) F M)
                | _ => .fail 28
              | _ => .fail 46)
            | _ => .fail 29)
          | _ => (match auxF X.P o (ev F) M with
            | some (v, M', cs) => needs M cs fun M => F.put o.dst v fun F => run n X (.ops ops r) F (Me.pcOf M' M) k
            | none => lightA X.P F o M.nb M fun v ob M => F.put o.dst v fun F => run n X (.ops ops r) F (Me.lay1 M ob) k))
          (fun M => bif skipOk X (ev F) o then F.put o.dst undefA fun F => run n X (.ops ops r) F M k else .fail 115))
    | .draw D todo =>
      (match todo with
      | [] => k (.code .norm F M)
      | i :: r =>
        match D.ops[i]? with
        | none => .fail 33
        | some o =>
          match kindOf o with
          | .h =>
            let bi := D.b.getD i 0
            (match blank F.tm (dsts D.ops fun j => !bi.testBit j && !(i :: r).contains j) with
            | none => .fail 38
            | some tm =>
              run n X (.ops D.ops [o]) (F.tmTo tm) { M with hp := keepHp D.q D.ops.size bi M.hp } fun l =>
                match l with
                | .code .norm F' M' => bif !Nat.beq F'.n F.n then .fail 39 else
                  Fr.put (F.dfTo F'.df) o.dst (match o.dst with | some d => (F'.tm.get d).getD .any | none => .any) fun F2 =>
                    recheck X.P D F2 ((List.range D.ops.size).filter fun j => isL D.ops j && !r.contains j && !bi.testBit j) { M' with hp := happ M'.hp (M.hp.filter fun p => !(Nat.blt p.1 D.q || Nat.ble (D.q + D.ops.size) p.1 || bi.testBit (p.1 - D.q))) }
                      fun M => run n X (.draw D r) F2 M k
                | .code (.panic v) F' M' => k (.code (.panic v) F' M')
                | _ => .fail 36)
          | _ => guardA D.ops F o M
            (fun M => lightA X.P F o (D.q + i) M fun v ob M => F.put o.dst v fun F => run n X (.draw D r) F (layA M (D.q + i) ob) k)
            (fun M => F.put o.dst undefA fun F => run n X (.draw D r) F M k))
    | .call f args =>
      (match f with
      | .func (.func fid) first cap =>
        (match (match getS fid X.S with | none => none | some sm => bif litArgs sm M args then none else some sm) with
        | some sm => (match first, cap with
          | [], [] => (match useX sm M args with
            | some (v, M', cs) => needs M cs fun M => k (.val v { M' with pc := M.pc })
            | none => .fail 80)
          | _, _ => .fail 81)
        | none =>
        match X.P.funcs[fid]? with
        | some fn =>
          (match fn.body with
          | some c =>
            let as := first ++ args ++ cap
            bif Nat.ble as.length fn.ntmps then
            (match undefTm fn.ntmps with
            | some t0 =>
              (match argsTm 200 0 t0 as with
              | some tm =>
                run n X (.code c) ⟨tm, fn.ntmps, []⟩ M (callK (run n X) X fn fun l => k (gcL M.nb l))
              | none => .fail 41)
            | none => .fail 42) else .fail 43
          | none => .fail 44)
        | none => .fail 45)
      | .yld b =>
        (match hget M.hp b with
        | some (.lp .ready .no R) =>
          bif X.E && (Nat.beq args.length R.ps.size && plainC R.asg) then
            (match yieldTm R.n R.tm (R.ps.toList.zip args) with
            | some tm => run n X (.code R.asg) ⟨tm, R.n, []⟩ M fun l =>
              match l with
              | .code .norm F' M' =>
                (match hget M'.hp b with
                | some (.lp .ready .no R') => bif plainC R'.body then run n X (.code R'.body) F' { M' with hp := hset M'.hp b (.lp .busy .no R') } (endR b k) else .fail 116
                | _ => .fail 109)
              | _ => .fail 110
            | none => .fail 111)
          else .fail 112
        | _ => .fail 113)
      | _ => .fail 46)
    | .defers fn ds pn =>
      (match ds with
      | [] => (match pn with
        | none => resultsA X.P F M fn.results.toList fun vs M => (match vs with | [v] => k (.val v M) | vs => k (.val (.tup vs) M))
        | some v => k (.pan v M))
      | (f, args) :: r =>
        (match f with
        | .func (.func fid) first cap =>
          (match X.P.funcs[fid]? with
          | some fn' =>
            (match fn'.body with
            | some c =>
              let as := first ++ args ++ cap
              bif Nat.ble as.length fn'.ntmps then
              (match undefTm fn'.ntmps with
              | some t0 =>
                (match argsTm 200 0 t0 as with
                | some tm =>
                  (match recovers c with
                  | some (d, rest) =>
                    Fr.put ⟨tm, fn'.ntmps, []⟩ d (pn.getD .nili) fun G => run n X (.code rest) G M fun l =>
                      match l with
                      | .code .norm G M | .code .ret G M => (match G.df with
                        | [] => resultsA X.P G M fn'.results.toList fun _ M => run n X (.defers fn r none) F M k
                        | _ => .fail 50)
                      | _ => .fail 51
                  | none => .fail 52)
                | none => .fail 53)
              | none => .fail 54) else .fail 55
            | none => .fail 56)
          | none => .fail 57)
        | .yld b => (match hget M.hp b with
          | some .dfb => run n X (.defers fn r pn) F { M with hp := hdel M.hp b } k
          | _ => .fail 114)
        | _ => .fail 58))) := by
  cases t with
  | draw D todo =>
    obtain ⟨ops, b, q⟩ := D
    cases todo with
    | nil => rfl
    | cons i r =>
      simp only [← dropHp_eq]
      rfl
  | _ => rfl
theorem run_zero (X : Cx) (t : Task) (F : Fr) (M : Me) (k : Lf → T) : run 0 X t F M k = .fail 10 := rfl
def inX (cs : List Cl) (i : Nat) : List AV × List (Nat × Ob) :=
  match cs with
  | [] => ([], [])
  | .pl k :: l => (match inX l (i + 1) with | (as, hs) => (k.av (.var i) :: as, hs))
  | .rows _ ks :: l => (match inX l (i + 1) with | (as, hs) => (.sl i ks.length (.int 0) (.un .len (.var i)) none :: as, (i, .ro ks (.var i)) :: hs))
  | .nst ns :: l => (match inX l (i + 1) with | (as, hs) => (.sl i ns.length (.int 0) (.un .len (.var i)) none :: as, (i, .nro ns (.var i)) :: hs))
def Cl.nests : Cl → Bool | .nst _ => true | _ => false
def unpackR (n : Nat) (v : AV) : Option (List AV) :=
  bif Nat.beq n 1 then some [v] else match v with | .tup vs => bif Nat.beq vs.length n then some vs else none | _ => none
def slId : AV → Option Nat
  | .sl b _ _ _ _ => some b
  | _ => none
def ownOk (nb : Nat) (hp : List (Nat × Ob)) (cs : List Cl) (as : List AV) : Bool :=
  (cs.zip as).zipIdx.all fun p => match p.1.1 with
    | .rows true _ => (match p.1.2 with
      | .nils => true
      | .sl b _ off _ _ => Nat.ble nb b && (decide (off = .int 0) && ((match hget hp b with | some (.rows _ _) | some (.cells _) => true | _ => false) &&
          as.zipIdx.all fun q => Nat.beq q.2 p.2 || (match slId q.1 with | some b' => !Nat.beq b' b | none => true)))
      | _ => false)
    | _ => true
def leafD (outs : List Sh) (nb : Nat) (l : Lf) : T :=
  match l with
  | .val v M =>
    (match unpackR outs.length v with
    | none => .fail 90
    | some avs => match flatA outs avs with
      | none => .fail 91
      | some fl => match cellsX M.hp (clsOf outs) fl with
        | none => .fail 92
        | some (es, cs) => bif ownOk nb M.hp (clsOf outs) fl then needs M cs fun _ => .ret (.nxt es) else .fail 93)
  | _ => .fail 94
def callD (X : Cx) (n : Nat) (f : FuncId) (ins outs : List Sh) (fs : List LF) : T :=
  bif (clsOf outs).any Cl.shares && (clsOf ins).any Cl.nests then .fail 95 else
  match inX (clsOf ins) 0 with
  | (as, hs) => run n X (.call (.func (.func f) [] []) (packA ins as)) ⟨.lf, 0, []⟩ ⟨hs, (clsOf ins).length, (clsOf ins).length, ⟨[], fs⟩⟩ (leafD outs (clsOf ins).length)
def M0 : Me := ⟨[], 0, 0, ⟨[], []⟩⟩
end Go.Proofs.YtkfjgggiopegbaaDoor
end
