/- Symbolic expressions over plain data, what they denote, and constant folding that keeps what they denote. No program in sight. -/
import GoSem.Core.View
import GoSem.Op.String
namespace Go.Proofs.Ytbnbljeegghgiaa

/-- Plain data. -/
inductive DV where
  | int (n : Int) | bool (b : Bool) | str (s : List UInt8) | list (l : List DV)

def DV.i : DV → Int | .int n => n | _ => 0
def DV.b : DV → Bool | .bool b => b | _ => false
def DV.s : DV → List UInt8 | .str s => s | _ => []
def DV.l : DV → List DV | .list l => l | _ => []

inductive UO where
  | not | len | slen | wrap (k : IntKind)
  deriving DecidableEq
inductive BO where
  | add | sub | mul | tdiv | tmod | band (k : IntKind) | bor (k : IntKind) | bxor (k : IntKind) | bandn (k : IntKind) | shl (k : IntKind) | shr (k : IntKind)
  | le | eq | eqb | eqs | slt | and | or | cat | byte | idx | cons | snoc | app | take | drop | stake | sdrop | rep
  deriving DecidableEq
inductive TO where
  | set | ite
  deriving DecidableEq
inductive SE where
  | var (i : Nat) | int (n : Int) | bool (b : Bool) | str (s : List UInt8) | nil
  | un (o : UO) (a : SE) | bin (o : BO) (a b : SE) | tri (o : TO) (a b c : SE)
  deriving DecidableEq

def evU : UO → DV → DV
  | .not, a => .bool (!a.b)
  | .len, a => .int a.l.length
  | .slen, a => .int a.s.length
  | .wrap k, a => .int (k.wrap a.i)
def evB : BO → DV → DV → DV
  | .add, a, b => .int (a.i + b.i)
  | .sub, a, b => .int (a.i - b.i)
  | .mul, a, b => .int (a.i * b.i)
  | .tdiv, a, b => .int (a.i.tdiv b.i)
  | .tmod, a, b => .int (a.i.tmod b.i)
  | .band k, a, b => .int (k.wrap (BitVec.ofInt k.bits a.i &&& BitVec.ofInt k.bits b.i).toNat)
  | .bor k, a, b => .int (k.wrap (BitVec.ofInt k.bits a.i ||| BitVec.ofInt k.bits b.i).toNat)
  | .bxor k, a, b => .int (k.wrap (BitVec.ofInt k.bits a.i ^^^ BitVec.ofInt k.bits b.i).toNat)
  | .bandn k, a, b => .int (k.wrap (BitVec.ofInt k.bits a.i &&& ~~~ BitVec.ofInt k.bits b.i).toNat)
  | .shl k, a, b => .int (k.wrap (a.i * 2 ^ (min b.i.toNat k.bits)))
  | .shr k, a, b => .int (a.i.fdiv (2 ^ (min b.i.toNat k.bits)))
  | .le, a, b => .bool (decide (a.i ≤ b.i))
  | .eq, a, b => .bool (decide (a.i = b.i))
  | .eqb, a, b => .bool (a.b == b.b)
  | .eqs, a, b => .bool (decide (a.s = b.s))
  | .slt, a, b => .bool (Op.bytesLess a.s b.s)
  | .and, a, b => .bool (a.b && b.b)
  | .or, a, b => .bool (a.b || b.b)
  | .cat, a, b => .str (a.s ++ b.s)
  | .byte, a, b => .int (a.s[b.i.toNat]?.getD 0).toNat
  | .idx, a, b => a.l[b.i.toNat]?.getD (.int 0)
  | .cons, a, b => .list (a :: b.l)
  | .snoc, a, b => .list (a.l ++ [b])
  | .app, a, b => .list (a.l ++ b.l)
  | .take, a, b => .list (a.l.take b.i.toNat)
  | .drop, a, b => .list (a.l.drop b.i.toNat)
  | .stake, a, b => .str (a.s.take b.i.toNat)
  | .sdrop, a, b => .str (a.s.drop b.i.toNat)
  | .rep, a, b => .list (List.replicate a.i.toNat b)
def evT : TO → DV → DV → DV → DV
  | .set, a, b, c => .list (a.l.set b.i.toNat c)
  | .ite, a, b, c => if a.b then b else c

abbrev Env := Nat → DV

def SE.den (ρ : Env) : SE → DV
  | .var i => ρ i
  | .int n => .int n
  | .bool b => .bool b
  | .str s => .str s
  | .nil => .list []
  | .un o a => evU o (a.den ρ)
  | .bin o a b => evB o (a.den ρ) (b.den ρ)
  | .tri o a b c => evT o (a.den ρ) (b.den ρ) (c.den ρ)

/-- A literal's value. -/
def SE.lit? : SE → Option DV
  | .int n => some (.int n)
  | .bool b => some (.bool b)
  | .str s => some (.str s)
  | _ => none
def DV.se? : DV → Option SE
  | .int n => some (.int n)
  | .bool b => some (.bool b)
  | .str s => some (.str s)
  | _ => none
theorem SE.lit?_den {a : SE} {v : DV} (h : a.lit? = some v) (ρ : Env) : a.den ρ = v := by
  cases a <;> simp [SE.lit?] at h <;> subst h <;> rfl
theorem DV.se?_den {v : DV} {a : SE} (h : v.se? = some a) (ρ : Env) : a.den ρ = v := by
  cases v <;> simp [DV.se?] at h <;> subst h <;> rfl

def simpU (o : UO) (a : SE) : SE :=
  match o, a with
  | .not, .un .not b => match b with | .bin .le x y => .bin .le x y | .bin .eq x y => .bin .eq x y | .bin .eqs x y => .bin .eqs x y | _ => .un .not a
  | .len, .nil => .int 0
  | _, _ => .un o a
def mkU (o : UO) (a : SE) : SE :=
  match a.lit? with
  | some v => ((evU o v).se?).getD (.un o a)
  | none => simpU o a
/-- An expression that is a truth value by its head. -/
def SE.isB : SE → Bool
  | .bool _ | .un .not _ => true
  | .bin o _ _ => (match o with | .le | .eq | .eqb | .eqs | .slt | .and | .or => true | _ => false)
  | _ => false
theorem SE.isB_den {a : SE} (h : a.isB = true) (ρ : Env) : a.den ρ = .bool (a.den ρ).b := by
  unfold SE.isB at h
  split at h
  · rfl
  · rfl
  · split at h <;> first | rfl | cases h
  · cases h
def simpB (o : BO) (a b : SE) : SE :=
  match o with
  | .le => if a = b then .bool true else .bin o a b
  | .eq => if a = b then .bool true else .bin o a b
  | .eqs => if a = b then .bool true else .bin o a b
  | .and => if a = .bool true ∧ b.isB = true then b else if b = .bool true ∧ a.isB = true then a else if a = .bool false then .bool false else if b = .bool false then .bool false else .bin o a b
  | .or => if a = .bool true then .bool true else if b = .bool true then .bool true else if a = .bool false ∧ b.isB = true then b else if b = .bool false ∧ a.isB = true then a else .bin o a b
  | .idx => (match a, b with
    | .bin .cons x y, .int (.ofNat n) => (match n with | 0 => x | m + 1 => (match y, m with | .bin .cons z _, 0 => z | _, _ => .bin .idx y (.int (.ofNat m))))
    | _, _ => .bin o a b)
  | _ => .bin o a b
def mkB (o : BO) (a b : SE) : SE :=
  match a.lit?, b.lit? with
  | some v, some w => ((evB o v w).se?).getD (.bin o a b)
  | _, _ => simpB o a b
def mkT (o : TO) (a b c : SE) : SE := match o, a with | .ite, .bool true => b | .ite, .bool false => c | _, _ => .tri o a b c

theorem simpU_den (o : UO) (a : SE) (ρ : Env) : (simpU o a).den ρ = evU o (a.den ρ) := by
  unfold simpU
  split
  · split <;> simp [SE.den, evU, evB, DV.b]
  · simp [SE.den, evU, DV.l]
  · rfl
theorem mkU_den (o : UO) (a : SE) (ρ : Env) : (mkU o a).den ρ = evU o (a.den ρ) := by
  unfold mkU
  split
  · rename_i v hv
    rw [SE.lit?_den hv ρ]
    cases h : (evU o v).se? with
    | none => simp [SE.den, SE.lit?_den hv ρ]
    | some e => exact DV.se?_den h ρ
  · exact simpU_den o a ρ
theorem simpB_den (o : BO) (a b : SE) (ρ : Env) : (simpB o a b).den ρ = evB o (a.den ρ) (b.den ρ) := by
  unfold simpB
  split
  · split
    · subst_vars; simp [SE.den, evB]
    · rfl
  · split
    · subst_vars; simp [SE.den, evB]
    · rfl
  · split
    · subst_vars; simp [SE.den, evB]
    · rfl
  · split
    · rename_i h; rw [h.1, SE.isB_den h.2 ρ]; simp [SE.den, evB, DV.b]
    · split
      · rename_i h; rw [h.1, SE.isB_den h.2 ρ]; simp [SE.den, evB, DV.b]
      · split
        · subst_vars; simp [SE.den, evB, DV.b]
        · split
          · subst_vars; simp [SE.den, evB, DV.b]
          · rfl
  · split
    · subst_vars; simp [SE.den, evB, DV.b]
    · split
      · subst_vars; simp [SE.den, evB, DV.b]
      · split
        · rename_i h; rw [h.1, SE.isB_den h.2 ρ]; simp [SE.den, evB, DV.b]
        · split
          · rename_i h; rw [h.1, SE.isB_den h.2 ρ]; simp [SE.den, evB, DV.b]
          · rfl
  · split
    · split
      · simp [SE.den, evB, DV.l, DV.i]
      · split
        · simp [SE.den, evB, DV.l, DV.i]
        · simp [SE.den, evB, DV.l, DV.i]
    · rfl
  · rfl
theorem mkB_den (o : BO) (a b : SE) (ρ : Env) : (mkB o a b).den ρ = evB o (a.den ρ) (b.den ρ) := by
  unfold mkB
  split
  · rename_i v w hv hw
    rw [SE.lit?_den hv ρ, SE.lit?_den hw ρ]
    cases h : (evB o v w).se? with
    | none => simp [SE.den, SE.lit?_den hv ρ, SE.lit?_den hw ρ]
    | some e => exact DV.se?_den h ρ
  · exact simpB_den o a b ρ
theorem mkT_den (o : TO) (a b c : SE) (ρ : Env) : (mkT o a b c).den ρ = evT o (a.den ρ) (b.den ρ) (c.den ρ) := by
  unfold mkT; split <;> simp [SE.den, evT, DV.b]

end Go.Proofs.Ytbnbljeegghgiaa
