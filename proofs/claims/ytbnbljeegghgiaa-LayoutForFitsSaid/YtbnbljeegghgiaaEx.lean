/- The symbolic executor: what a piece of code does to abstract values and memory, as a tree of cases. Definitions alone. -/
import Derived.Test.YtbnbljeegghgiaaMe
namespace Go.Proofs.Ytbnbljeegghgiaa
open Go.RowKit

inductive Tr where
  | lf | nd (v : Option AV) (l r : Tr)
def Tr.get (t : Tr) (n : Nat) : Option AV :=
  match t with
  | .lf => none
  | .nd v l r => match n with
    | 0 => v
    | m + 1 => bif Nat.beq (m % 2) 0 then l.get (m / 2) else r.get (m / 2)
def Tr.set (f : Nat) (t : Tr) (n : Nat) (x : AV) : Option Tr :=
  match f with
  | 0 => none
  | f + 1 =>
    match t with
    | .lf => (match n with
      | 0 => some (.nd (some x) .lf .lf)
      | m + 1 => bif Nat.beq (m % 2) 0 then (match Tr.set f .lf (m / 2) x with | some l => some (.nd none l .lf) | none => none) else (match Tr.set f .lf (m / 2) x with | some r => some (.nd none .lf r) | none => none))
    | .nd v l r => (match n with
      | 0 => some (.nd (some x) l r)
      | m + 1 => bif Nat.beq (m % 2) 0 then (match Tr.set f l (m / 2) x with | some l => some (.nd v l r) | none => none) else (match Tr.set f r (m / 2) x with | some r => some (.nd v l r) | none => none))

structure Fr where
  tm : Tr
  n : Nat
  df : List (AV × List AV)

inductive XK where
  | norm | exit (id : Nat) | goto (l : Nat) | ret | panic (v : AV)
inductive Lf where
  | val (v : AV) (M : Me)
  | pan (v : AV) (M : Me)
  | code (k : XK) (F : Fr) (M : Me)
  | nxt (xs : List SE)
  | out
inductive T where
  | ret (l : Lf)
  | br (c : SE) (t e : T)
  | asrt (c : SE) (t : T)
  | fail (why : Nat)
  | loop (nv : Nat) (x0 : List SE) (body rest : T)

def test (M : Me) (c : SE) (k : Bool → Me → T) : T :=
  match known M.pc c with
  | some b => k b M
  | none => .br c (k true { M with pc := lay M.pc c true }) (k false { M with pc := lay M.pc c false })
def need (M : Me) (c : SE) (k : Me → T) : T :=
  match known M.pc c with
  | some true => k M
  | some false => .fail 1
  | none => .asrt c (k { M with pc := lay M.pc c true })
def needs (M : Me) (cs : List SE) (k : Me → T) : T :=
  match cs with
  | [] => k M
  | c :: r => need M c fun M => needs M r k

/-! Operands. -/
def litS (v : Value) : AV :=
  match v with
  | .bool b => .bool (.bool b)
  | .int k n => .int k (.int n)
  | .string s => .str (.str s.data.toList)
  | .pointer none => .nilp
  | .slice none 0 0 => .nils
  | .map none => .nilm
  | .nilFunc => .nilf
  | .nilIface => .nili
  | _ => .any
def litV (v : Value) : AV :=
  match v with
  | .agg cs => .agg (cs.toList.map litS)
  | .tuple cs => bif cs.toList.isEmpty then .tup [] else .any
  | v => litS v
def ev (F : Fr) (x : Operand) : AV :=
  match x with
  | .tmp t => (F.tm.get t).getD .any
  | .const v => litV v
  | .global _ => .any
  | .func f => .func (.func f) [] []

/-! Small parts. -/
def AV.one : AV → Bool
  | .any | .agg _ | .tup _ => false
  | _ => true
def AV.cells? : AV → Option (List AV)
  | .agg cs => some cs
  | .any | .tup _ => none
  | v => some [v]
def isAggB (P : Program) (t : TypeId) : Option Bool :=
  match P.underlying t with
  | some (.struct _) | some (.array _ _) => some true
  | some _ => some false
  | none => none
def sizeB (P : Program) (t : TypeId) : Option Nat := (P.info? t).map (·.size)
def zeroA (P : Program) (t : TypeId) : Option AV :=
  match P.info? t with
  | some i => i.zero.map litV
  | none => none
def setMany (l : List AV) (o : Nat) (vs : List AV) : List AV :=
  match vs with
  | [] => l
  | v :: r => setMany (l.set o v) (o + 1) r
def fillA (place : Nat → Option (Nat × Nat)) (cells : List AV) : List (Nat × AV) → Option (List AV)
  | [] => some cells
  | (i, v) :: rest =>
    match place i with
    | none => none
    | some (off, size) =>
      match v.cells? with
      | some vc => bif Nat.beq vc.length size && Nat.ble (off + size) cells.length then fillA place (setMany cells off vc) rest else none
      | none => none
def partA (P : Program) (t : TypeId) (cs : List AV) (off : Nat) : Option AV :=
  match isAggB P t, sizeB P t with
  | some true, some n => bif Nat.ble (off + n) cs.length then some (.agg ((cs.drop off).take n)) else none
  | some false, some _ => cs[off]?
  | _, _ => none
def ckOf : AV → Option CK
  | .int k _ => some (.int k)
  | .bool _ => some .bool
  | .str _ => some .str
  | _ => none
def seOf : AV → SE
  | .int _ e | .bool e | .str e => e
  | _ => .nil
/-- A row's element out of its cells. -/
def rowE (cs : List AV) : SE :=
  match cs with
  | [v] => seOf v
  | cs => cs.foldr (fun v r => .bin .cons (seOf v) r) .nil
def litN : SE → Option Nat
  | .int (.ofNat n) => some n
  | _ => none

/-- Equality of two values of a type. -/
def eqA (P : Program) (f : Nat) (t : TypeId) (x y : AV) : Option SE :=
  match f with
  | 0 => none
  | f + 1 =>
    match P.underlying t, x, y with
    | some .bool, .bool a, .bool b => some (mkB .eqb a b)
    | some (.int _), .int k a, .int k' b => if k = k' then some (mkB .eq a b) else none
    | some .string, .str a, .str b => some (mkB .eqs a b)
    | some (.struct fs), .agg xs, .agg ys =>
      bif P.stoodInHeld t then none else
      fs.toList.foldr (fun fl (acc : Option SE) =>
        match acc with
        | none => none
        | some s => if fl.name = "_" then some s else
          match partA P fl.type xs fl.offset, partA P fl.type ys fl.offset with
          | some u, some v => (match eqA P f fl.type u v with | some e => some (mkB .and e s) | none => none)
          | _, _ => none) (some (.bool true))
    | _, _, _ => none
def eqlA (P : Program) (t : TypeId) (x y : AV) : Option SE :=
  match x, y with
  | .agg _, .agg _ => bif P.eqGuardType P.depth t then none else eqA P 20 t x y
  | .nili, .nili => none
  | .nili, .iface _ _ => (match P.underlying t with | some (.interface _) => some (.bool false) | _ => none)
  | .iface _ _, .nili => (match P.underlying t with | some (.interface _) => some (.bool false) | _ => none)
  | .nils, .nils => (match P.underlying t with | some (.slice _) => some (.bool true) | _ => none)
  | _, _ => eqA P 1 t x y

def i64 (e : SE) : AV := .int .i64 e
def ltE (a b : SE) : SE := mkU .not (mkB .le b a)

def binA (P : Program) (op : BinOp) (t : TypeId) (x y : AV) : Option (AV × List SE) :=
  match op, x, y with
  | .shl, .int k a, .int _ b => some (.int k (mkB (.shl k) a b), [mkB .le (.int 0) b])
  | .shr, .int k a, .int _ b => some (.int k (mkB (.shr k) a b), [mkB .le (.int 0) b])
  | op, .int k a, .int k' b =>
    if k = k' then
      match op with
      | .add => some (.int k (mkU (.wrap k) (mkB .add a b)), [])
      | .sub => some (.int k (mkU (.wrap k) (mkB .sub a b)), [])
      | .mul => some (.int k (mkU (.wrap k) (mkB .mul a b)), [])
      | .quo => some (.int k (mkU (.wrap k) (mkB .tdiv a b)), [mkU .not (mkB .eq b (.int 0))])
      | .rem => some (.int k (mkB .tmod a b), [mkU .not (mkB .eq b (.int 0))])
      | .and => some (.int k (mkB (.band k) a b), [])
      | .or => some (.int k (mkB (.bor k) a b), [])
      | .xor => some (.int k (mkB (.bxor k) a b), [])
      | .andNot => some (.int k (mkB (.bandn k) a b), [])
      | .eql => some (.bool (mkB .eq a b), [])
      | .neq => some (.bool (mkU .not (mkB .eq a b)), [])
      | .lss => some (.bool (ltE a b), [])
      | .leq => some (.bool (mkB .le a b), [])
      | .gtr => some (.bool (ltE b a), [])
      | .geq => some (.bool (mkB .le b a), [])
      | _ => none
    else none
  | op, .str a, .str b =>
    match op with
    | .add => some (.str (mkB .cat a b), [mkB .le (mkB .add (mkU .slen a) (mkU .slen b)) (.int 9223372036854775807)])
    | .eql => some (.bool (mkB .eqs a b), [])
    | .neq => some (.bool (mkU .not (mkB .eqs a b)), [])
    | .lss => some (.bool (mkB .slt a b), [])
    | _ => none
  | .eql, x, y => (eqlA P t x y).map fun e => (.bool e, [])
  | .neq, x, y => (eqlA P t x y).map fun e => (.bool (mkU .not e), [])
  | _, _, _ => none

/-- The bounds of a slice expression. -/
def boundA (x : Option AV) (d : SE) (hi : SE) : Option (SE × List SE) :=
  match x with
  | none => some (d, [])
  | some (.int _ e) => some (e, [mkB .le (.int 0) e, mkB .le e hi])
  | some _ => none

/-- Operations that touch no memory: their value, and what must hold. -/
def opV (P : Program) (o : Oper) (ev : Operand → AV) : Option (AV × List SE) :=
  match o.op with
  | .move x | .assign x => some (ev x, [])
  | .build t parts =>
    match zeroA P t, P.underlying t with
    | some z, some (.struct fs) =>
      (match z.cells?, fs.toList.mapM (fun f => sizeB P f.type) with
      | some zc, some szs => (fillA (fun i => match fs[i]?, szs[i]? with | some f, some n => some (f.offset, n) | _, _ => none) zc (parts.toList.map fun p => (p.1, ev p.2))).map fun cs => (.agg cs, [])
      | _, _ => none)
    | some z, some (.array _ e) =>
      (match sizeB P e, z.cells? with
      | some n, some zc => (fillA (fun i => some (i * n, n)) zc (parts.toList.map fun p => (p.1, ev p.2))).map fun cs => (.agg cs, [])
      | _, _ => none)
    | _, _ => none
  | .nilCheck x =>
    match ev x with
    | .ptr b o => some (.ptr b o, [])
    | .elt b s i j => some (.elt b s i j, [])
    | .func (.func f) a b => some (.func (.func f) a b, [])
    | _ => none
  | .binOp op t x y _ => binA P op t (ev x) (ev y)
  | .unOp op _ x =>
    match op, ev x with
    | .neg, .int k e => some (.int k (mkU (.wrap k) (mkB .sub (.int 0) e)), [])
    | .xor, .int k e => some (.int k (mkB (.bxor k) (.int (if k.signed then -1 else k.max)) e), [])
    | .not, .bool e => some (.bool (mkU .not e), [])
    | _, _ => none
  | .convert s d x =>
    match P.underlying s, P.underlying d, ev x with
    | some _, some (.int k), .int _ e => some (.int k (mkU (.wrap k) e), [])
    | some _, some .string, .str e => some (.str e, [])
    | _, _, _ => none
  | .makeInterface t x =>
    match P.underlying t with
    | some (.interface _) => none
    | some _ => some (.iface t (ev x), [])
    | none => none
  | .makeFunc fn first cap => some (.func fn (first.toList.map ev) (cap.toList.map ev), [])
  | .fieldAddr t x f =>
    match P.underlying t with
    | some (.struct fs) =>
      (match fs[f]? with
      | some fl => (match sizeB P fl.type, ev x with
        | some (_ + 1), .ptr b o => some (.ptr b (o + fl.offset), [])
        | some (_ + 1), .elt b s i j => some (.elt b s i (j + fl.offset), [])
        | _, _ => none)
      | none => none)
    | _ => none
  | .field t x f =>
    match P.underlying t, ev x with
    | some (.struct fs), .agg cs => (match fs[f]? with | some fl => (partA P fl.type cs fl.offset).map fun v => (v, []) | none => none)
    | _, _ => none
  | .indexAddr t x i =>
    match P.underlying t, ev x, ev i with
    | some (.slice el), .sl b s off len _, .int _ e =>
      (match sizeB P el with
      | some n => bif Nat.beq n s then
          (match litN (mkB .add off e) with
          | some q => some (.ptr b (q * s), [mkB .le (.int 0) e, ltE e len])
          | none => some (.elt b s (mkB .add off e) 0, [mkB .le (.int 0) e, ltE e len])) else none
      | none => none)
    | some (.array n el), .ptr b o, .int _ e =>
      (match sizeB P el, litN e with
      | some s, some q => bif Nat.blt q n then some (.ptr b (o + q * s), []) else none
      | _, _ => none)
    | _, _, _ => none
  | .index t x i =>
    match P.underlying t, ev x, ev i with
    | some (.array n el), .agg cs, .int _ e =>
      (match sizeB P el, litN e with
      | some s, some q => bif Nat.blt q n then (partA P el cs (q * s)).map fun v => (v, []) else none
      | _, _ => none)
    | some .string, .str s, .int _ e => some (.int .u8 (mkB .byte s e), [mkB .le (.int 0) e, ltE e (mkU .slen s)])
    | _, _, _ => none
  | .slice t x lo hi mx =>
    match P.underlying t, ev x with
    | some .string, .str s =>
      (match mx, boundA (hi.map ev) (mkU .slen s) (mkU .slen s) with
      | none, some (h, c1) => (match boundA (lo.map ev) (.int 0) h with
        | some (l, c2) => some (.str (mkB .sdrop (mkB .stake s h) l), c1 ++ c2)
        | none => none)
      | _, _ => none)
    | some (.slice el), .sl b s off len cap =>
      (match sizeB P el, mx, cap, hi with
      | some n, none, some c, _ => bif Nat.beq n s then
          (match boundA (hi.map ev) len c with
          | some (h, c1) => (match boundA (lo.map ev) (.int 0) h with
            | some (l, c2) => some (.sl b s (mkB .add off l) (mkB .sub h l) (some (mkB .sub c l)), c1 ++ c2)
            | none => none)
          | none => none) else none
      | some n, none, none, _ => bif Nat.beq n s then
          (match boundA (hi.map ev) len len with
          | some (h, c1) => (match boundA (lo.map ev) (.int 0) h with
            | some (l, c2) => some (.sl b s (mkB .add off l) (mkB .sub h l) none, c1 ++ c2)
            | none => none)
          | none => none) else none
      | _, _, _, _ => none)
    | some (.slice el), .nils =>
      (match sizeB P el, mx, boundA (hi.map ev) (.int 0) (.int 0) with
      | some _, none, some (h, c1) => (match boundA (lo.map ev) (.int 0) h with
        | some (_, c2) => some (.nils, c1 ++ c2)
        | none => none)
      | _, _, _ => none)
    | _, _ => none
  | .extract x i =>
    match ev x with
    | .tup vs => (vs[i]?).map fun v => (v, [])
    | _ => none
  | .typeAssert x _ a ok =>
    match P.underlying a, ev x with
    | some (.interface _), _ => none
    | some _, .iface t v => if t = a then some (if ok then .tup [v, .bool (.bool true)] else v, []) else if ok then (zeroA P a).map fun z => (.tup [z, .bool (.bool false)], []) else none
    | some _, .nili => if ok then (zeroA P a).map fun z => (.tup [z, .bool (.bool false)], []) else none
    | _, _ => none
  | .call { callee := .builtin b, args, argTypes } =>
    match b, (args.toList.map ev), argTypes.toList with
    | .len, [x], [t] =>
      (match P.underlying t, x with
      | some .string, .str s => some (i64 (mkU .slen s), [])
      | some (.array n _), _ => some (i64 (.int n), [])
      | some (.slice _), .sl _ _ _ len _ => some (i64 len, [])
      | some (.slice _), .nils => some (i64 (.int 0), [])
      | _, _ => none)
    | .min, [.int k a, .int _ b], _ => some (.int k (mkT .ite (ltE b a) b a), [])
    | .max, [.int k a, .int _ b], _ => some (.int k (mkT .ite (ltE a b) b a), [])
    | _, _, _ => none
  | _ => none

/-- Reads: value and what must hold. -/
def readA (P : Program) (hp : List (Nat × Ob)) (t : TypeId) (a : AV) : Option (AV × List SE) :=
  match isAggB P t, sizeB P t with
  | some g, some n =>
    (match a with
    | .ptr b o =>
      (match hget hp b with
      | some (.cells cs) => bif Nat.ble (o + n) cs.length then (bif g then some (.agg ((cs.drop o).take n), []) else (cs[o]?).map fun v => (v, [])) else none
      | some (.rows ks e) | some (.ro ks e) =>
        let s := ks.length
        let i := o / s
        let j := o % s
        bif Nat.ble (j + n) s then
          let r := mkB .idx e (.int i)
          bif g then some (.agg (((ks.drop j).take n).zipIdx.map fun p => p.1.av (cellE ks r (j + p.2))), [ltE (.int i) (mkU .len e)])
          else (ks[j]?).map fun k => (k.av (cellE ks r j), [ltE (.int i) (mkU .len e)])
        else none
      | _ => none)
    | .elt b s i j =>
      (match hget hp b with
      | some (.rows ks e) | some (.ro ks e) =>
        bif Nat.beq s ks.length && Nat.ble (j + n) s then
          let r := mkB .idx e i
          bif g then some (.agg (((ks.drop j).take n).zipIdx.map fun p => p.1.av (cellE ks r (j + p.2))), [mkB .le (.int 0) i, ltE i (mkU .len e)])
          else (ks[j]?).map fun k => (k.av (cellE ks r j), [mkB .le (.int 0) i, ltE i (mkU .len e)])
        else none
      | _ => none)
    | _ => none)
  | _, _ => none
def opL (P : Program) (o : Oper) (ev : Operand → AV) (hp : List (Nat × Ob)) : Option (AV × List SE) :=
  match o.op with
  | .load t a => readA P hp t (ev a)
  | _ => none

/-- Operations that lay one new block: the block, the value (of its number), and what must hold. -/
def opA (P : Program) (o : Oper) (ev : Operand → AV) : Option (Ob × (Nat → AV) × List SE) :=
  match o.op with
  | .alloc t =>
    match zeroA P t with
    | some z => (match z.cells? with | some zc => some (.cells zc, fun b => .ptr b 0, []) | none => none)
    | none => none
  | .box _ x => (match (ev x).cells? with | some xc => some (.cells xc, fun b => .ptr b 0, []) | none => none)
  | .buildSlice t len parts =>
    (match P.underlying t with
    | some (.slice el) =>
      (match sizeB P el, zeroA P el with
      | some n, some z =>
        (match z.cells? with
        | some zc => bif Nat.ble (len * n) 1000000 && Nat.beq zc.length n then
          (fillA (fun i => some (i * n, n)) (List.replicate len zc).flatten (parts.toList.map fun p => (p.1, ev p.2))).map fun cs => (.cells cs, fun b => .sl b n (.int 0) (.int len) (some (.int len)), []) else none
        | none => none)
      | _, _ => none)
    | _ => none)
  | .makeSlice t l c =>
    (match P.underlying t, ev l, ev c with
    | some (.slice el), .int .i64 a, .int .i64 b =>
      (match P.info? el, zeroA P el with
      | some inf, some z =>
        (match z.cells? with
        | some zc => bif Nat.beq zc.length inf.size && Nat.ble inf.bytes 10000 then
          (match litN a, litN b with
          | some la, some lb => bif Nat.ble la lb && Nat.ble lb 1000000 then some (.cells (List.replicate lb zc).flatten, fun q => .sl q inf.size (.int 0) (.int la) (some (.int lb)), []) else none
          | _, _ => if a = b then
              (match zc.mapM ckOf with
              | some (k :: ks) => some (.rows (k :: ks) (mkB .rep a (rowE zc)), fun q => .sl q inf.size (.int 0) a (some a), [mkB .le (.int 0) a, mkB .le a (.int 1000000)])
              | _ => none) else none) else none
        | none => none)
      | _, _ => none)
    | _, _, _ => none)
  | .makeMap _ none => some (.map [], fun b => .map b, [])
  | _ => none
end Go.Proofs.Ytbnbljeegghgiaa
