/- The symbolic executor: operations that write, calls, code, regions. Definitions alone. -/
import Derived.Test.YtbnbljeegghgiaaEx
namespace Go.Proofs.Ytbnbljeegghgiaa
open Go.RowKit

def AV.same (f : Nat) (x y : AV) : Bool :=
  match f with
  | 0 => false
  | f + 1 =>
    let lst := fun (a b : List AV) => Nat.beq a.length b.length && (a.zip b).all fun p => AV.same f p.1 p.2
    match x, y with
    | .int k e, .int k' e' => decide (k = k') && decide (e = e')
    | .bool e, .bool e' => decide (e = e')
    | .str e, .str e' => decide (e = e')
    | .nilp, .nilp => true
    | .ptr b o, .ptr b' o' => Nat.beq b b' && Nat.beq o o'
    | .elt b s i j, .elt b' s' i' j' => Nat.beq b b' && Nat.beq s s' && Nat.beq j j' && decide (i = i')
    | .nils, .nils => true
    | .sl b s o l c, .sl b' s' o' l' c' => Nat.beq b b' && Nat.beq s s' && decide (o = o') && decide (l = l') && decide (c = c')
    | .func fn a b, .func fn' a' b' => decide (fn = fn') && lst a a' && lst b b'
    | .nilf, .nilf => true
    | .iface t v, .iface t' v' => Nat.beq t t' && AV.same f v v'
    | .nili, .nili => true
    | .agg a, .agg b => lst a b
    | .tup a, .tup b => lst a b
    | .map b, .map b' => Nat.beq b b'
    | .nilm, .nilm => true
    | _, _ => false

/-- The cells of a source that is appended or copied: known one by one. -/
def srcCells (hp : List (Nat × Ob)) (n : Nat) (x : AV) : Option (List AV) :=
  match x with
  | .nils => some []
  | .sl b s off len _ =>
    (match hget hp b, litN off, litN len with
    | some (.cells cs), some o, some l => bif Nat.beq s n && Nat.ble ((o + l) * s) cs.length then some ((cs.drop (o * s)).take (l * s)) else none
    | _, _, _ => none)
  | _ => none
/-- The same, as a list of plain data: its kinds, the list, its length, and what must hold. -/
def srcRows (hp : List (Nat × Ob)) (n : Nat) (x : AV) : Option (List CK × SE × SE × List SE) :=
  match x with
  | .sl b s off len _ =>
    (match hget hp b with
    | some (.rows ks e) | some (.ro ks e) => bif Nat.beq s ks.length && Nat.beq s n then
        (if off = .int 0 ∧ len = .un .len e then some (ks, e, len, []) else some (ks, mkB .take (mkB .drop e off) len, len, [mkB .le (.int 0) len, mkB .le (mkB .add off len) (mkU .len e)])) else none
    | _ => none)
  | _ => none
def chunk (n : Nat) (f : Nat) (cs : List AV) : List (List AV) :=
  match f with
  | 0 => []
  | f + 1 => match cs with | [] => [] | cs => cs.take n :: chunk n f (cs.drop n)
def rowsOf (n : Nat) (cs : List AV) : SE := (chunk n cs.length cs).foldr (fun r e => .bin .cons (rowE r) e) .nil
/-- All cells are plain data of the row's kinds. -/
def allData (ks : List CK) (n f : Nat) (cs : List AV) : Bool :=
  match f with
  | 0 => true
  | f + 1 => match cs with | [] => true | cs => decide ((cs.take n).mapM ckOf = some ks) && allData ks n f (cs.drop n)

/-- What a slice that is appended to is. -/
inductive DK where
  | zero
  | fixed (b o l c : Nat) (cs : List AV)
  | tip (b l : Nat) (cs : List AV)
  | rows (b : Nat) (ks : List CK) (e len : SE)
def destK (hp : List (Nat × Ob)) (n : Nat) (s : AV) : Option DK :=
  match s with
  | .nils => some .zero
  | .sl b s' off len cap =>
    bif Nat.beq s' n then
      (match litN len, cap.bind litN with
      | some 0, some 0 => some .zero
      | _, _ =>
        (match hget hp b, litN off, litN len, cap with
        | some (.cells cs), some o, some l, some c => (match litN c with | some c => some (.fixed b o l c cs) | none => none)
        | some (.cells cs), some 0, some l, none => bif Nat.beq (l * n) cs.length then some (.tip b l cs) else none
        | some (.rows ks e), some 0, _, _ => bif Nat.beq ks.length n then some (.rows b ks e len) else none
        | _, _, _, _ => none))
    else none
  | _ => none
/-- append(s, x): the value, the memory, what must hold. -/
def appendA (P : Program) (t xt : TypeId) (M : Me) (s x : AV) : Option (AV × Me × List SE) :=
  match P.underlying t, P.underlying xt with
  | some (.slice el), some (.slice _) =>
    (match sizeB P el, P.info? el, (zeroA P el).bind AV.cells? with
    | some (n + 1), some inf, some zc =>
      bif Nat.ble inf.bytes 10000 && Nat.beq zc.length (n + 1) then
      (match srcCells M.hp (n + 1) x with
      | some xs =>
        let m := xs.length / (n + 1)
        let cond := fun (q : Nat) => [mkB .le (.int q) (.int 4294967296)]
        bif Nat.beq m 0 then (match s with | .nils => some (.nils, M, []) | .sl b s' o l c => some (.sl b s' o l c, M, []) | _ => none) else
        bif Nat.beq (m * (n + 1)) xs.length && xs.all AV.one then
        (match destK M.hp (n + 1) s with
        | some .zero => some (.sl M.nb (n + 1) (.int 0) (.int m) none, { M with hp := hset M.hp M.nb (.cells xs), nb := M.nb + 1 }, cond m)
        | some (.fixed b o l c cs) =>
          bif Nat.ble (l + m) c then
            (bif Nat.ble ((o + l + m) * (n + 1)) cs.length then some (.sl b (n + 1) (.int o) (.int (l + m : Nat)) (some (.int c)), { M with hp := hset M.hp b (.cells (setMany cs ((o + l) * (n + 1)) xs)) }, cond (l + m)) else none)
          else (bif Nat.ble ((o + l) * (n + 1)) cs.length then some (.sl M.nb (n + 1) (.int 0) (.int (l + m : Nat)) none, { M with hp := hset M.hp M.nb (.cells ((cs.drop (o * (n + 1))).take (l * (n + 1)) ++ xs)), nb := M.nb + 1 }, cond (l + m)) else none)
        | some (.tip b l cs) => some (.sl M.nb (n + 1) (.int 0) (.int (l + m : Nat)) none, { M with hp := hset (hdel M.hp b) M.nb (.cells (cs ++ xs)), nb := M.nb + 1 }, cond (l + m))
        | some (.rows b ks e len) =>
          bif allData ks (n + 1) xs.length xs then
            some (.sl M.nb (n + 1) (.int 0) (mkB .add len (.int m)) none, { M with hp := hset (hdel M.hp b) M.nb (.rows ks (match chunk (n + 1) xs.length xs with | [r] => mkB .snoc e (rowE r) | _ => mkB .app e (rowsOf (n + 1) xs))), nb := M.nb + 1 }, [mkB .eq len (mkU .len e), mkB .le (mkB .add len (.int m)) (.int 4294967296)])
          else none
        | none => none) else none
      | none =>
        (match srcRows M.hp (n + 1) x with
        | some (ks, e', L, cs) =>
          (match destK M.hp (n + 1) s with
          | some .zero => some (.sl M.nb (n + 1) (.int 0) L none, { M with hp := hset M.hp M.nb (.rows ks e'), nb := M.nb + 1 }, mkB .eq (mkU .len e') L :: mkB .le L (.int 4294967296) :: cs)
          | some (.rows b ks' e len) => if ks' = ks then
              some (.sl M.nb (n + 1) (.int 0) (mkB .add len L) none, { M with hp := hset (hdel M.hp b) M.nb (.rows ks (mkB .app e e')), nb := M.nb + 1 }, mkB .eq len (mkU .len e) :: mkB .eq (mkU .len e') L :: mkB .le (mkB .add len L) (.int 4294967296) :: cs) else none
          | _ => none)
        | none => none)) else none
    | _, _, _ => none)
  | _, _ => none

/-- A store. -/
def storeA (P : Program) (hp : List (Nat × Ob)) (t : TypeId) (a v : AV) : Option (Nat × Ob × List SE) :=
  match sizeB P t with
  | some n =>
    (match v.cells? with
    | none => none
    | some vc =>
    bif Nat.beq vc.length n && vc.all AV.one then
    (match a with
    | .ptr b o =>
      (match hget hp b with
      | some (.cells cs) => bif Nat.ble (o + n) cs.length then some (b, .cells (setMany cs o vc), []) else none
      | _ => none)
    | .elt b s i 0 =>
      (match hget hp b with
      | some (.rows ks e) => bif Nat.beq s ks.length && Nat.beq n s then
          (if vc.mapM ckOf = some ks then some (b, .rows ks (mkT .set e i (rowE vc)), [mkB .le (.int 0) i, ltE i (mkU .len e)]) else none) else none
      | _ => none)
    | _ => none) else none)
  | none => none

/-- copy(dst, src) where both are known whole. -/
def copyA (P : Program) (t : TypeId) (M : Me) (d x : AV) : Option (AV × Me × List SE) :=
  match P.underlying t with
  | some (.slice el) =>
    (match sizeB P el, d with
    | some (n + 1), .sl b s off len _ =>
      bif Nat.beq s (n + 1) then
      (match hget M.hp b, litN off with
      | some (.rows ks e), some 0 =>
        (match srcRows M.hp (n + 1) x with
        | some (ks', e', l', cs) => if len = l' ∧ ks' = ks then some (i64 l', { M with hp := hset M.hp b (.rows ks e') }, mkB .eq (mkU .len e) len :: mkB .eq (mkU .len e') len :: cs) else none
        | none => none)
      | _, _ => none) else none
    | _, _ => none)
  | _ => none

inductive Kd where
  | v | l | a | h
  deriving DecidableEq
def kindOf (o : Oper) : Kd :=
  match o.op with
  | .load .. => .l
  | .alloc _ | .box .. | .buildSlice .. | .makeSlice .. | .makeMap .. => .a
  | .store .. | .insert .. | .lookup .. | .mapUpdate .. | .defer _ | .panic _ => .h
  | .call { callee := .builtin b, .. } => (match b with | .len | .min | .max => .v | _ => .h)
  | .call _ => .h
  | _ => .v

/-- A region that draws its own order: its operations, what goes before each (bits), and the numbers kept for its blocks. -/
structure Dr where
  ops : Array Oper
  b : Array Nat
  q : Nat
def isH (ops : Array Oper) (i : Nat) : Bool := match ops[i]? with | some o => decide (kindOf o = .h) | none => false
def isL (ops : Array Oper) (i : Nat) : Bool := match ops[i]? with | some o => decide (kindOf o = .l) | none => false
/-- All that may go before the next heavy one, in the order of the text. -/
def lights (ops : Array Oper) (b : Array Nat) : List Nat → Nat → List Nat × Nat
  | [], done => ([], done)
  | i :: r, done =>
    bif !isH ops i && !done.testBit i && Nat.beq (Nat.lor (b.getD i 0) done) done then
      (match lights ops b r (Nat.lor done (2 ^ i)) with | (l, d) => (i :: l, d))
    else lights ops b r done
def canon (ops : Array Oper) (b : Array Nat) (hv : List Nat) (done : Nat) : List Nat :=
  match lights ops b (List.range ops.size) done with
  | (l, d) => match hv with
    | [] => l
    | h :: r => l ++ h :: canon ops b r (Nat.lor d (2 ^ h))
/-- An order that keeps to what goes before: each once, all in the end; behind a heavy one only what waits for it. -/
def validB (ops : Array Oper) (b : Array Nat) : Nat → List Nat → Bool
  | rem, [] => Nat.beq rem 0
  | rem, i :: r => Nat.beq (Nat.land (b.getD i 0) rem) 0 && rem.testBit i && (!isH ops i || r.all fun j => (b.getD j 0).testBit i) && validB ops b (Nat.xor rem (2 ^ i)) r
/-- Temporaries: each is written once, and read on a fixed side of its write. -/
def tmpsOf (ops : Array Oper) (o : Oper) : List Tmp :=
  (match o.guard with | some (j, _) => ((ops[j]?).bind (·.dst)).toList | none => []) ++ o.op.operands.toList.filterMap fun | .tmp t => some t | _ => none
def writers (t : Tr) : List (Oper × Nat) → Option Tr
  | [] => some t
  | (o, i) :: r => match o.dst with
    | none => writers t r
    | some d => match t.set 20 d (.ptr i 0) with | some t => writers t r | none => none
def tidyB (ops : Array Oper) (b : Array Nat) (W : Tr) (l : List (Oper × Nat)) : Bool :=
  l.all fun (o, i) =>
    (match o.dst with | none => true | some d => (match W.get d with | some (.ptr j _) => Nat.beq i j | _ => false)) &&
    ((tmpsOf ops o).all fun t => match W.get t with | none => true | some (.ptr j _) => (b.getD i 0).testBit j || (!decide (kindOf o = .l) && (b.getD j 0).testBit i) | _ => false) &&
    Nat.beq (b.getD i 0) (o.after.toList.foldl (fun u e => bif Region.binds .any e then Nat.lor u (Nat.lor (2 ^ e.on) (b.getD e.on 0)) else u) 0) &&
    (o.after.toList.all fun e => !Region.binds .any e || Nat.blt e.on i)
def tidy (ops : Array Oper) (b : Array Nat) : Bool :=
  match writers .lf ops.toList.zipIdx with
  | some W => tidyB ops b W ops.toList.zipIdx
  | none => false
/-- Slots of which nothing is known any more. -/
def blank (t : Tr) : List Tmp → Option Tr
  | [] => some t
  | d :: r => match t.set 20 d .any with | some t => blank t r | none => none
def dsts (ops : Array Oper) (p : Nat → Bool) : List Tmp := (ops.toList.zipIdx.filter fun x => p x.2).filterMap fun x => x.1.dst
/-- The blocks of a memory without those that operations outside the bits lay. -/
def keepHp (q n : Nat) (bits : Nat) (hp : List (Nat × Ob)) : List (Nat × Ob) := hp.filter fun p => Nat.blt p.1 q || Nat.ble (q + n) p.1 || bits.testBit (p.1 - q)

inductive Task where
  | code (c : Code)
  | loop (c : Code)
  | ops (ops : Array Oper) (l : List Oper)
  | call (f : AV) (args : List AV)
  | draw (D : Dr) (todo : List Nat)
  | defers (fn : Func) (ds : List (AV × List AV)) (pn : Option AV)

def Fr.put (F : Fr) (d : Option Tmp) (v : AV) (k : Fr → T) : T :=
  match d with
  | none => k F
  | some d => bif Nat.blt d F.n then (match F.tm.set 20 d v with | some tm => k { F with tm } | none => .fail 2) else .fail 3

/-- Keys of a map. -/
def keyNe (kk : IntKind) (q : Int) (p : AV × AV) : Bool := match p.1 with | .int kk' (.int q') => decide (kk = kk') && !decide (q = q') | _ => false
def keyIs (kk : IntKind) (p : AV × AV) : Bool := match p.1 with | .int kk' _ => decide (kk = kk') | _ => false
/-- The key of a map's entry. -/
def findA (M : Me) (k : SE) (es : List (AV × AV)) (yes : AV → Me → T) (no : Me → T) : T :=
  match es with
  | [] => no M
  | (.int _ e, v) :: r => test M (mkB .eq k e) fun b M => if b then yes v M else findA M k r yes no
  | _ => .fail 4

def resultsA (P : Program) (F : Fr) (M : Me) (rs : List ResultVar) (k : List AV → Me → T) : T :=
  match rs with
  | [] => k [] M
  | .tmp t :: r => resultsA P F M r fun vs M => k ((F.tm.get t).getD .any :: vs) M
  | .cell a t :: r =>
    match readA P M.hp t ((F.tm.get a).getD .any) with
    | some (v, cs) => needs M cs fun M => resultsA P F M r fun vs M => k (v :: vs) M
    | none => .fail 5

def argsTm (f i : Nat) (t : Tr) (l : List AV) : Option Tr :=
  match f, l with
  | _, [] => some t
  | 0, _ => none
  | f + 1, v :: r => match t.set 20 i v with | some t => argsTm f (i + 1) t r | none => none
/-- The slots of a call that hold nothing yet. -/
def undefA : AV := .tup []

structure Cx where
  P : Program

def guardA (ops : Array Oper) (F : Fr) (o : Oper) (M : Me) (yes no : Me → T) : T :=
  match o.guard with
  | none => yes M
  | some (j, want) =>
    match (ops[j]?).bind (·.dst) with
    | some d => (match (F.tm.get d).getD .any with
      | .bool e => test M e fun b M => if b = want then yes M else no M
      | .tup [] => no M
      | _ => .fail 30)
    | none => .fail 31
/-- An operation that neither writes nor calls: its value, and the block that it lays. -/
def lightA (P : Program) (F : Fr) (o : Oper) (q : Nat) (M : Me) (k : AV → Option Ob → Me → T) : T :=
  match kindOf o with
  | .v => (match o.op with
    | .pick c a b => (match ev F c with
      | .bool e => test M e fun t M => k (if t then ev F a else ev F b) none M
      | _ => .fail 9)
    | _ => match opV P o (ev F) with
      | some (v, cs) => needs M cs fun M => k v none M
      | none => .fail 14)
  | .l => (match opL P o (ev F) M.hp with
    | some (v, cs) => needs M cs fun M => k v none M
    | none => .fail 15)
  | .a => (match opA P o (ev F) with
    | some (ob, f, cs) => needs M cs fun M => k (f q) (some ob) M
    | none => .fail 16)
  | .h => .fail 59
def layA (M : Me) (q : Nat) : Option Ob → Me
  | none => M
  | some ob => { M with hp := hset M.hp q ob }
/-- The reads that may still be to come read as they did. -/
def recheck (P : Program) (D : Dr) (F : Fr) (l : List Nat) (M : Me) (k : Me → T) : T :=
  match l with
  | [] => k M
  | j :: l =>
    match D.ops[j]? with
    | none => .fail 33
    | some o => guardA D.ops F o M (fun M => lightA P F o 0 M fun v _ M =>
        (match o.dst with
        | none => recheck P D F l M k
        | some d => bif AV.same 50 ((F.tm.get d).getD .any) v then recheck P D F l M k else .fail 37)) (fun M => match o.dst with
      | none => recheck P D F l M k
      | some d => bif AV.same 50 ((F.tm.get d).getD .any) undefA then recheck P D F l M k else .fail 37)

/-- A deferred call's body that begins with recover(). -/
def recovers (c : Code) : Option (Option Tmp × Code) :=
  match c with
  | .seq (.region _ ops false) r => (match ops.toList with
    | [{ dst, op := .call { callee := .builtin .recover, .. }, guard := none, .. }] => some (dst, r)
    | _ => none)
  | _ => none

def run (n : Nat) (X : Cx) (t : Task) (F : Fr) (M : Me) (k : Lf → T) : T :=
  match n with
  | 0 => .fail 10
  | n + 1 =>
    match t with
    | .code c =>
      (match c with
      | .skip | .label _ => k (.code .norm F M)
      | .region _ ops draw =>
        (match draw with
        | false => run n X (.ops ops ops.toList) F M k
        | true =>
          let b := Region.before ops
          let hv := (List.range ops.size).filter (isH ops)
          let l := canon ops b hv 0
          bif tidy ops b && validB ops b (2 ^ ops.size - 1) l then
            (match blank F.tm (dsts ops fun _ => true) with
            | some tm => run n X (.draw ⟨ops, b, M.nb⟩ l) { F with tm } { M with nb := M.nb + ops.size } k
            | none => .fail 38) else .fail 11)
      | .seq a b => run n X (.code a) F M fun l => match l with | .code .norm F M => run n X (.code b) F M k | l => k l
      | .cond c a b => (match ev F c with | .bool e => test M e fun t M => run n X (.code (if t then a else b)) F M k | _ => .fail 12)
      | .block id c => run n X (.code c) F M fun l => match l with | .code (.exit i) F M => (bif Nat.beq i id then k (.code .norm F M) else k (.code (.exit i) F M)) | l => k l
      | .loop c => run n X (.loop c) F M k
      | .exit i => k (.code (.exit i) F M)
      | .goto i => k (.code (.goto i) F M)
      | .ret => k (.code .ret F M)
      | _ => .fail 13)
    | .loop c => run n X (.code c) F M fun l => match l with | .code .norm F M => run n X (.loop c) F M k | l => k l
    | .ops ops l =>
      (match l with
      | [] => k (.code .norm F M)
      | o :: r =>
        guardA ops F o M (fun M =>
          match kindOf o with
          | .h =>
            (match o.op with
            | .store t a v => (match storeA X.P M.hp t (ev F a) (ev F v) with
              | some (b, ob, cs) => needs M cs fun M => F.put o.dst undefA fun F => run n X (.ops ops r) F { M with hp := hset M.hp b ob } k
              | none => .fail 17)
            | .insert t m key v => (match X.P.underlying t, ev F m, ev F key with
              | some (.map kt _), .map b, .int kk (.int q) => (match X.P.underlying kt, hget M.hp b with
                | some (.int _), some (.map es) => bif es.all (keyNe kk q) then
                    F.put o.dst undefA fun F' => run n X (.ops ops r) F' { M with hp := hset M.hp b (.map (es ++ [(.int kk (.int q), ev F v)])) } k else .fail 18
                | _, _ => .fail 19)
              | _, _, _ => .fail 20)
            | .lookup t m key ok => (match X.P.underlying t, ev F m, ev F key with
              | some (.map kt el), .map b, .int kk e => (match X.P.underlying kt, hget M.hp b, zeroA X.P el with
                | some (.int _), some (.map es), some z => bif es.all (keyIs kk) then
                  let fin := fun (v : AV) (b : Bool) (M : Me) => F.put o.dst (if ok then .tup [v, .bool (.bool b)] else v) fun F => run n X (.ops ops r) F M k
                  findA M e es (fun v M => fin v true M) (fun M => fin z false M) else .fail 21
                | _, _, _ => .fail 21)
              | _, _, _ => .fail 22)
            | .panic x => (match ev F x with | .iface t v => k (.code (.panic (.iface t v)) F M) | _ => .fail 23)
            | .defer { callee := .value f, args, .. } => (match ev F f with
              | .func (.func fid) first cap => F.put o.dst undefA fun F' => run n X (.ops ops r) { F' with df := (.func (.func fid) first cap, args.toList.map (ev F)) :: F'.df } M k
              | _ => .fail 60)
            | .call { callee := .builtin .append, args, argTypes } =>
              (match args.toList, argTypes.toList with
              | [s, x], [t, xt] => (match appendA X.P t xt M (ev F s) (ev F x) with
                | some (v, M', cs) => needs M cs fun M => F.put o.dst v fun F => run n X (.ops ops r) F { M' with pc := M.pc } k
                | none => .fail 24)
              | _, _ => .fail 25)
            | .call { callee := .builtin .copy, args, argTypes } =>
              (match args.toList, argTypes.toList with
              | [s, x], [t, _] => (match copyA X.P t M (ev F s) (ev F x) with
                | some (v, M', cs) => needs M cs fun M => F.put o.dst v fun F => run n X (.ops ops r) F { M' with pc := M.pc } k
                | none => .fail 26)
              | _, _ => .fail 27)
            | .call { callee := .value f, args, .. } =>
              (match ev F f with
              | .func (.func fid) first cap => run n X (.call (.func (.func fid) first cap) (args.toList.map (ev F))) F M fun l =>
                match l with
                | .val v M => F.put o.dst v fun F => run n X (.ops ops r) F M k
                | .pan v M => k (.code (.panic v) F M)
                | _ => .fail 28
              | _ => .fail 46)
            | _ => .fail 29)
          | _ => lightA X.P F o M.nb M fun v ob M => F.put o.dst v fun F => run n X (.ops ops r) F { layA M M.nb ob with nb := M.nb + (if ob.isSome then 1 else 0) } k)
          (fun M => F.put o.dst undefA fun F => run n X (.ops ops r) F M k))
    | .draw D todo =>
      (match todo with
      | [] => k (.code .norm F M)
      | i :: r =>
        match D.ops[i]? with
        | none => .fail 33
        | some o =>
          match kindOf o with
          | .h =>
            let bi := D.b.getD i 0
            (match blank F.tm (dsts D.ops fun j => !bi.testBit j) with
            | none => .fail 38
            | some tm =>
              run n X (.ops D.ops [o]) { F with tm } { M with hp := keepHp D.q D.ops.size bi M.hp } fun l =>
                match l with
                | .code .norm F' M' => bif !Nat.beq F'.n F.n then .fail 39 else
                  Fr.put { F with df := F'.df } o.dst (match o.dst with | some d => (F'.tm.get d).getD .any | none => .any) fun F2 =>
                    recheck X.P D F2 ((List.range D.ops.size).filter fun j => isL D.ops j && !r.contains j && !bi.testBit j) { M' with hp := M'.hp ++ M.hp.filter fun p => !(Nat.blt p.1 D.q || Nat.ble (D.q + D.ops.size) p.1 || bi.testBit (p.1 - D.q)) }
                      fun M => run n X (.draw D r) F2 M k
                | _ => .fail 36)
          | _ => guardA D.ops F o M
            (fun M => lightA X.P F o (D.q + i) M fun v ob M => F.put o.dst v fun F => run n X (.draw D r) F (layA M (D.q + i) ob) k)
            (fun M => F.put o.dst undefA fun F => run n X (.draw D r) F M k))
    | .call f args =>
      (match f with
      | .func (.func fid) first cap =>
        (match X.P.funcs[fid]? with
        | some fn =>
          (match fn.body with
          | some c =>
            let as := first ++ args ++ cap
            bif Nat.ble as.length fn.ntmps then
            (match argsTm 200 0 .lf as, argsTm 400 as.length .lf (List.replicate (fn.ntmps - as.length) undefA) with
            | some _, some t0 =>
              (match argsTm 200 0 t0 as with
              | some tm =>
                run n X (.code c) ⟨tm, fn.ntmps, []⟩ M fun l =>
                  match l with
                  | .code .norm F M | .code .ret F M =>
                    (match F.df with
                    | [] => resultsA X.P F M fn.results.toList fun vs M => (match vs with | [v] => k (.val v M) | vs => k (.val (.tup vs) M))
                    | ds => run n X (.defers fn ds none) F M k)
                  | .code (.panic v) F M =>
                    (match F.df with
                    | [] => k (.pan v M)
                    | ds => run n X (.defers fn ds (some v)) F M k)
                  | _ => .fail 40
              | none => .fail 41)
            | _, _ => .fail 42) else .fail 43
          | none => .fail 44)
        | none => .fail 45)
      | _ => .fail 46)
    | .defers fn ds pn =>
      (match ds with
      | [] => (match pn with
        | none => resultsA X.P F M fn.results.toList fun vs M => (match vs with | [v] => k (.val v M) | vs => k (.val (.tup vs) M))
        | some v => k (.pan v M))
      | (f, args) :: r =>
        (match f with
        | .func (.func fid) first cap =>
          (match X.P.funcs[fid]? with
          | some fn' =>
            (match fn'.body with
            | some c =>
              let as := first ++ args ++ cap
              bif Nat.ble as.length fn'.ntmps then
              (match argsTm 400 as.length .lf (List.replicate (fn'.ntmps - as.length) undefA) with
              | some t0 =>
                (match argsTm 200 0 t0 as with
                | some tm =>
                  (match recovers c with
                  | some (d, rest) =>
                    Fr.put ⟨tm, fn'.ntmps, []⟩ d (pn.getD .nili) fun G => run n X (.code rest) G M fun l =>
                      match l with
                      | .code .norm G M | .code .ret G M => (match G.df with
                        | [] => resultsA X.P G M fn'.results.toList fun _ M => run n X (.defers fn r none) F M k
                        | _ => .fail 50)
                      | _ => .fail 51
                  | none => .fail 52)
                | none => .fail 53)
              | none => .fail 54) else .fail 55
            | none => .fail 56)
          | none => .fail 57)
        | _ => .fail 58))

/-- The tree of a call. -/
def callT (P : Program) (n : Nat) (f : FuncId) (args : List AV) (M : Me) : T := run n ⟨P⟩ (.call (.func (.func f) [] []) args) ⟨.lf, 0, []⟩ M .ret
def M0 : Me := ⟨[], 0, 0, ⟨[], []⟩⟩
end Go.Proofs.Ytbnbljeegghgiaa
