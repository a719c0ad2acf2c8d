/-
From the model's code to Mini's: 'trC'. What types say (sizes, offsets, zero values) is looked up once, here. 'strip' forgets Mini's own remarks (which slots live on).
-/
import Derived.Test.YtnekgoanadbmmaaMiA
import GoSem.Core.Lib
import GoSem.Op.Equal
import GoSem.Core.Region
import Derived.KernelRfl
namespace Go.Mini

def cv1 : Value → Option MV
  | .bool b => some (.bool b)
  | .int k n => some (.int k n)
  | .string s => some (.str s)
  | .pointer none => some .nilp
  | .slice none 0 0 => some .nils
  | .nilFunc => some .nilf
  | .func (.func f) first captured => if first.size = 0 ∧ captured.size = 0 then some (.fn f [] []) else none
  | _ => none

def cvs : List Value → Option (List MV)
  | [] => some []
  | v :: vs => match cv1 v with
    | some x => match cvs vs with
      | some xs => some (x :: xs)
      | none => none
    | none => none

def cv : Value → Option MV
  | .agg cs => (cvs cs.toList).map .agg
  | .tuple vs => if vs.size = 0 then some (.tup []) else none
  | v => cv1 v

def trOpd : Operand → Option Opd
  | .tmp t => some (.t t)
  | .const v => (cv v).map .c
  | .func f => some (.c (.fn f [] []))
  | .global _ => none

def trOpds : List Operand → Option (List Opd)
  | [] => some []
  | x :: xs => match trOpd x with
    | some y => match trOpds xs with
      | some ys => some (y :: ys)
      | none => none
    | none => none

def trOpt : Option Operand → Option (Option Opd)
  | none => some none
  | some x => (trOpd x).map some

def sizeP (P : Program) (t : TypeId) : Option Nat := (P.info? t).map (·.size)
def bytesP (P : Program) (t : TypeId) : Option Nat := (P.info? t).map (·.bytes)
def zeroP (P : Program) (t : TypeId) : Option Value := (P.info? t).bind (·.zero)

def aggP (P : Program) (t : TypeId) : Option Bool :=
  match P.underlying t with
  | some (.struct _) | some (.array _ _) => some true
  | some _ => some false
  | none => none

/-- How a variable of a type is read: whole (so many cells), or as one cell. -/
def howP (P : Program) (t : TypeId) : Option (Option Nat) :=
  match aggP P t, sizeP P t with
  | some true, some n => some (some n)
  | some false, some 1 => some none
  | _, _ => none

/-- The places of a build's parts: offset and size. -/
def placesP (P : Program) (t : TypeId) (i : Nat) : Option (Nat × Nat) :=
  match P.underlying t with
  | some (.struct fs) => match fs[i]? with
    | some f => (sizeP P f.type).map fun n => (f.offset, n)
    | none => none
  | some (.array _ e) => (sizeP P e).map fun n => (i * n, n)
  | _ => none

def trParts (P : Program) (place : Nat → Option (Nat × Nat)) : List (Nat × Operand) → Option (List (Nat × Nat × Opd))
  | [] => some []
  | (i, x) :: r => match place i with
    | some (o, n) => match trOpd x with
      | some y => match trParts P place r with
        | some ys => some ((o, n, y) :: ys)
        | none => none
      | none => none
    | none => none

/-- All types of a struct's fields are known (their sizes are asked one by one). -/
def sizedP (P : Program) (t : TypeId) : Bool :=
  match P.underlying t with
  | some (.struct fs) => fs.toList.all fun f => (sizeP P f.type).isSome
  | some (.array _ e) => (sizeP P e).isSome
  | _ => false

def flatFs (rec : TypeId → Option (List Nat)) : List Field → List Nat → Option (List Nat)
  | [], acc => some acc
  | f :: fs, acc => if f.name ≠ "_" ∧ f.offset = acc.length then
      match rec f.type with
      | some ks => flatFs rec fs (acc ++ ks)
      | none => none
    else none

/-- '==' on a type's values is '==' on their cells, one by one: the cells' kinds. -/
def flatK (P : Program) : Nat → TypeId → Option (List Nat)
  | 0, _ => none
  | d + 1, t =>
    match P.underlying t with
    | some .bool => if sizeP P t = some 1 then some [0] else none
    | some (.int _) => if sizeP P t = some 1 then some [1] else none
    | some .string => if sizeP P t = some 1 then some [2] else none
    | some (.struct fs) => if P.stoodInHeld t then none else
      match flatFs (flatK P d) fs.toList [] with
      | some ks => if sizeP P t = some ks.length then some ks else none
      | none => none
    | _ => none

def trSlice (P : Program) (t : TypeId) (x : Opd) (lo hi mx : Option Opd) : Option IOp :=
  match P.underlying t with
  | some (.slice e) => (sizeP P e).map fun n => .slice n x lo hi mx
  | some .string => if mx.isNone then some (.slstr x lo hi) else none
  | some (.array n e) => if mx.isNone then (sizeP P e).map fun s => .slarr n s x lo hi else none
  | some (.pointer a) => match P.underlying a with
    | some (.array n e) => if mx.isNone then (sizeP P e).map fun s => .slarr n s x lo hi else none
    | _ => none
  | _ => none

def trBuiltin (P : Program) (b : Builtin) (ts : List TypeId) (args : List Opd) : Option IOp :=
  match b, ts, args with
  | .len, [t], [x] => match P.underlying t with
    | some (.slice _) => some (.len x)
    | some .string => some (.lens x)
    | some (.array n _) => some (.lenc n)
    | some (.pointer a) => match P.underlying a with
      | some (.array n _) => some (.lenc n)
      | _ => none
    | _ => none
  | .append, [s, t], [x, y] => match P.underlying s, P.underlying t with
    | some (.slice e), some (.slice _) => match sizeP P e, bytesP P e, zeroP P e with
      | some n, some b, some z => if s = t ∧ z.cells.size = n ∧ b ≠ 0 then some (.app n b x y) else none
      | _, _, _ => none
    | _, _ => none
  | .max, _, [x, y] => some (.mx x y)
  | .min, _, [x, y] => some (.mn x y)
  | _, _, _ => none

def isEq : BinOp → Bool
  | .eql | .neq => true
  | _ => false

def isNeq : BinOp → Bool
  | .neq => true
  | _ => false

def trBin (P : Program) (op : BinOp) (t : TypeId) (x y : Opd) : Option IOp :=
  if isEq op then
    match P.underlying t with
    | some .bool => some (.eqb (isNeq op) x y)
    | some (.int _) | some .string => some (.bin op x y)
    | some (.pointer _) => some (.eqn 0 (isNeq op) x y)
    | some (.slice _) => some (.eqn 1 (isNeq op) x y)
    | some (.func ..) => some (.eqn 2 (isNeq op) x y)
    | some (.struct _) => match flatK P 20 t with
      | some ks => if P.eqGuardType P.depth t = false then some (.eqa ks (isNeq op) x y) else none
      | none => none
    | _ => none
  else some (.bin op x y)

def trOp (P : Program) : Op → Option IOp
  | .move x | .assign x => (trOpd x).map .mv
  | .pick c a b => match trOpd c, trOpd a, trOpd b with
    | some c, some a, some b => some (.pick c a b)
    | _, _, _ => none
  | .alloc e => match zeroP P e with
    | some z => (cvs z.cells.toList).map .alloc
    | none => none
  | .box _ x => (trOpd x).map .box
  | .build t ps => match zeroP P t, trParts P (placesP P t) ps.toList with
    | some z, some ps => if sizedP P t then (cvs z.cells.toList).map fun z => .build z ps else none
    | _, _ => none
  | .buildSlice t len ps => match P.underlying t with
    | some (.slice e) => match sizeP P e with
      | some n => if len * n > 2 ^ 24 then none else
        match (if len * n = 0 then some #[] else (zeroP P e).map Value.cells), trParts P (fun i => some (i * n, n)) ps.toList with
        | some z, some ps => (cvs ((Array.range (len * n)).map (z[· % z.size]!)).toList).map fun z => .blit len z ps
        | _, _ => none
      | none => none
    | _ => none
  | .load t a => match howP P t, trOpd a with
    | some n, some a => some (.load n a)
    | _, _ => none
  | .store t a x => match sizeP P t, trOpd a, trOpd x with
    | some n, some a, some x => some (.store n a x)
    | _, _, _ => none
  | .nilCheck x => (trOpd x).map .nchk
  | .binOp op t x y _ => match trOpd x, trOpd y with
    | some x, some y => trBin P op t x y
    | _, _ => none
  | .unOp op _ x => (trOpd x).map (.un op)
  | .convert s d x => match P.underlying s, P.underlying d, trOpd x with
    | some _, some (.int k), some x => some (.conv k x)
    | some .string, some .string, some x => some (.convs x)
    | _, _, _ => none
  | .makeFunc (.func f) a b => match trOpds a.toList, trOpds b.toList with
    | some a, some b => some (.mkfn f a b)
    | _, _ => none
  | .makeSlice t l c => match P.underlying t with
    | some (.slice e) => match sizeP P e, bytesP P e, zeroP P e, trOpd l, trOpd c with
      | some n, some b, some z, some l, some c => if n = 0 then none else (cvs z.cells.toList).map fun z => .mksl z n b l c
      | _, _, _, _, _ => none
    | _ => none
  | .slice t x lo hi mx => match trOpd x, trOpt lo, trOpt hi, trOpt mx with
    | some x, some lo, some hi, some mx => trSlice P t x lo hi mx
    | _, _, _, _ => none
  | .fieldAddr s x f => match P.underlying s, trOpd x with
    | some (.struct fs), some x => match fs[f]? with
      | some g => match sizeP P g.type with
        | some n => if n = 0 then none else some (.faddr g.offset x)
        | none => none
      | none => none
    | _, _ => none
  | .field s x f => match P.underlying s, trOpd x with
    | some (.struct fs), some x => match fs[f]? with
      | some g => (howP P g.type).map fun n => .fld g.offset n x
      | none => none
    | _, _ => none
  | .indexAddr t x i => match P.underlying t, trOpd x, trOpd i with
    | some (.slice e), some x, some i => (sizeP P e).map fun n => .iaddr n x i
    | some (.array l e), some x, some i => (sizeP P e).map fun n => .iaddra l n x i
    | _, _, _ => none
  | .index t x i => match P.underlying t, trOpd x, trOpd i with
    | some (.array l e), some x, some i => match sizeP P e, aggP P e with
      | some n, some ag => if ag = false ∧ n ≠ 1 then none else some (.idx l n ag x i)
      | _, _ => none
    | some .string, some x, some i => some (.idxs x i)
    | _, _, _ => none
  | .extract x i => (trOpd x).map (.extr i)
  | .call c => match trOpds c.args.toList with
    | some args => match c.callee with
      | .value f => (trOpd f).map fun f => .call f args
      | .builtin b => trBuiltin P b c.argTypes.toList args
      | .invoke _ _ => none
    | none => none
  | _ => none

def dstAt (ops : List Oper) (j : Nat) : Option Nat := (ops[j]?).bind (·.dst)

def trGuard (ops : List Oper) : Option (Nat × Bool) → Option (Option (Nat × Bool))
  | none => some none
  | some (j, b) => (dstAt ops j).map fun t => some (t, b)

def trOper (P : Program) (ops : List Oper) (o : Oper) : Option IOper :=
  match trGuard ops o.guard, trOp P o.op with
  | some g, some op => some ⟨o.dst, g, op⟩
  | _, _ => none

def trOpers (P : Program) (ops : List Oper) : List Oper → Option (List IOper)
  | [] => some []
  | o :: os => match trOper P ops o with
    | some x => match trOpers P ops os with
      | some xs => some (x :: xs)
      | none => none
    | none => none

/-! ### Regions that draw their order: what does not commute is ordered by the edges -/

def rdO : Opd → List Nat
  | .t i => [i]
  | .c _ => []

def rdP : List (Nat × Nat × Opd) → List Nat
  | [] => []
  | (_, _, x) :: r => rdO x ++ rdP r

def rdOs : List Opd → List Nat
  | [] => []
  | x :: r => rdO x ++ rdOs r

def rdM : Option Opd → List Nat
  | none => []
  | some x => rdO x

def rdOp : IOp → List Nat
  | .mv x | .box x | .boxi x | .loadi _ x | .nchk x | .un _ x | .conv _ x | .convs x | .faddr _ x | .fld _ _ x | .extr _ x | .len x | .lens x | .load _ x | .loado _ _ x => rdO x
  | .pick c a b => rdO c ++ rdO a ++ rdO b
  | .alloc _ | .alloci _ | .lenc _ => []
  | .build _ ps | .blit _ _ ps | .blitm _ _ _ ps => rdP ps
  | .store _ a x | .storeo _ _ a x | .bin _ a x | .eqb _ a x | .eqn _ _ a x | .eqa _ _ a x | .iaddr _ a x | .iaddra _ _ a x | .idx _ _ _ a x | .idxs a x | .app _ _ a x | .mx a x | .mn a x => rdO a ++ rdO x
  | .mkfn _ a b => rdOs a ++ rdOs b
  | .mksl _ _ _ l c => rdO l ++ rdO c
  | .slice _ x a b c => rdO x ++ rdM a ++ rdM b ++ rdM c
  | .slstr x a b | .slarr _ _ x a b => rdO x ++ rdM a ++ rdM b
  | .call f args => rdO f ++ rdOs args
  | .callt _ args => rdOs args

def rdG : Option (Nat × Bool) → List Nat
  | some (t, _) => [t]
  | none => []

def rdI (o : IOper) : List Nat := rdOp o.op ++ rdG o.guard

/-- 0: it does not look at memory; 1: it reads it; 2: it may turn it; 3: it adds a block. -/
def cls (pm : Nat → Bool) : IOp → Nat
  | .load .. | .loado .. | .slarr .. => 1
  | .store .. | .storeo .. | .app .. => 2
  | .alloc _ | .box _ | .mksl .. | .blitm .. => 3
  | .call (.c (.fn f [] [])) _ => if pm f then 0 else if pm (f + 1048576) then 3 else if pm (f + 2097152) then 1 else 2
  | .call _ _ => 2
  | .callt .. => 2
  | _ => 0

def hits (d : Option Nat) (l : List Nat) : Bool :=
  match d with
  | some d => l.contains d
  | none => false

/-- It may read memory, and add to it. -/
def roC (pm : Nat → Bool) : IC → Bool
  | .reg _ l => l.all fun o => !Nat.beq (cls pm o.op) 2
  | .seq a b | .cond _ a b => roC pm a && roC pm b
  | .block _ a | .loop _ a => roC pm a
  | .rangeF .. => false
  | _ => true

/-- Does the earlier one's memory matter to the later one, or the other way? -/
def memConf (a b : Nat) : Bool :=
  match a, b with
  | 0, _ | _, 0 => false
  | 1, 1 | 1, 3 => false
  | _, _ => true

/-- Both say where they read or write, and nowhere the same. -/
def spanOf : IOp → Option (Nat × Nat)
  | .loado o none _ => some (o, 1)
  | .loado o (some n) _ => some (o, n)
  | .storeo o n _ _ => some (o, n)
  | _ => none

def offDis (x y : IOp) : Bool :=
  match spanOf x, spanOf y with
  | some (o, n), some (p, k) => Nat.ble (o + n) p || Nat.ble (p + k) o
  | _, _ => false

def conf (pm : Nat → Bool) (x y : IOper) : Bool :=
  hits x.dst (rdI y) || hits y.dst (rdI x) || (match x.dst, y.dst with | some a, some b => a == b | _, _ => false) ||
  (memConf (cls pm x.op) (cls pm y.op) && !offDis x.op y.op)

def predsOf (o : Oper) : List Nat := (o.after.toList.filter (Region.binds .any ·)).map (·.on)

def befOne (acc : List Nat) : List Nat → Nat → Nat
  | [], s => s
  | k :: ks, s => befOne acc ks (s ||| 2 ^ k ||| acc.getD k 0)

def befs : List Oper → List Nat → List Nat
  | [], acc => acc
  | o :: os, acc => befs os (acc ++ [befOne acc (predsOf o) 0])

def ordOne (pm : Nat → Bool) (b : Nat) (y : IOper) : List IOper → Nat → Bool
  | [], _ => true
  | x :: xs, i => (!conf pm x y || b.testBit i) && ordOne pm b y xs (i + 1)

def ordAll (pm : Nat → Bool) (B : List Nat) (all : List IOper) : List IOper → Nat → Bool
  | [], _ => true
  | y :: ys, j => ordOne pm (B.getD j 0) y (all.take j) 0 && ordAll pm B all ys (j + 1)

/-- Each waits for earlier ones alone. -/
def lowAll : List Oper → Nat → Bool
  | [], _ => true
  | o :: os, i => (predsOf o).all (fun k => decide (k < i)) && lowAll os (i + 1)

def wellOrd (pm : Nat → Bool) (ops : List Oper) (l : List IOper) : Bool := lowAll ops 0 && ordAll pm (befs ops []) l l 0

/-! ### Code -/

def trC (P : Program) : Code → Option IC
  | .skip => some .skip
  | .region _ ops dr => match trOpers P ops.toList ops.toList with
    | some l => some (.reg dr l)
    | none => none
  | .seq a b => match trC P a, trC P b with
    | some a, some b => some (.seq a b)
    | _, _ => none
  | .cond c a b => match trOpd c, trC P a, trC P b with
    | some c, some a, some b => some (.cond c a b)
    | _, _, _ => none
  | .block id a => (trC P a).map (.block id)
  | .loop a => (trC P a).map (.loop [])
  | .rangeFunc f ps asg body => match trOpd f, trC P asg, trC P body with
    | some f, some a, some b => some (.rangeF f ps.toList a b)
    | _, _, _ => none
  | .exit id => some (.exit id)
  | .ret => some .ret
  | _ => none

def stripOp : IOp → IOp
  | .boxi x => .box x
  | .callt f args => .call (.c (.fn f [] [])) args
  | .blitm n _ z ps => .blit n z ps
  | .alloci z => .alloc z
  | .loadi n a => .load n a
  | .loado _ n a => .load n a
  | .storeo _ n a x => .store n a x
  | op => op

def stripL : List IOper → List IOper
  | [] => []
  | o :: os => ⟨o.dst, o.guard, stripOp o.op⟩ :: stripL os

def strip : IC → IC
  | .reg dr l => .reg dr (stripL l)
  | .seq (.mask _) b => strip b
  | .seq a b => .seq (strip a) (strip b)
  | .cond c a b => .cond c (strip a) (strip b)
  | .block id a => .block id (strip a)
  | .loop _ a => .loop [] (strip a)
  | .rangeF f ps a b => .rangeF f ps (strip a) (strip b)
  | .stuck a => strip a
  | c => c

/-- Regions that draw are in order, with Mini's remarks. -/
def ordC (pm : Nat → Bool) : IC → Code → Bool
  | .stuck _, _ => true
  | .seq (.mask _) b, c => ordC pm b c
  | .seq a b, .seq c d => ordC pm a c && ordC pm b d
  | .cond _ a b, .cond _ c d => ordC pm a c && ordC pm b d
  | .block _ a, .block _ c => ordC pm a c
  | .loop _ a, .loop c => ordC pm a c
  | .rangeF _ _ a b, .rangeFunc _ _ c d => ordC pm a c && ordC pm b d
  | .reg true l, .region _ ops _ => wellOrd pm ops.toList l
  | _, _ => true

def trRes (P : Program) : List ResultVar → Option (List IRes)
  | [] => some []
  | .tmp t :: r => (trRes P r).map (.tmp t :: ·)
  | .cell a t :: r => match howP P t with
    | some n => (trRes P r).map (.cell a n :: ·)
    | none => none

/-- One function's text in Mini is what its code becomes. -/
def trF (P : Program) (f : Func) : Option (Nat × List IRes × IC) :=
  match f.body with
  | some c => match trRes P f.results.toList, trC P c with
    | some r, some b => some (f.ntmps, r, b)
    | _, _ => none
  | none => none

end Go.Mini
