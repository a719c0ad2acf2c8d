/-
A small pure interpreter ("Mini") of the model's code: its values, its operations, its runs. Nothing here is trusted: MiB and on prove that what it answers is what the model's machine answers.
Values: data without memory are trees (lit: a slice that nobody writes any more; pimm: a pointer to what nobody writes any more); sl and ptr look into Mini's own memory, a list of blocks, each with a generation: an append turns it, and what bears an elder one is no longer used.
A function of mode 1 takes and gives trees alone and has a memory of its own; one of mode 0 goes on in its caller's memory.
-/
import GoSem.Core.Program
import GoSem.Core.View
namespace Go.Mini

inductive MV where
  | undef
  | bool (b : Bool)
  | int (k : IntKind) (n : Int)
  | str (s : ByteArray)
  | nilp
  | ptr (b g off : Nat)
  | pimm (cells : List MV) (off : Nat)
  | nils
  | sl (b g off len sz : Nat) (kc : Option Nat)
  | lit (cells : List MV) (len : Nat) (kc : Option Nat)
  | nilf
  | fn (f : Nat) (first caps : List MV)
  | yld (j : Nat)
  | agg (cs : List MV)
  | tup (vs : List MV)
  deriving Inhabited

mutual
def deepV : MV → Bool
  | .ptr .. | .sl .. | .yld _ => false
  | .fn _ a b => deepVs a && deepVs b
  | .agg a => deepVs a
  | .tup a => deepVs a
  | _ => true
def deepVs : List MV → Bool
  | [] => true
  | v :: vs => deepV v && deepVs vs
end

structure Blk where
  cells : List MV
  gen : Nat
  deep : Bool

abbrev Mem := List Blk

inductive Opd where
  | t (i : Nat)
  | c (v : MV)

inductive IOp where
  | mv (x : Opd)
  | pick (c a b : Opd)
  | alloc (z : List MV)
  | alloci (z : List MV)
  | box (x : Opd)
  | boxi (x : Opd)
  | build (z : List MV) (parts : List (Nat × Nat × Opd))
  | blit (len : Nat) (z : List MV) (parts : List (Nat × Nat × Opd))
  | load (n : Option Nat) (a : Opd)
  | loadi (n : Option Nat) (a : Opd)
  | store (n : Nat) (a x : Opd)
  | loado (o : Nat) (n : Option Nat) (a : Opd)
  | storeo (o n : Nat) (a x : Opd)
  | nchk (x : Opd)
  | bin (op : BinOp) (x y : Opd)
  | eqb (neg : Bool) (x y : Opd)
  | eqn (k : Nat) (neg : Bool) (x y : Opd)
  | eqa (ks : List Nat) (neg : Bool) (x y : Opd)
  | un (op : UnOp) (x : Opd)
  | conv (k : IntKind) (x : Opd)
  | convs (x : Opd)
  | mkfn (f : Nat) (first caps : List Opd)
  | mksl (z : List MV) (sz bytes : Nat) (l c : Opd)
  | slice (sz : Nat) (x : Opd) (lo hi mx : Option Opd)
  | slstr (x : Opd) (lo hi : Option Opd)
  | slarr (n sz : Nat) (x : Opd) (lo hi : Option Opd)
  | faddr (off : Nat) (x : Opd)
  | fld (off : Nat) (n : Option Nat) (x : Opd)
  | iaddr (sz : Nat) (x i : Opd)
  | iaddra (n sz : Nat) (x i : Opd)
  | idx (n sz : Nat) (ag : Bool) (x i : Opd)
  | idxs (x i : Opd)
  | extr (i : Nat) (x : Opd)
  | len (x : Opd)
  | lens (x : Opd)
  | lenc (n : Nat)
  | app (sz bytes : Nat) (s x : Opd)
  | mx (a b : Opd)
  | mn (a b : Opd)
  | call (f : Opd) (args : List Opd)
  | callt (f : Nat) (args : List Opd)
  | blitm (len sz : Nat) (z : List MV) (parts : List (Nat × Nat × Opd))

structure IOper where
  dst : Option Nat
  guard : Option (Nat × Bool)
  op : IOp

inductive Ex where
  | normal
  | exit (id : Nat)
  | ret
  deriving DecidableEq

inductive IC where
  | skip
  | reg (dr : Bool) (l : List IOper)
  | seq (a b : IC)
  | cond (c : Opd) (a b : IC)
  | block (id : Nat) (a : IC)
  | loop (live : List Bool) (a : IC)
  | rangeF (f : Opd) (ps : List Nat) (asg body : IC)
  | exit (id : Nat)
  | ret
  | mask (live : List Bool)
  | stuck (a : IC)

structure LRec where
  T : List MV
  ps : List Nat
  asg : IC
  body : IC
  st : Nat
  pend : Option Ex

inductive IRes where
  | tmp (t : Nat)
  | cell (a : Nat) (n : Option Nat)

structure IFn where
  mode : Nat
  nt : Nat
  res : List IRes
  body : IC

structure St where
  T : List MV
  m : Mem
  ls : List LRec

/-! ### Operations -/

def getO (T : List MV) : Opd → MV
  | .t i => T.getD i (.tup [])
  | .c v => v

def put (T : List MV) (d : Option Nat) (v : MV) : List MV :=
  match d with
  | some d => T.set d v
  | none => T

def cellsOf : MV → Option (List MV)
  | .agg cs => some cs
  | .tup _ => none
  | .undef => none
  | v => some [v]

def setAt : List MV → Nat → List MV → List MV
  | cs, _, [] => cs
  | cs, o, v :: vs => setAt (cs.set o v) (o + 1) vs

def fillM (T : List MV) : List MV → List (Nat × Nat × Opd) → Option (List MV)
  | z, [] => some z
  | z, (off, sz, x) :: rest =>
    match cellsOf (getO T x) with
    | none => none
    | some cs => if cs.length = sz ∧ off + sz ≤ z.length then fillM T (setAt z off cs) rest else none

/-- The current cells behind a reference. -/
def blk? (m : Mem) (b g : Nat) : Option Blk :=
  match m[b]? with
  | some k => if k.gen = g then some k else none
  | none => none

def takeAt (cs : List MV) (off n : Nat) : Option (List MV) :=
  if off + n ≤ cs.length then some ((cs.drop off).take n) else none

def loadFrom (cs : List MV) (off : Nat) : Option Nat → Option MV
  | none => cs[off]?
  | some n => (takeAt cs off n).map .agg

def loadV (m : Mem) (n : Option Nat) : MV → Option MV
  | .ptr b g off => match blk? m b g with
    | some k => loadFrom k.cells off n
    | none => none
  | .pimm cs off => loadFrom cs off n
  | _ => none

def storeV (m : Mem) (n : Nat) : MV → MV → Option Mem
  | .ptr b g off, x => match blk? m b g, cellsOf x with
    | some k, some cs => if cs.length = n ∧ off + n ≤ k.cells.length then
        some (m.set b ⟨setAt k.cells off cs, k.gen, k.deep && deepVs cs⟩) else none
    | _, _ => none
  | _, _ => none

def binI (op : BinOp) (k : IntKind) (x y : Int) : Option MV :=
  match op with
  | .add => some (.int k (k.wrap (x + y)))
  | .sub => some (.int k (k.wrap (x - y)))
  | .mul => some (.int k (k.wrap (x * y)))
  | .quo => if y = 0 then none else some (.int k (k.wrap (x.tdiv y)))
  | .rem => if y = 0 then none else some (.int k (x.tmod y))
  | .and => some (.int k (k.wrap (BitVec.ofInt k.bits x &&& BitVec.ofInt k.bits y).toNat))
  | .or => some (.int k (k.wrap (BitVec.ofInt k.bits x ||| BitVec.ofInt k.bits y).toNat))
  | .eql => some (.bool (x == y))
  | .neq => some (.bool (x != y))
  | .lss => some (.bool (decide (x < y)))
  | .leq => some (.bool (decide (x ≤ y)))
  | .gtr => some (.bool (decide (x > y)))
  | .geq => some (.bool (decide (x ≥ y)))
  | _ => none

def shiftI (op : BinOp) (k : IntKind) (x y : Int) : Option MV :=
  if y < 0 then none else
  match op with
  | .shl => some (.int k (k.wrap (x * 2 ^ min y.toNat k.bits)))
  | .shr => some (.int k (x.fdiv (2 ^ min y.toNat k.bits)))
  | _ => none

def isShift : BinOp → Bool
  | .shl | .shr => true
  | _ => false

def binM (op : BinOp) : MV → MV → Option MV
  | .int k a, .int j b =>
    if isShift op then shiftI op k a b
    else if k = j then binI op k a b else none
  | .str a, .str b =>
    match op with
    | .eql => some (.bool (a.toList == b.toList))
    | .neq => some (.bool !(a.toList == b.toList))
    | _ => none
  | _, _ => none

/-- '==' where one side is nil: of pointers (0), slices (1), functions (2). -/
def eqNil : Nat → MV → MV → Option Bool
  | 0, .nilp, .nilp => some true
  | 0, .nilp, .ptr .. | 0, .nilp, .pimm .. | 0, .ptr .., .nilp | 0, .pimm .., .nilp => some false
  | 1, .nils, .nils => some true
  | 1, .nils, .sl .. | 1, .nils, .lit .. | 1, .sl .., .nils | 1, .lit .., .nils => some false
  | 2, .nilf, .nilf => some true
  | 2, .nilf, .fn .. | 2, .nilf, .yld _ | 2, .fn .., .nilf | 2, .yld _, .nilf => some false
  | _, _, _ => none

/-- '==' of two plain cells: bools (0), ints (1), strings (2). -/
def eqCell : Nat → MV → MV → Option Bool
  | 0, .bool a, .bool b => some (a == b)
  | 1, .int k a, .int j b => if k = j then some (a == b) else none
  | 2, .str a, .str b => some (a == b)
  | _, _, _ => none

def eqCells : List Nat → List MV → List MV → Option Bool
  | [], [], [] => some true
  | k :: ks, x :: xs, y :: ys => match eqCell k x y with
    | some b => match eqCells ks xs ys with
      | some c => some (b && c)
      | none => none
    | none => none
  | _, _, _ => none

def unM (op : UnOp) : MV → Option MV
  | .bool b => match op with | .not => some (.bool !b) | _ => none
  | .int k n => match op with | .neg => some (.int k (k.wrap (0 - n))) | _ => none
  | _ => none

def natOf : MV → Option Nat
  | .int _ n => if 0 ≤ n then some n.toNat else none
  | _ => none

def lenM : MV → Option Nat
  | .nils => some 0
  | .sl _ _ _ n _ _ => some n
  | .lit _ n _ => some n
  | _ => none

def mxOk (h len : Nat) (b : Bool) : Option Nat → Bool
  | none => true
  | some m => decide (h ≤ m) && decide (m ≤ len) && b

/-- The bounds of 'x[lo:hi:mx]' at a length; hi beyond the length is not looked at. -/
def bndM (T : List MV) (lo hi mx : Option Opd) (len : Nat) : Option (Nat × Nat × Option Nat) :=
  match (match mx with | none => some none | some o => (natOf (getO T o)).map some : Option (Option Nat)),
        (match hi with | none => some len | some o => natOf (getO T o) : Option Nat),
        (match lo with | none => some 0 | some o => natOf (getO T o) : Option Nat) with
  | some m, some h, some l =>
    if l ≤ h ∧ h ≤ len ∧ mxOk h len hi.isSome m = true then some (l, h, m) else none
  | _, _, _ => none

def capOf (kc m : Option Nat) (l : Nat) : Option Nat :=
  match m with
  | some m => some (m - l)
  | none => kc.map (· - l)

def sliceM (sz : Nat) (x : MV) (l h : Nat) (m : Option Nat) : Option MV :=
  match x with
  | .nils => some .nils
  | .lit cs len kc => if cs.length = len * sz then some (.lit ((cs.drop (l * sz)).take ((h - l) * sz)) (h - l) (capOf kc m l)) else none
  | .sl b g off _ sz' kc =>
    if sz' = sz then
      if l = 0 then some (.sl b g off h sz (capOf kc m 0))
      else if l < h then some (.sl b g (off + l * sz) (h - l) sz (capOf kc m l))
      else none
    else none
  | _ => none

def srcCells (m : Mem) (sz : Nat) : MV → Option (List MV × Bool)
  | .nils => some ([], true)
  | .lit cs n _ => if cs.length = n * sz then some (cs, true) else none
  | .sl b g off n sz' _ => match blk? m b g with
    | some k => if sz' = sz then (takeAt k.cells off (n * sz)).map fun cs => (cs, k.deep) else none
    | none => none
  | _ => none

def roomy (n bytes : Nat) : Bool := decide (n * bytes ≤ 35184372088832)

/-- It is known that an append can't stay in place. -/
def fullK (need : Nat) : Option Nat → Bool
  | some c => decide (c < need)
  | none => false

def appM (m : Mem) (sz bytes : Nat) (s x : MV) : Option (MV × Mem) :=
  match lenM s, lenM x, srcCells m sz x with
  | some len, some n, some (xs, d) =>
    if n = 0 then
      match s with
      | .nils | .lit .. | .sl .. => some (s, m)
      | _ => none
    else if roomy (len + n) bytes = true then
      match s with
      | .nils => some (.sl m.length n 0 n sz none, m ++ [⟨xs, n, d⟩])
      | .lit cs len kc => match kc with
        | some c => if c < len + n ∧ cs.length = len * sz then some (.sl m.length (len + n) 0 (len + n) sz none, m ++ [⟨cs ++ xs, len + n, d⟩]) else none
        | none => none
      | .sl b g off len sz' kc => match blk? m b g with
        | some k =>
          if sz' = sz then
            match takeAt k.cells off (len * sz) with
            | some old =>
              if fullK (len + n) kc = true then
                some (.sl m.length (len + n) 0 (len + n) sz none, m ++ [⟨old ++ xs, len + n, k.deep && d⟩])
              else if off = 0 then
                some (.sl b (g + n) 0 (len + n) sz kc, m.set b ⟨old ++ xs, g + n, k.deep && d⟩)
              else none
            | none => none
          else none
        | none => none
      | _ => none
    else none
  | _, _, _ => none

def partM (cs : List MV) (off : Nat) (n : Option Nat) : Option MV := loadFrom cs off n

def evOp0 (T : List MV) (m : Mem) : IOp → Option (MV × Mem)
  | .mv x => some (getO T x, m)
  | .pick c a b => match getO T c with
    | .bool true => some (getO T a, m)
    | .bool false => some (getO T b, m)
    | _ => none
  | .alloc z => some (.ptr m.length 0 0, m ++ [⟨z, 0, deepVs z⟩])
  | .alloci z => if deepVs z then some (.pimm z 0, m) else none
  | .box x => match cellsOf (getO T x) with
    | some cs => some (.ptr m.length 0 0, m ++ [⟨cs, 0, deepVs cs⟩])
    | none => none
  | .boxi x => match cellsOf (getO T x) with
    | some cs => if deepVs cs then some (.pimm cs 0, m) else none
    | none => none
  | .build z ps => (fillM T z ps).map fun cs => (.agg cs, m)
  | .blit len z ps => match fillM T z ps with
    | some cs => if deepVs cs then some (.lit cs len (some len), m) else none
    | none => none
  | .load n a => (loadV m n (getO T a)).map fun v => (v, m)
  | .loadi n a => match getO T a with
    | .pimm cs off => (loadFrom cs off n).map fun v => (v, m)
    | _ => none
  | .store n a x => (storeV m n (getO T a) (getO T x)).map fun m' => (.tup [], m')
  | .loado o n a => match getO T a with
    | .ptr b g off => if off = o then (loadV m n (.ptr b g o)).map fun v => (v, m) else none
    | _ => none
  | .storeo o n a x => match getO T a with
    | .ptr b g off => if off = o then (storeV m n (.ptr b g o) (getO T x)).map fun m' => (.tup [], m') else none
    | _ => none
  | .nchk x => match getO T x with
    | .ptr b g off => some (.ptr b g off, m)
    | .pimm cs off => some (.pimm cs off, m)
    | .fn f a b => some (.fn f a b, m)
    | .yld j => some (.yld j, m)
    | _ => none
  | .bin op x y => (binM op (getO T x) (getO T y)).map fun v => (v, m)
  | .eqb neg x y => match getO T x, getO T y with
    | .bool a, .bool b => some (.bool ((a == b) != neg), m)
    | _, _ => none
  | .eqn k neg x y => (eqNil k (getO T x) (getO T y)).map fun b => (.bool (b != neg), m)
  | .eqa ks neg x y => match getO T x, getO T y with
    | .agg a, .agg b => (eqCells ks a b).map fun c => (.bool (c != neg), m)
    | _, _ => none
  | .un op x => (unM op (getO T x)).map fun v => (v, m)
  | .conv k x => match getO T x with
    | .int _ n => some (.int k (k.wrap n), m)
    | _ => none
  | .convs x => match getO T x with
    | .str s => some (.str s, m)
    | _ => none
  | .mkfn f a b => some (.fn f (a.map (getO T)) (b.map (getO T)), m)
  | .mksl z sz bytes l c => match natOf (getO T l), natOf (getO T c) with
    | some l, some c =>
      if l ≤ c ∧ roomy c bytes = true ∧ c ≤ 9007199254740992 ∧ z.length = sz then
        some (.sl m.length 0 0 l sz (some c), m ++ [⟨(List.replicate c z).flatten, 0, deepVs z⟩])
      else none
    | _, _ => none
  | .slice sz x lo hi mx => match lenM (getO T x) with
    | some len => match bndM T lo hi mx len with
      | some (l, h, mm) => (sliceM sz (getO T x) l h mm).map fun v => (v, m)
      | none => none
    | none => none
  | .slstr x lo hi => match getO T x with
    | .str s => match bndM T lo hi none s.size with
      | some (l, h, _) => some (.str (s.extract l h), m)
      | none => none
    | _ => none
  | .slarr n sz x lo hi => match bndM T lo hi none n with
    | some (l, h, _) => match getO T x with
      | .ptr b g off => match blk? m b g with
        | some k => if l = 0 ∧ off + n * sz ≤ k.cells.length then some (.sl b g off h sz (some n), m) else none
        | none => none
      | .pimm cs off => match takeAt cs off (n * sz) with
        | some c => some (.lit ((c.drop (l * sz)).take ((h - l) * sz)) (h - l) (some (n - l)), m)
        | none => none
      | _ => none
    | none => none
  | .faddr o x => match getO T x with
    | .ptr b g off => some (.ptr b g (off + o), m)
    | .pimm cs off => some (.pimm cs (off + o), m)
    | _ => none
  | .fld o n x => match getO T x with
    | .agg cs => (partM cs o n).map fun v => (v, m)
    | _ => none
  | .iaddr sz x i => match natOf (getO T i) with
    | some i => match getO T x with
      | .sl b g off n sz' _ => if i < n ∧ sz' = sz then some (.ptr b g (off + i * sz), m) else none
      | .lit cs n _ => if i < n then some (.pimm cs (i * sz), m) else none
      | _ => none
    | none => none
  | .iaddra n sz x i => match natOf (getO T i) with
    | some i => match getO T x with
      | .ptr b g off => if i < n then some (.ptr b g (off + i * sz), m) else none
      | .pimm cs off => if i < n then some (.pimm cs (off + i * sz), m) else none
      | _ => none
    | none => none
  | .idx n sz ag x i => match natOf (getO T i) with
    | some i => match getO T x with
      | .agg cs => if i < n then (partM cs (i * sz) (if ag then some sz else none)).map fun v => (v, m) else none
      | _ => none
    | none => none
  | .idxs x i => match natOf (getO T i), getO T x with
    | some i, .str s => match s[i]? with
      | some b => some (.int .u8 b.toNat, m)
      | none => none
    | _, _ => none
  | .extr i x => match getO T x with
    | .tup vs => vs[i]?.map fun v => (v, m)
    | _ => none
  | .len x => (lenM (getO T x)).map fun (n : Nat) => (MV.int .i64 (n : Int), m)
  | .lens x => match getO T x with
    | .str s => some (.int .i64 s.size, m)
    | _ => none
  | .lenc n => some (.int .i64 n, m)
  | .app sz bytes s x => appM m sz bytes (getO T s) (getO T x)
  | .mx a b => match getO T a, getO T b with
    | .int k x, .int _ y => some (.int k (if y > x then y else x), m)
    | _, _ => none
  | .mn a b => match getO T a, getO T b with
    | .int k x, .int _ y => some (.int k (if y < x then y else x), m)
    | _, _ => none
  | .call _ _ => none
  | .callt _ _ => none
  | .blitm len sz z ps => match fillM T z ps with
    | some cs => if cs.length = len * sz then some (.sl m.length 0 0 len sz (some len), m ++ [⟨cs, 0, deepVs cs⟩]) else none
    | none => none

/-! ### Runs -/

structure Cb where
  call : Nat → List MV → Mem → List LRec → Option (MV × Mem × List LRec)
  yld : Nat → List MV → Mem → List LRec → Option (MV × Mem × List LRec)
  thw : Nat → List MV → Mem → List LRec → Option (MV × Mem × List LRec)

def evOp (cb : Cb) (s : St) : IOp → Option (MV × Mem × List LRec)
  | .call f args => match getO s.T f with
    | .fn f a b => cb.call f (a ++ args.map (getO s.T) ++ b) s.m s.ls
    | .yld j => cb.yld j (args.map (getO s.T)) s.m s.ls
    | _ => none
  | .callt f args => cb.thw f (args.map (getO s.T)) s.m s.ls
  | op => match evOp0 s.T s.m op with
    | some (v, m) => some (v, m, s.ls)
    | none => none

def wants (T : List MV) : Option (Nat × Bool) → Option Bool
  | none => some true
  | some (t, b) => match T.getD t (.tup []) with
    | .bool c => some (c == b)
    | .tup _ => some false
    | _ => none

def evOper (cb : Cb) (o : IOper) (s : St) : Option St :=
  match wants s.T o.guard with
  | none => none
  | some false => some ⟨put s.T o.dst (.tup []), s.m, s.ls⟩
  | some true => match evOp cb s o.op with
    | some (v, m, ls) => some ⟨put s.T o.dst v, m, ls⟩
    | none => none

def evOps (cb : Cb) : List IOper → St → Option St
  | [], s => some s
  | o :: os, s => match evOper cb o s with
    | some s' => evOps cb os s'
    | none => none

def maskT : List Bool → List MV → List MV
  | _, [] => []
  | [], _ :: vs => .undef :: maskT [] vs
  | b :: bs, v :: vs => (if b then v else .undef) :: maskT bs vs

def iter (f : St → Option (Ex × St)) (live : List Bool) : Nat → St → Option (Ex × St)
  | 0, _ => none
  | n + 1, s => match f ⟨maskT live s.T, s.m, s.ls⟩ with
    | some (.normal, s') => iter f live n s'
    | r => r

/-- The record of a loop that is over. -/
def deadL : LRec := ⟨[], [], .skip, .skip, 3, none⟩

def evC (cb : Cb) (n : Nat) : IC → St → Option (Ex × St)
  | .skip, s => some (.normal, s)
  | .reg _ l, s => match evOps cb l s with
    | some s' => some (.normal, s')
    | none => none
  | .seq a b, s => match evC cb n a s with
    | some (.normal, s') => evC cb n b s'
    | r => r
  | .cond c a b, s => match getO s.T c with
    | .bool true => evC cb n a s
    | .bool false => evC cb n b s
    | _ => none
  | .block id a, s => match evC cb n a s with
    | some (.exit i, s') => if i = id then some (.normal, s') else some (.exit i, s')
    | r => r
  | .loop live a, s => iter (evC cb n a) live n s
  | .exit id, s => some (.exit id, s)
  | .ret, s => some (.ret, s)
  | .mask live, s => some (.normal, ⟨maskT live s.T, s.m, s.ls⟩)
  | .stuck _, _ => none
  | .rangeF f ps asg body, s =>
    match getO s.T f with
    | .fn g a b =>
      match cb.call g (a ++ [.yld s.ls.length] ++ b) s.m (s.ls ++ [⟨s.T, ps, asg, body, 0, none⟩]) with
      | some (_, m', ls') =>
        match ls'[s.ls.length]? with
        | some r =>
          if r.st = 0 ∨ r.st = 2 then
            match r.pend with
            | none => some (.normal, ⟨s.T, m', ls'.set s.ls.length deadL⟩)
            | some e => some (e, ⟨s.T, m', ls'.set s.ls.length deadL⟩)
          else none
        | none => none
      | none => none
    | _ => none

mutual
/-- A value that looks into memory, as a tree. -/
def frz (m : Mem) : Nat → MV → Option MV
  | 0, _ => none
  | n + 1, v => if deepV v then some v else match v with
    | .ptr b g off => match blk? m b g with
      | some k => match (if k.deep then some k.cells else frzs m n k.cells) with
        | some cs => some (.pimm cs off)
        | none => none
      | none => none
    | .sl b g off len sz kc => match blk? m b g with
      | some k => match takeAt k.cells off (len * sz) with
        | some cs => match (if k.deep then some cs else frzs m n cs) with
          | some cs => some (.lit cs len kc)
          | none => none
        | none => none
      | none => none
    | .agg cs => match frzs m n cs with | some cs => some (.agg cs) | none => none
    | .tup cs => match frzs m n cs with | some cs => some (.tup cs) | none => none
    | .fn f a b => match frzs m n a with
      | some a => match frzs m n b with
        | some b => some (.fn f a b)
        | none => none
      | none => none
    | _ => none
def frzs (m : Mem) : Nat → List MV → Option (List MV)
  | 0, _ => none
  | n + 1, l => if deepVs l then some l else match l with
    | [] => some []
    | v :: vs => match frz m n v with
      | some v => match frzs m n vs with
        | some vs => some (v :: vs)
        | none => none
      | none => none
end

mutual
/-- A value that says all itself. -/
def cln : MV → Bool
  | .ptr .. | .sl .. | .yld _ | .pimm .. | .lit .. => false
  | .fn _ a b => clns a && clns b
  | .agg a => clns a
  | .tup a => clns a
  | _ => true
def clns : List MV → Bool
  | [] => true
  | v :: vs => cln v && clns vs
end

mutual
/-- As frz, of what leads to the own memory alone. -/
def frzc (m : Mem) : Nat → MV → Option MV
  | 0, _ => none
  | n + 1, v => if cln v then some v else match v with
    | .ptr b g off => match blk? m b g with
      | some k => match frzcs m n k.cells with
        | some cs => some (.pimm cs off)
        | none => none
      | none => none
    | .sl b g off len sz kc => match blk? m b g with
      | some k => match takeAt k.cells off (len * sz) with
        | some cs => match frzcs m n cs with
          | some cs => some (.lit cs len kc)
          | none => none
        | none => none
      | none => none
    | .agg cs => match frzcs m n cs with | some cs => some (.agg cs) | none => none
    | .tup cs => match frzcs m n cs with | some cs => some (.tup cs) | none => none
    | _ => none
def frzcs (m : Mem) : Nat → List MV → Option (List MV)
  | 0, _ => none
  | n + 1, l => if clns l then some l else match l with
    | [] => some []
    | v :: vs => match frzc m n v with
      | some v => match frzcs m n vs with
        | some vs => some (v :: vs)
        | none => none
      | none => none
end

def resOne (s : St) : IRes → Option MV
  | .tmp t => some (s.T.getD t (.tup []))
  | .cell a n => loadV s.m n (s.T.getD a (.tup []))

def resAll (s : St) : List IRes → Option (List MV)
  | [] => some []
  | r :: rs => match resOne s r with
    | some v => match resAll s rs with
      | some vs => some (v :: vs)
      | none => none
    | none => none

def resM (s : St) (rs : List IRes) : Option MV :=
  match resAll s rs with
  | some [v] => some v
  | some vs => some (.tup vs)
  | none => none

def setL (ls : List LRec) (j st : Nat) (pend : Option Ex) : List LRec :=
  match ls[j]? with
  | some r => ls.set j ⟨r.T, r.ps, r.asg, r.body, st, pend⟩
  | none => ls

def setPs : List MV → List Nat → List MV → List MV
  | T, p :: ps, a :: as => setPs (T.set p a) ps as
  | T, _, _ => T

def bodyRun (cb : Cb) (n : Nat) (F : IFn) (args : List MV) (m : Mem) (ls : List LRec) : Option (MV × St) :=
  match evC cb n F.body ⟨args ++ List.replicate (F.nt - args.length) (.tup []), m, ls⟩ with
  | some (.normal, s) => match resM s F.res with | some v => some (v, s) | none => none
  | some (.ret, s) => match resM s F.res with | some v => some (v, s) | none => none
  | _ => none

def frzFuel : Nat := 1000000000

/-- A result that is one slice of the callee's own: its block goes over into the caller's memory. -/
def thaw (m : Mem) (s : St) : MV → Option (MV × Mem)
  | .sl b g off len sz _ => match blk? s.m b g with
    | some k => if off = 0 ∧ k.deep = true ∧ k.cells.length = len * sz then some (.sl m.length len 0 len sz none, m ++ [⟨k.cells, len, true⟩]) else none
    | none => none
  | v => if cln v then some (v, m) else none

def callF (cb : Cb) (n : Nat) (F : IFn) (args : List MV) (m : Mem) (ls : List LRec) : Option (MV × Mem × List LRec) :=
  if F.mode = 0 then
    match bodyRun cb n F args m ls with
    | some (v, s) => some (v, s.m, s.ls)
    | none => none
  else if F.mode = 3 then
    match frzs m frzFuel args with
    | some args => match bodyRun cb n F args [] [] with
      | some (v, s) => match frzc s.m frzFuel v with
        | some v => some (v, m, ls)
        | none => none
      | none => none
    | none => none
  else if deepVs args then
    match bodyRun cb n F args [] [] with
    | some (v, s) =>
      if F.mode = 1 then
        match frz s.m frzFuel v with
        | some v => some (v, m, ls)
        | none => none
      else
        match thaw m s v with
        | some (v, m) => some (v, m, ls)
        | none => none
    | none => none
  else none

/-- A round ends. -/
def endY (j : Nat) (e : Ex) (s : St) : Option (MV × Mem × List LRec) :=
  match s.ls[j]? with
  | some r => if r.st = 1 then
      match e with
      | .normal => some (.bool true, s.m, setL s.ls j 0 none)
      | e => some (.bool false, s.m, setL s.ls j 2 (some e))
    else none
  | none => none

def yldF (cb : Cb) (n : Nat) (j : Nat) (args : List MV) (m : Mem) (ls : List LRec) : Option (MV × Mem × List LRec) :=
  match ls[j]? with
  | some r =>
    if r.st = 0 ∧ args.length = r.ps.length then
      match evC cb n r.asg ⟨setPs r.T r.ps args, m, ls⟩ with
      | some (.normal, s) =>
        match s.ls[j]? with
        | some r' =>
          if r'.st = 0 then
            match evC cb n r.body ⟨s.T, s.m, setL s.ls j 1 r'.pend⟩ with
            | some (e, s) => endY j e s
            | none => none
          else none
        | none => none
      | _ => none
    else none
  | none => none

/-- The program: its functions; those that have no Go body, as Lean functions of trees. -/
structure IProg where
  fn : Nat → Option IFn
  prim : Nat → Option (List MV → Option MV)

def callP (P : IProg) (cb : Cb) (n : Nat) (f : Nat) (args : List MV) (m : Mem) (ls : List LRec) : Option (MV × Mem × List LRec) :=
  match P.prim f with
  | some p => if deepVs args then
      match p args with
      | some v => some (v, m, ls)
      | none => none
    else none
  | none => match P.fn f with
    | some F => callF cb n F args m ls
    | none => none

/-- A call whose result, a slice of the callee's own, goes over into the caller's memory. -/
def thwP (P : IProg) (cb : Cb) (n : Nat) (f : Nat) (args : List MV) (m : Mem) (ls : List LRec) : Option (MV × Mem × List LRec) :=
  match P.prim f with
  | some _ => none
  | none => match P.fn f with
    | some F => callF cb n ⟨2, F.nt, F.res, F.body⟩ args m ls
    | none => none

def mach (P : IProg) : Nat → Cb
  | 0 => ⟨fun _ _ _ _ => none, fun _ _ _ _ => none, fun _ _ _ _ => none⟩
  | n + 1 => ⟨callP P (mach P n) n, yldF (mach P n) n, thwP P (mach P n) n⟩

end Go.Mini
