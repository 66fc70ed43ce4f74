/- Operations with their types resolved; what they come to on abstract values. -/
import Derived.Test.YtgjhjemmddojfaaAb2
set_option linter.unusedVariables false
set_option linter.unusedSimpArgs false
namespace Go.Ab

inductive Opd where
  | tmp (t : Nat)
  | const (a : AV)
  deriving Inhabited

abbrev Env := Nat → AV
def Opd.ev (E : Env) : Opd → AV
  | .tmp t => E t
  | .const a => a

inductive Cv where
  | ii (k : IntKind)
  | toF (k : FloatKind)
  | fi (k : IntKind)
  | ff (k : FloatKind)
  | bs
  deriving DecidableEq

inductive AOp where
  -- quiet
  | move (x : Opd)
  | pick (c a b : Opd)
  | load (ag : Bool) (n : Nat) (a : Opd)
  | nilCheck (x : Opd)
  | bin (op : BinOp) (x y : Opd)
  | eqAgg (neg : Bool) (kind n : Nat) (x y : Opd)
  | eqBool (neg : Bool) (x y : Opd)
  | eqNilI (neg : Bool) (x y : Opd)
  | eqNilS (neg : Bool) (x y : Opd)
  | un (op : UnOp) (x : Opd)
  | conv (c : Cv) (x : Opd)
  | fn (f : FuncId) (first captured : List Opd)
  | build (zs : List AV) (parts : List (Nat × Nat × Opd))
  | slArr (n sz : Nat) (x : Opd) (lo hi mx : Option Opd)
  | slSl (sz : Nat) (x : Opd) (lo hi mx : Option Opd)
  | slStr (x : Opd) (lo hi : Option Opd)
  | faddr (off : Nat) (x : Opd)
  | field (ag : Bool) (off n : Nat) (x : Opd)
  | iaArr (len sz : Nat) (x i : Opd)
  | iaSl (sz : Nat) (x i : Opd)
  | ixArr (len : Nat) (ag : Bool) (sz : Nat) (x i : Opd)
  | ixStr (x i : Opd)
  | extract (i : Nat) (x : Opd)
  | len (x : Opd)
  | lenStr (x : Opd)
  | lenC (n : Nat)
  | cap (x : Opd)
  | min2 (x y : Opd)
  | max2 (x y : Opd)
  | lookup (zero : AV) (ok : Bool) (x k : Opd)
  | iface (t : TypeId) (x : Opd)
  -- effects
  | alloc (zs : List AV)
  | box (x : Opd)
  | bslice (sz len : Nat) (zs : List AV) (parts : List (Nat × Nat × Opd))
  | store (n : Nat) (a x : Opd)
  | mkSlice (sz bytes : Nat) (zs : List AV) (len cap : Opd)
  | append (sz bytes : Nat) (x y : Opd)
  | copy (sz : Nat) (x y : Opd)
  | clear (sz : Nat) (zs : List AV) (x : Opd)
  | makeMap
  | mapUpdate (x k v : Opd)
  | call (f : FuncId) (args : List Opd)
  | callV (f : Opd) (args : List Opd)
  deriving Inhabited

/-! ### Pure parts -/

def AV.cells : AV → Option (List AV)
  | .agg cs => some cs
  | .any => none
  | .undef => none
  | .tuple _ => none
  | a => some [a]

/-- Parts laid over a row. -/
def laid (cs : List AV) (off : Nat) (vs : List AV) : List AV := cs.take off ++ vs ++ cs.drop (off + vs.length)

def fillA (E : Env) (cs : List AV) : List (Nat × Nat × Opd) → Option (List AV)
  | [] => some cs
  | (off, size, x) :: rest =>
    match (x.ev E).cells with
    | some vs => if vs.length = size ∧ off + size ≤ cs.length then fillA E (laid cs off vs) rest else none
    | none => none

def binA (op : BinOp) (x y : AV) : Option AV :=
  match op, x, y with
  | .add, .int k a, .int k' b => if k = k' then some (.int k (k.wrap (a + b))) else none
  | .sub, .int k a, .int k' b => if k = k' then some (.int k (k.wrap (a - b))) else none
  | .mul, .int k a, .int k' b => if k = k' then some (.int k (k.wrap (a * b))) else none
  | .quo, .int k a, .int k' b => if k = k' ∧ b ≠ 0 then some (.int k (k.wrap (a.tdiv b))) else none
  | .rem, .int k a, .int k' b => if k = k' ∧ b ≠ 0 then some (.int k (a.tmod b)) else none
  | .and, .int k a, .int k' b => if k = k' then some (.int k (k.wrap (BitVec.ofInt k.bits a &&& BitVec.ofInt k.bits b).toNat)) else none
  | .or, .int k a, .int k' b => if k = k' then some (.int k (k.wrap (BitVec.ofInt k.bits a ||| BitVec.ofInt k.bits b).toNat)) else none
  | .xor, .int k a, .int k' b => if k = k' then some (.int k (k.wrap (BitVec.ofInt k.bits a ^^^ BitVec.ofInt k.bits b).toNat)) else none
  | .andNot, .int k a, .int k' b => if k = k' then some (.int k (k.wrap (BitVec.ofInt k.bits a &&& ~~~ BitVec.ofInt k.bits b).toNat)) else none
  | .shl, .int k a, .int _ b => if 0 ≤ b then some (.int k (k.wrap (a * 2 ^ (min b.toNat k.bits)))) else none
  | .shr, .int k a, .int _ b => if 0 ≤ b then some (.int k (a.fdiv (2 ^ (min b.toNat k.bits)))) else none
  | .eql, .int k a, .int k' b => if k = k' then some (.bool (decide (a = b))) else none
  | .neq, .int k a, .int k' b => if k = k' then some (.bool (decide (a ≠ b))) else none
  | .lss, .int k a, .int k' b => if k = k' then some (.bool (decide (a < b))) else none
  | .leq, .int k a, .int k' b => if k = k' then some (.bool (decide (a ≤ b))) else none
  | .gtr, .int k a, .int k' b => if k = k' then some (.bool (decide (b < a))) else none
  | .geq, .int k a, .int k' b => if k = k' then some (.bool (decide (b ≤ a))) else none
  | .eql, .nanbits, .int .u32 b => if nrm .f32 b.toNat ≠ none ∧ 0 ≤ b ∧ b < 2 ^ 32 then some (.bool false) else none
  | .eql, .int .u32 a, .nanbits => if nrm .f32 a.toNat ≠ none ∧ 0 ≤ a ∧ a < 2 ^ 32 then some (.bool false) else none
  | .eql, .nanbits, .nanbits => some .any
  | .add, .flt k a, .flt k' b => if k = k' then some (.flt k (fop .add k a b)) else none
  | .sub, .flt k a, .flt k' b => if k = k' then some (.flt k (fop .sub k a b)) else none
  | .mul, .flt k a, .flt k' b => if k = k' then some (.flt k (fop .mul k a b)) else none
  | .quo, .flt k a, .flt k' b => if k = k' then some (.flt k (fop .quo k a b)) else none
  | .eql, .flt k a, .flt k' b => if k = k' then some (.bool (ford k a b == some .eq)) else none
  | .neq, .flt k a, .flt k' b => if k = k' then some (.bool (ford k a b != some .eq)) else none
  | .lss, .flt k a, .flt k' b => if k = k' then some (.bool (ford k a b == some .lt)) else none
  | .leq, .flt k a, .flt k' b => if k = k' then some (.bool (ford k a b == some .lt || ford k a b == some .eq)) else none
  | .gtr, .flt k a, .flt k' b => if k = k' then some (.bool (ford k a b == some .gt)) else none
  | .geq, .flt k a, .flt k' b => if k = k' then some (.bool (ford k a b == some .gt || ford k a b == some .eq)) else none
  | .add, .str a, .str b => if a.length + b.length ≤ 9223372036854775807 then some (.str (a ++ b)) else none
  | .eql, .str a, .str b => some (.bool (decide (a = b)))
  | .neq, .str a, .str b => some (.bool (decide (a ≠ b)))
  | .lss, .str a, .str b => some (.bool (Op.bytesLess a b))
  | .leq, .str a, .str b => some (.bool (Op.bytesLess a b || decide (a = b)))
  | .gtr, .str a, .str b => some (.bool (!(Op.bytesLess a b || decide (a = b))))
  | .geq, .str a, .str b => some (.bool (!Op.bytesLess a b))
  | _, _, _ => none

def negA (k : FloatKind) (x : Option Nat) : Option Nat := x.map (Op.negFloat k)

def unA (op : UnOp) (x : AV) : Option AV :=
  match op, x with
  | .neg, .int k n => some (.int k (k.wrap (0 - n)))
  | .neg, .flt k x => some (.flt k (negA k x))
  | .not, .bool b => some (.bool (!b))
  | _, _ => none

/-- One cell held against another (0: integers, 1: floats, 2: bools, 3: strings). -/
def cellEq (kind : Nat) : AV → AV → Option Bool
  | .int k a, .int k' b => if k = k' ∧ kind = 0 then some (decide (a = b)) else none
  | .flt k a, .flt k' b => if k = k' ∧ kind = 1 then some (ford k a b == some .eq) else none
  | .bool a, .bool b => if kind = 2 then some (a == b) else none
  | .str a, .str b => if kind = 3 then some (decide (a = b)) else none
  | _, _ => none
def cellsEq (kind : Nat) : List AV → List AV → Option Bool
  | [], [] => some true
  | a :: as, b :: bs => match cellEq kind a b, cellsEq kind as bs with
    | some x, some y => some (x && y)
    | _, _ => none
  | _, _ => none

def f2i (s : FloatKind) (x : Option Nat) (k : IntKind) : Option Int := x.bind fun b => floatToIntVal s b k
/-- A float in another width: 'none': what the language leaves open (an overflow). -/
def f2f (s : FloatKind) (x : Option Nat) (k : FloatKind) : Option (Option Nat) :=
  match x with
  | none => some none
  | some b => (floatToFloatBits s b k).map some

def byteA : AV → Option UInt8
  | .int .u8 b => some (UInt8.ofNat b.toNat)
  | _ => none

def convA (c : Cv) (get : Nat → Option HB) (x : AV) : Option AV :=
  match c, x with
  | .ii k, .int _ n => some (.int k (k.wrap n))
  | .ii _, .nanbits => some .any
  | .toF k, .int _ n => some (.flt k (some (floatOfInt k n)))
  | .fi k, .flt s x => (f2i s x k).map (AV.int k)
  | .ff k, .flt s x => (f2f s x k).map (AV.flt k)
  | .bs, .nilslice => some (.str [])
  | .bs, .slice l o n _ sz =>
    if sz = 1 ∧ n ≠ 0 then
      match get l with
      | some (.row cs _) => if o + n ≤ cs.length then (((cs.drop o).take n).mapM byteA).map AV.str else none
      | _ => none
    else if n = 0 then some (.str []) else none
  | _, _ => none

def bnd (x : Option AV) (dflt y : Nat) : Option Nat :=
  match x with
  | none => some dflt
  | some (.int _ n) => if 0 ≤ n ∧ n ≤ (y : Int) then some n.toNat else none
  | _ => none

def bnds (len cap : Nat) (lo hi mx : Option AV) : Option (Nat × Nat × Nat) :=
  match mx, hi with
  | some _, none => none
  | _, _ =>
    match bnd mx cap cap with
    | none => none
    | some m =>
      match bnd hi len m with
      | none => none
      | some h =>
        match bnd lo 0 h with
        | none => none
        | some l => some (l, h, m)

def min2A (x y : AV) : Option AV :=
  match x, y with
  | .int k a, .int k' b => if k = k' then some (.int k (if b < a then b else a)) else none
  | .flt k a, .flt k' b => if k = k' then some (.flt k (match ford k a b with
    | none => none
    | some .lt => a
    | some .gt => b
    | some .eq => if (k.decode (a.getD 0)).neg then a else b)) else none
  | _, _ => none
def max2A (x y : AV) : Option AV :=
  match x, y with
  | .int k a, .int k' b => if k = k' then some (.int k (if a < b then b else a)) else none
  | .flt k a, .flt k' b => if k = k' then some (.flt k (match ford k a b with
    | none => none
    | some .lt => b
    | some .gt => a
    | some .eq => if (k.decode (a.getD 0)).neg then b else a)) else none
  | _, _ => none

def part (ag : Bool) (n off : Nat) (cs : List AV) : Option AV :=
  if ag then (if off + n ≤ cs.length then some (.agg ((cs.drop off).take n)) else none) else cs[off]?

def lookA (es : List (AV × AV)) (k : AV) : Option (Option AV) :=
  match es with
  | [] => some none
  | (a, b) :: rest => match cellEq 0 k a with
    | some true => some (some b)
    | some false => lookA rest k
    | none => none

/-- What a quiet operation yields. -/
def aval (E : Env) (get : Nat → Option HB) : AOp → Option AV
  | .move x => some (x.ev E)
  | .pick c a b => match c.ev E with
    | .bool t => some (if t = true then a.ev E else b.ev E)
    | _ => none
  | .load ag n a => match a.ev E with
    | .ptr l off => match get l with
      | some (.row cs _) => part ag n off cs
      | _ => none
    | _ => none
  | .nilCheck x => match x.ev E with
    | .ptr l off => some (.ptr l off)
    | .glob g => some (.glob g)
    | .func f a b => some (.func f a b)
    | _ => none
  | .bin op x y => binA op (x.ev E) (y.ev E)
  | .eqAgg neg kind n x y => match x.ev E, y.ev E with
    | .agg xs, .agg ys => if xs.length = n then (cellsEq kind xs ys).map fun b => .bool (b != neg) else none
    | _, _ => none
  | .eqBool neg x y => match x.ev E, y.ev E with
    | .bool a, .bool b => some (.bool ((a == b) != neg))
    | _, _ => none
  | .eqNilI neg x y => match x.ev E, y.ev E with
    | .niliface, .niliface => some (.bool (true != neg))
    | .iface _ _, .niliface => some (.bool (false != neg))
    | _, _ => none
  | .eqNilS neg x y => match x.ev E, y.ev E with
    | .nilslice, .nilslice => some (.bool (true != neg))
    | .slice _ _ _ cap _, .nilslice => if cap = 0 then none else some (.bool (false != neg))
    | _, _ => none
  | .un op x => unA op (x.ev E)
  | .conv c x => convA c get (x.ev E)
  | .fn f as bs => some (.func f (as.map (·.ev E)) (bs.map (·.ev E)))
  | .build zs parts => (fillA E zs parts).map .agg
  | .slArr n sz x lo hi mx => match x.ev E with
    | .ptr l o => match get l with
      | some (.row cs _) => if o + n * sz ≤ cs.length then
          match bnds n n (lo.map (·.ev E)) (hi.map (·.ev E)) (mx.map (·.ev E)) with
          | some (a, h, m) => some (.slice l (o + a * sz) (h - a) (m - a) sz)
          | none => none
        else none
      | _ => none
    | _ => none
  | .slSl sz x lo hi mx => match x.ev E with
    | .slice l o len cap sz' => if sz = sz' then
        match bnds len cap (lo.map (·.ev E)) (hi.map (·.ev E)) (mx.map (·.ev E)) with
        | some (a, h, m) => some (.slice l (o + a * sz) (h - a) (m - a) sz)
        | none => none
      else none
    | .nilslice => match bnds 0 0 (lo.map (·.ev E)) (hi.map (·.ev E)) (mx.map (·.ev E)) with
      | some _ => some .nilslice
      | none => none
    | _ => none
  | .slStr x lo hi => match x.ev E with
    | .str s => match bnds s.length s.length (lo.map (·.ev E)) (hi.map (·.ev E)) none with
      | some (a, h, _) => some (.str ((s.take h).drop a))
      | none => none
    | _ => none
  | .faddr off x => match x.ev E with
    | .ptr l o => some (.ptr l (o + off))
    | _ => none
  | .field ag off n x => match x.ev E with
    | .agg cs => part ag n off cs
    | _ => none
  | .iaArr len sz x i => match x.ev E, i.ev E with
    | .ptr l o, .int _ n => if 0 ≤ n ∧ n < (len : Int) then some (.ptr l (o + n.toNat * sz)) else none
    | _, _ => none
  | .iaSl sz x i => match x.ev E, i.ev E with
    | .slice l o len _ sz', .int _ n => if sz = sz' ∧ 0 ≤ n ∧ n < (len : Int) then some (.ptr l (o + n.toNat * sz)) else none
    | _, _ => none
  | .ixArr len ag sz x i => match x.ev E, i.ev E with
    | .agg cs, .int _ n => if 0 ≤ n ∧ n < (len : Int) then part ag sz (n.toNat * sz) cs else none
    | _, _ => none
  | .ixStr x i => match x.ev E, i.ev E with
    | .str s, .int _ n => if 0 ≤ n then (s[n.toNat]?).map fun b => .int .u8 b.toNat else none
    | _, _ => none
  | .extract i x => match x.ev E with
    | .tuple as => as[i]?
    | _ => none
  | .len x => match x.ev E with
    | .slice _ _ n _ _ => some (.int .i64 n)
    | .nilslice => some (.int .i64 0)
    | _ => none
  | .lenStr x => match x.ev E with
    | .str s => some (.int .i64 s.length)
    | _ => none
  | .lenC n => some (.int .i64 n)
  | .cap x => match x.ev E with
    | .slice _ _ _ c _ => some (.int .i64 c)
    | .nilslice => some (.int .i64 0)
    | _ => none
  | .min2 x y => min2A (x.ev E) (y.ev E)
  | .max2 x y => max2A (x.ev E) (y.ev E)
  | .lookup zero ok x k => match x.ev E with
    | .map l => match get l with
      | some (.mp es) => (lookA es (k.ev E)).map fun r =>
          let v := r.getD zero
          if ok then .tuple [v, .bool r.isSome] else v
      | _ => none
    | _ => none
  | .iface t x => some (.iface t (x.ev E))
  | _ => none

/-! ### Resolving types -/

def absCell : Value → Option AV
  | .bool b => some (.bool b)
  | .int k n => some (.int k n)
  | .float k b => if b < 2 ^ k.format.width then some (.flt k (nrm k b)) else none
  | .string s => some (.str s.data.toList)
  | .pointer none => some .nilptr
  | .slice none 0 0 => some .nilslice
  | .nilFunc => some .nilfunc
  | .nilIface => some .niliface
  | _ => none
def absV : Value → Option AV
  | .agg cs => (cs.toList.mapM absCell).map .agg
  | .tuple vs => if vs.isEmpty then some .undef else none
  | v => absCell v

section
variable (P : Program)
def tyAgg (t : TypeId) : Option (Bool × Nat) :=
  match P.underlying t, P.info? t with
  | some d, some i => some (match d with | .struct _ | .array _ _ => true | _ => false, i.size)
  | _, _ => none
def tySize (t : TypeId) : Option Nat := (P.info? t).map (·.size)
def tyBytes (t : TypeId) : Option Nat := (P.info? t).map (·.bytes)
def tyZero (t : TypeId) : Option (List AV) :=
  match (P.info? t).bind (·.zero) with
  | some z => z.cells.toList.mapM absCell
  | none => none
def scalarTy (t : TypeId) : Option Nat :=
  if tySize P t = some 1 then
    match P.underlying t with
    | some (.int _) => some 0
    | some (.float _) => some 1
    | some .bool => some 2
    | some .string => some 3
    | _ => none
  else none

def cOpd : Operand → Option Opd
  | .tmp t => some (.tmp t)
  | .const v => (absV v).map .const
  | .global g => some (.const (.glob g))
  | .func f => some (.const (.func f [] []))
def cOpds (xs : Array Operand) : Option (List Opd) := xs.toList.mapM cOpd
def cOpt (x : Option Operand) : Option (Option Opd) :=
  match x with
  | none => some none
  | some x => (cOpd x).map some

def cAppend (elem : TypeId) (x y : Operand) : Option AOp := do
  let sz ← tySize P elem
  let bytes ← tyBytes P elem
  let zs ← tyZero P elem
  if zs.length = sz ∧ 0 < bytes then some (.append sz bytes (← cOpd x) (← cOpd y)) else none

def comp (o : Op) : Option AOp :=
  match o with
  | .move x => do some (.move (← cOpd x))
  | .assign x => do some (.move (← cOpd x))
  | .pick c a b => do some (.pick (← cOpd c) (← cOpd a) (← cOpd b))
  | .alloc t => do some (.alloc (← tyZero P t))
  | .box _ x => do some (.box (← cOpd x))
  | .build t parts =>
    match P.underlying t with
    | some (.struct fields) => do
      let zs ← tyZero P t
      let ps ← parts.toList.mapM fun (i, x) => do
        let f ← fields[i]?
        some (f.offset, ← tySize P f.type, ← cOpd x)
      let _ ← fields.toList.mapM fun f => tySize P f.type
      some (.build zs ps)
    | some (.array _ elem) => do
      let zs ← tyZero P t
      let sz ← tySize P elem
      let ps ← parts.toList.mapM fun (i, x) => do some (i * sz, sz, ← cOpd x)
      some (.build zs ps)
    | _ => none
  | .buildSlice t len parts =>
    match P.underlying t with
    | some (.slice elem) => do
      let sz ← tySize P elem
      let zs ← tyZero P elem
      let ps ← parts.toList.mapM fun (i, x) => do some (i * sz, sz, ← cOpd x)
      if len * sz ≤ 2 ^ 24 ∧ zs.length = sz then some (.bslice sz len (List.replicate len zs).flatten ps) else none
    | _ => none
  | .load t a => do
    let (ag, n) ← tyAgg P t
    some (.load ag n (← cOpd a))
  | .store t a x => do some (.store (← tySize P t) (← cOpd a) (← cOpd x))
  | .nilCheck x => do some (.nilCheck (← cOpd x))
  | .binOp op t x y _ =>
    if op = .eql ∨ op = .neq then
      match P.underlying t with
      | some (.int _) | some (.float _) | some .string => do some (.bin op (← cOpd x) (← cOpd y))
      | some .bool => do some (.eqBool (op = .neq) (← cOpd x) (← cOpd y))
      | some (.array n e) => if P.eqGuardType P.depth t then none else do some (.eqAgg (op = .neq) (← scalarTy P e) n (← cOpd x) (← cOpd y))
      | some (.interface _) => match y with
        | .const _ => do some (.eqNilI (op = .neq) (← cOpd x) (← cOpd y))
        | _ => none
      | some (.slice _) => match y with
        | .const _ => do some (.eqNilS (op = .neq) (← cOpd x) (← cOpd y))
        | _ => none
      | _ => none
    else do some (.bin op (← cOpd x) (← cOpd y))
  | .unOp op _ x => do some (.un op (← cOpd x))
  | .convert src dst x =>
    match P.underlying src, P.underlying dst with
    | some (.int _), some (.int k) => do some (.conv (.ii k) (← cOpd x))
    | some (.int _), some (.float k) => do some (.conv (.toF k) (← cOpd x))
    | some (.float _), some (.int k) => do some (.conv (.fi k) (← cOpd x))
    | some (.float _), some (.float k) => do some (.conv (.ff k) (← cOpd x))
    | some (.slice e), some .string => match P.underlying e with
      | some (.int .u8) => do some (.conv .bs (← cOpd x))
      | _ => none
    | _, _ => none
  | .makeFunc (.func f) first captured => do some (.fn f (← cOpds first) (← cOpds captured))
  | .makeSlice t l c =>
    match P.underlying t with
    | some (.slice elem) => do
      let sz ← tySize P elem
      let zs ← tyZero P elem
      let bytes ← tyBytes P elem
      if zs.length = sz then some (.mkSlice sz bytes zs (← cOpd l) (← cOpd c)) else none
    | _ => none
  | .slice t x lo hi mx =>
    match P.underlying t with
    | some (.array n elem) => do some (.slArr n (← tySize P elem) (← cOpd x) (← cOpt lo) (← cOpt hi) (← cOpt mx))
    | some (.slice elem) => do some (.slSl (← tySize P elem) (← cOpd x) (← cOpt lo) (← cOpt hi) (← cOpt mx))
    | some .string => if mx.isSome then none else do some (.slStr (← cOpd x) (← cOpt lo) (← cOpt hi))
    | _ => none
  | .fieldAddr s x i =>
    match P.underlying s with
    | some (.struct fields) => do
      let f ← fields[i]?
      let n ← tySize P f.type
      if n = 0 then none else some (.faddr f.offset (← cOpd x))
    | _ => none
  | .field t x i =>
    match P.underlying t with
    | some (.struct fields) => do
      let f ← fields[i]?
      let (ag, n) ← tyAgg P f.type
      some (.field ag f.offset n (← cOpd x))
    | _ => none
  | .indexAddr t x i =>
    match P.underlying t with
    | some (.array len elem) => do some (.iaArr len (← tySize P elem) (← cOpd x) (← cOpd i))
    | some (.slice elem) => do some (.iaSl (← tySize P elem) (← cOpd x) (← cOpd i))
    | _ => none
  | .index t x i =>
    match P.underlying t with
    | some (.array len elem) => do
      let (ag, n) ← tyAgg P elem
      some (.ixArr len ag n (← cOpd x) (← cOpd i))
    | some .string => do some (.ixStr (← cOpd x) (← cOpd i))
    | _ => none
  | .lookup t x k ok =>
    match P.underlying t with
    | some (.map key elem) =>
      match P.underlying key, (P.info? elem).bind (·.zero) with
      | some (.int _), some z => do some (.lookup (← absCell z) ok (← cOpd x) (← cOpd k))
      | _, _ => none
    | _ => none
  | .mapUpdate t m k x =>
    match P.underlying t with
    | some (.map key _) =>
      match P.underlying key with
      | some (.int _) => do some (.mapUpdate (← cOpd m) (← cOpd k) (← cOpd x))
      | _ => none
    | _ => none
  | .insert t m k x =>
    match P.underlying t with
    | some (.map key _) =>
      match P.underlying key with
      | some (.int _) => do some (.mapUpdate (← cOpd m) (← cOpd k) (← cOpd x))
      | _ => none
    | _ => none
  | .makeMap _ none => some .makeMap
  | .extract t i => do some (.extract i (← cOpd t))
  | .makeInterface t x =>
    match P.underlying t with
    | some (.interface _) => none
    | some _ => do some (.iface t (← cOpd x))
    | none => none
  | .call c =>
    match c.callee with
    | .value (.func f) => do some (.call f (← cOpds c.args))
    | .value f => do some (.callV (← cOpd f) (← cOpds c.args))
    | .invoke _ _ => none
    | .builtin b =>
      match b, c.args.toList, c.argTypes.toList with
      | .len, [x], [t] =>
        match P.underlying t with
        | some (.array n _) => some (.lenC n)
        | some (.slice _) => do some (.len (← cOpd x))
        | some .string => do some (.lenStr (← cOpd x))
        | _ => none
      | .cap, [x], [t] =>
        match P.underlying t with
        | some (.array n _) => some (.lenC n)
        | some (.slice _) => do some (.cap (← cOpd x))
        | _ => none
      | .min, [x, y], _ => do some (.min2 (← cOpd x) (← cOpd y))
      | .max, [x, y], _ => do some (.max2 (← cOpd x) (← cOpd y))
      | .append, [x, y], [t, u] =>
        match P.underlying t, P.underlying u with
        | some (.slice elem), some (.slice _) => cAppend P elem x y
        | some (.slice elem), some .string => cAppend P elem x y
        | _, _ => none
      | .copy, [x, y], [t, u] =>
        match P.underlying t, P.underlying u with
        | some (.slice elem), some (.slice _) => do some (.copy (← tySize P elem) (← cOpd x) (← cOpd y))
        | _, _ => none
      | .clear, [x], [t] =>
        match P.underlying t with
        | some (.slice elem) => do some (.clear (← tySize P elem) (← tyZero P elem) (← cOpd x))
        | _ => none
      | _, _, _ => none
  | _ => none
end
end Go.Ab
