/-
  The functional reading of each operation, of lists of operations and of code: what a state's values are behind it.
-/
import Derived.Test.YtcfhfjjohmdaoaaDoorAvBase
namespace Go.Av

/-- Which slot owns a slice, and the type of its elements. -/
abbrev Lab := Option (Nat × TypeId)

/-- The shapes of what a slot owns alone, down to its rows. -/
inductive PSh where
  | leaf (s : Sh)
  | osl (te : TypeId) (e : Sh)
  | psl (te : TypeId) (e : PSh)
  | ppair (a b : PSh)
  | parr (n : Nat) (e : Sh)
  deriving DecidableEq, Inhabited

@[reducible] def PSh.sh : PSh → Sh
  | .leaf s => s
  | .osl _ e => .sl e
  | .psl _ e => .sl e.sh
  | .ppair a b => .pair a.sh b.sh
  | .parr n e => .arr n e

/-- A step down a private tree. -/
inductive PStep where
  | fld (i : Nat)
  | idx (n : Nat)

inductive AV where
  | bad
  | dat (s : Sh) (x : Den s) (o : Lab)
  | tup (vs : List AV)
  | adr (s : Sh) (x : Den s)
  | box (s : Sh) (x : Den s)
  | badr (slot : Nat) (path : List Nat)
  | fn (f : FuncId) (caps : List AV)
  | nilIface
  | iface (t : TypeId) (v : AV)
  | cnd (g : Bool) (v : AV)
  | pv (p : PSh) (x : Den p.sh) (h : Option (List PStep))
  | pbox (p : PSh) (x : Den p.sh) (h : Option (List PStep))
  | padr (slot : Nat) (path : List PStep)
  | pval (slot : Nat) (path : List PStep)
  | itr (s : List UInt8) (pos : Nat)
  deriving Inhabited

def AV.lab : AV → Lab
  | .dat _ _ o => o
  | _ => none
def AV.relab (o : Lab) : AV → AV
  | .dat s x _ => .dat s x o
  | v => v
/-- What may leave the frame: no owner, no place of a box. -/
def AV.strip : AV → AV
  | .dat s x _ => .dat s x none
  | .box _ _ => .bad
  | .badr _ _ => .bad
  | .pv _ _ _ => .bad
  | .pbox _ _ _ => .bad
  | .padr _ _ => .bad
  | .pval _ _ => .bad
  | .itr _ _ => .bad
  | v => v

abbrev AV.bool (b : Bool) : AV := .dat .bool b none
abbrev AV.byte (b : UInt8) : AV := .dat .byte b none
abbrev AV.int (k : IntKind) (n : Int) : AV := .dat (.int k) n none
abbrev AV.str (s : List UInt8) : AV := .dat .str s none
abbrev AV.bytes (s : List UInt8) : AV := .dat (.sl .byte) s none
abbrev AV.runes (s : List Int) : AV := .dat (.sl (.int .i32)) s none

/-- What is known of a type. -/
structure TI where
  sh : Option Sh
  bytes : Nat
  el : TypeId
  deriving Inhabited

structure Env where
  ti : TypeId → TI
  fns : FuncId → List AV → Bool × AV
  cns : FuncId → Option (List AV → Bool × AV)
  mutd : List Nat
  nt : Nat
  cuts : Nat → Option (List Nat)
  cutb : Nat → Option (List Nat)
  cutr : Option (List Nat)

abbrev Fr := Nat → AV

def Sh.isArr : Sh → Bool
  | .arr _ _ => true
  | _ => false

/-! ### Parts of structs and arrays -/

def Sh.fld : Sh → Nat → Option Sh
  | .pair a _, 0 => some a
  | .pair _ b, i + 1 => b.fld i
  | _, _ => none
def fldOff : Sh → Nat → Nat
  | .pair a b, i + 1 => a.size + fldOff b i
  | _, _ => 0
def getFld : (s : Sh) → Den s → Nat → Option (Sigma Den)
  | .pair a _, x, 0 => some ⟨a, x.1⟩
  | .pair _ b, x, i + 1 => getFld b x.2 i
  | _, _, _ => none
def setFld : (s : Sh) → Den s → Nat → (t : Sh) → Den t → Option (Den s)
  | .pair a _, x, 0, t, y => if h : t = a then some (h ▸ y, x.2) else none
  | .pair _ b, x, i + 1, t, y => (setFld b x.2 i t y).map fun z => (x.1, z)
  | _, _, _, _, _ => none
/-- A step down a box: a field, or an element of an array. -/
def getStep : (s : Sh) → Den s → Nat → Option (Sigma Den)
  | .arr _ e, l, i => some ⟨e, List.getD l i (dflt e)⟩
  | .pair a b, x, i => getFld (.pair a b) x i
  | _, _, _ => none
def setStep : (s : Sh) → Den s → Nat → (t : Sh) → Den t → Option (Den s)
  | .arr _ e, l, i, t, y => if h : t = e then some (List.set l i (h ▸ y)) else none
  | .pair a b, x, i, t, y => setFld (.pair a b) x i t y
  | _, _, _, _, _ => none
def Sh.step : Sh → Nat → Option Sh
  | .arr n e, i => if i < n then some e else none
  | s, i => s.fld i
def stepOff : Sh → Nat → Nat
  | .arr _ e, i => i * e.size
  | s, i => fldOff s i
/-- Along a path of fields and elements. -/
def getPath : (s : Sh) → Den s → List Nat → Option (Sigma Den)
  | s, x, [] => some ⟨s, x⟩
  | s, x, i :: p => match getStep s x i with
    | some ⟨t, y⟩ => getPath t y p
    | none => none
def setPath : (s : Sh) → Den s → List Nat → (t : Sh) → Den t → Option (Den s)
  | s, _, [], t, y => if h : t = s then some (h ▸ y) else none
  | s, x, i :: p, t, y => match getStep s x i with
    | some ⟨u, z⟩ => match setPath u z p t y with
      | some z' => setStep s x i u z'
      | none => none
    | none => none

/-- The cells ahead of what a path leads to; the indexes are within. -/
def pathOff : Sh → List Nat → Option Nat
  | _, [] => some 0
  | s, i :: p => match s.step i with
    | some t => match pathOff t p with
      | some o => some (stepOff s i + o)
      | none => none
    | none => none

/-! ### Constants -/

/-- Cells that are constants, as data. -/
def constC : (s : Sh) → List Value → Option (Den s × List Value)
  | .bool, vs => match vs with
    | .bool b :: r => some (b, r)
    | _ => none
  | .byte, vs => match vs with
    | .int .u8 n :: r => if 0 ≤ n ∧ n < 256 then some (UInt8.ofNat n.toNat, r) else none
    | _ => none
  | .int k, vs => match vs with
    | .int k' n :: r => if k = k' then some (n, r) else none
    | _ => none
  | .str, vs => match vs with
    | .string b :: r => some (b.data.toList, r)
    | _ => none
  | .sl _, vs => match vs with
    | .slice none 0 0 :: r => some ([], r)
    | _ => none
  | .unit, r => some ((), r)
  | .pair a b, r => match constC a r with
    | some (x, r1) => match constC b r1 with
      | some (y, r2) => some ((x, y), r2)
      | none => none
    | none => none
  | .arr _ _, _ => none

def ofConst (E : Env) (t : TypeId) : Value → AV
  | .bool b => .bool b
  | .int .u8 n => if 0 ≤ n ∧ n < 256 then .byte (UInt8.ofNat n.toNat) else .bad
  | .int k n => .int k n
  | .string s => .str s.data.toList
  | .slice none 0 0 => match (E.ti t).sh with
    | some (.sl e) => .dat (.sl e) [] none
    | _ => .bad
  | .agg cs => match (E.ti t).sh with
    | some s => if s.agg then (match constC s cs.toList with
      | some (x, []) => .dat s x none
      | _ => .bad) else .bad
    | none => .bad
  | .nilIface => .nilIface
  | _ => .bad

/-! ### Operands -/

/-- An operand under a guard: whether it may be read, and what it is. -/
def rdo (E : Env) (fr : Fr) (G : Bool) (t : TypeId) : Operand → Bool × AV
  | .tmp x => match fr x with
    | .cnd g v => (!G || g, v.strip)
    | .box _ _ => (true, .badr x [])
    | v => (true, v)
  | .const v => (true, ofConst E t v)
  | .func f => (true, .fn f [])
  | .global _ => (true, .bad)

/-! ### Numbers and texts -/

def byteOp (op : BinOp) (a b : UInt8) : Option (Bool × AV) :=
  match op with
  | .add => some (true, .byte (a + b))
  | .sub => some (true, .byte (a - b))
  | .mul => some (true, .byte (a * b))
  | .quo => some (b != 0, .byte (a / b))
  | .rem => some (b != 0, .byte (a % b))
  | .and => some (true, .byte (a &&& b))
  | .or => some (true, .byte (a ||| b))
  | .xor => some (true, .byte (a ^^^ b))
  | .andNot => some (true, .byte (a &&& ~~~b))
  | .eql => some (true, .bool (a == b))
  | .neq => some (true, .bool (a != b))
  | .lss => some (true, .bool (decide (a < b)))
  | .leq => some (true, .bool (decide (a ≤ b)))
  | .gtr => some (true, .bool (decide (b < a)))
  | .geq => some (true, .bool (decide (b ≤ a)))
  | _ => none

def intOp (op : BinOp) (k : IntKind) (a b : Int) : Option (Bool × AV) :=
  match op with
  | .add => some (true, .int k (k.wrap (a + b)))
  | .sub => some (true, .int k (k.wrap (a - b)))
  | .mul => some (true, .int k (k.wrap (a * b)))
  | .quo => some (b != 0, .int k (k.wrap (a.tdiv b)))
  | .rem => some (b != 0, .int k (a.tmod b))
  | .and => some (true, .int k (bits .and k a b))
  | .or => some (true, .int k (bits .or k a b))
  | .xor => some (true, .int k (bits .xor k a b))
  | .andNot => some (true, .int k (bits .andNot k a b))
  | .eql => some (true, .bool (a == b))
  | .neq => some (true, .bool (a != b))
  | .lss => some (true, .bool (decide (a < b)))
  | .leq => some (true, .bool (decide (a ≤ b)))
  | .gtr => some (true, .bool (decide (b < a)))
  | .geq => some (true, .bool (decide (b ≤ a)))
  | _ => none

def shiftOp (op : BinOp) (k : IntKind) (a b : Int) : Option (Bool × AV) :=
  match op with
  | .shl => some (decide (0 ≤ b), .int k (k.wrap (a * 2 ^ (min b.toNat k.bits))))
  | .shr => some (decide (0 ≤ b), .int k (a.fdiv (2 ^ (min b.toNat k.bits))))
  | _ => none

def byteShift (op : BinOp) (a : UInt8) (b : Int) : Option (Bool × AV) :=
  match op with
  | .shl => some (decide (0 ≤ b), .byte (UInt8.ofNat (a.toNat * 2 ^ (min b.toNat 8))))
  | .shr => some (decide (0 ≤ b), .byte (UInt8.ofNat (a.toNat / 2 ^ (min b.toNat 8))))
  | _ => none

def isShift : BinOp → Bool
  | .shl | .shr => true
  | _ => false

def strOp (op : BinOp) (a b : List UInt8) : Option (Bool × AV) :=
  match op with
  | .add => some (decide (a.length + b.length ≤ 9223372036854775807), .str (a ++ b))
  | .eql => some (true, .bool (a == b))
  | .neq => some (true, .bool (a != b))
  | _ => none

def binV (tb : Bool) (op : BinOp) (x y : AV) : Option (Bool × AV) :=
  match x, y with
  | .dat .byte a _, .dat .byte b _ => if isShift op then byteShift op a ((UInt8.toNat b : Nat) : Int) else byteOp op a b
  | .dat (.int k) a _, .dat (.int k') b _ =>
    if k = .u8 then none else if isShift op then shiftOp op k a b else if k = k' then intOp op k a b else none
  | .dat .byte a _, .dat (.int _) b _ => if isShift op then byteShift op a b else none
  | .dat (.int k) a _, .dat .byte b _ => if k = .u8 then none else if isShift op then shiftOp op k a ((UInt8.toNat b : Nat) : Int) else none
  | .dat .bool a _, .dat .bool b _ => if !tb then none else match op with
    | .eql => some (true, .bool ((a : Bool) == b))
    | .neq => some (true, .bool ((a : Bool) != b))
    | _ => none
  | .dat .str a _, .dat .str b _ => strOp op a b
  | _, _ => none

def unV (op : UnOp) (x : AV) : Option AV :=
  match op, x with
  | .not, .dat .bool b _ => some (.bool (!b))
  | .neg, .dat (.int k) n _ => if k = .u8 then none else some (.int k (k.wrap (0 - n)))
  | _, _ => none

def convV (dst : Sh) (x : AV) : Option AV :=
  match dst, x with
  | .byte, .dat .byte b _ => some (.byte b)
  | .byte, .dat (.int _) n _ => some (.byte (UInt8.ofNat (IntKind.u8.wrap n).toNat))
  | .int k, .dat .byte b _ => if k = .u8 then none else some (.int k (k.wrap ((UInt8.toNat b : Nat) : Int)))
  | .int k, .dat (.int _) n _ => if k = .u8 then none else some (.int k (k.wrap n))
  | .str, .dat .str s _ => some (.str s)
  | .str, .dat (.sl .byte) s _ => some (.str s)
  | .str, .dat (.int .i32) n _ => some (.str (Utf8.encode n).data.toList)
  | _, _ => none

/-- The number of an index or a bound. -/
def idxV : AV → Option Int
  | .dat (.int _) n _ => some n
  | .dat .byte b _ => some ((UInt8.toNat b : Nat) : Int)
  | _ => none

def lenV : AV → Option Nat
  | .dat (.sl _) l _ => some (List.length l)
  | .dat .str s _ => some (List.length s)
  | _ => none

def shOf : AV → Option Sh
  | .dat s _ _ => some s
  | _ => none

def boundV (d : Nat) : Option (Bool × AV) → Option (Bool × Int)
  | none => some (true, d)
  | some (ok, v) => match idxV v with
    | some n => some (ok, n)
    | none => none

def sliceV (v : AV) (l h : Nat) : Option AV :=
  match v with
  | .dat (.sl e) x _ => some (.dat (.sl e) (List.drop l (List.take h x)) none)
  | .dat .str x _ => some (.dat .str (List.drop l (List.take h x)) none)
  | _ => none

/-! ### Operations that make nothing and change nothing -/

/-- Under a guard: whether all is right, and the value. -/
def still (E : Env) (fr : Fr) (G : Bool) (o : Oper) : Option (Bool × AV) :=
  match o.op with
  | .move x => some (rdo E fr G o.type x)
  | .pick c a b => match rdo E fr G 0 c with
    | (okc, .dat .bool t _) => match t with
      | true => match rdo E fr G 0 a with
        | (oka, .dat .bool x _) => some (okc && oka, .bool x)
        | _ => none
      | false => match rdo E fr G 0 b with
        | (okb, .dat .bool y _) => some (okc && okb, .bool y)
        | _ => none
    | _ => none
  | .binOp op t x y yt => match rdo E fr G t x, rdo E fr G yt y with
    | (okx, vx), (oky, vy) => match binV (decide ((E.ti t).sh = some .bool)) op vx vy with
      | some (ok, v) => some (okx && oky && ok, v)
      | none => none
  | .unOp op t x => match rdo E fr G t x with
    | (okx, vx) => match unV op vx with
      | some v => some (okx, v)
      | none => none
  | .convert src dst x => match rdo E fr G 0 x, (E.ti dst).sh, (E.ti src).sh with
    | (okx, vx), some s, some u => match convV s vx with
      | some v => if shOf vx ≠ some u then none else some (okx, v)
      | none => none
    | _, _, _ => none
  | .index t x i => match rdo E fr G t x, rdo E fr G 0 i with
    | (okx, .dat .str s _), (oki, vi) => match idxV vi with
      | some n => if (E.ti t).sh ≠ some .str then none else some (okx && oki && decide (0 ≤ n) && decide (n < List.length s), .byte (List.getD s n.toNat 0))
      | none => none
    | (okx, .dat (.arr m e) l _), (oki, vi) => match idxV vi with
      | some n => if (E.ti t).sh = some (.arr m e) then some (okx && oki && decide (0 ≤ n) && decide (n < m), .dat e (List.getD l n.toNat (dflt e)) none) else none
      | none => none
    | _, _ => none
  | .indexAddr t x i => match rdo E fr G t x, rdo E fr G 0 i with
    | (okx, .dat (.sl e) l _), (oki, vi) => match idxV vi with
      | some n => if (E.ti t).sh = some (.sl e) then some (okx && oki && decide (0 ≤ n) && decide (n < List.length l), .adr e (List.getD l n.toNat (dflt e))) else none
      | none => none
    | (okx, .adr (.arr m e) l), (oki, vi) => match idxV vi with
      | some n => if (E.ti t).sh = some (.arr m e) then some (okx && oki && decide (0 ≤ n) && decide (n < m), .adr e (List.getD l n.toNat (dflt e))) else none
      | none => none
    | (okx, .badr b p), (oki, vi) => match fr b with
      | .box s v => match getPath s v p with
        | some ⟨.arr m e, _⟩ => match idxV vi with
          | some n => if (E.ti t).sh = some (.arr m e) then some (okx && oki && decide (0 ≤ n) && decide (n < m), .badr b (p ++ [n.toNat])) else none
          | none => none
        | _ => none
      | _ => none
    | _, _ => none
  | .nilCheck x => match rdo E fr G 0 x with
    | (okx, .adr s v) => some (okx, .adr s v)
    | (okx, .badr b p) => some (okx, .badr b p)
    | _ => none
  | .load t x => match rdo E fr G 0 x with
    | (okx, .adr s v) => if (E.ti t).sh = some s then some (okx, .dat s v none) else none
    | (okx, .badr b p) => match fr b with
      | .box s v => match getPath s v p with
        | some ⟨u, y⟩ => if (E.ti t).sh = some u then some (okx, .dat u y none) else none
        | none => none
      | _ => none
    | _ => none
  | .field t x f => match rdo E fr G t x with
    | (okx, .dat s v _) => match getFld s v f with
      | some ⟨u, y⟩ => if (E.ti t).sh = some s then some (okx, .dat u y none) else none
      | none => none
    | _ => none
  | .fieldAddr t x f => match rdo E fr G t x with
    | (okx, .adr s v) => match getFld s v f with
      | some ⟨u, y⟩ => if (E.ti t).sh = some s ∧ u.size ≠ 0 then some (okx, .adr u y) else none
      | none => none
    | (okx, .badr b p) => match fr b with
      | .box s v => match getPath s v p with
        | some ⟨u, y⟩ => match getFld u y f with
          | some ⟨z, _⟩ => if (E.ti t).sh = some u ∧ z.size ≠ 0 then some (okx, .badr b (p ++ [f])) else none
          | none => none
        | none => none
      | _ => none
    | _ => none
  | .slice t x lo hi mx => if mx.isSome then none else match rdo E fr G t x with
    | (okx, vx) => match lenV vx with
      | some len => match boundV 0 (lo.map (rdo E fr G 0)), boundV len (hi.map (rdo E fr G 0)) with
        | some (okl, l), some (okh, h) => match sliceV vx l.toNat h.toNat with
          | some v => if (E.ti t).sh ≠ shOf vx then none else some (okx && okl && okh && decide (0 ≤ l) && decide (l ≤ h) && decide (h ≤ len), v)
          | none => none
        | _, _ => none
      | none => none
  | .extract t i => match rdo E fr G 0 t with
    | (okx, .tup vs) => match vs[i]? with
      | some (.cnd g v) => some (okx && g, v.strip)
      | some v => some (okx, v.strip)
      | none => none
    | _ => none
  | .call c => match c.callee, c.args.toList, c.argTypes.toList with
    | .builtin .len, [x], [t] => match rdo E fr G t x with
      | (okx, vx) => match lenV vx with
        | some n => if (E.ti t).sh ≠ shOf vx then none else some (okx, .int .i64 n)
        | none => none
    | .builtin .min, [x, y], _ => match rdo E fr G o.type x, rdo E fr G o.type y with
      | (okx, .dat (.int k) n _), (oky, .dat (.int k') m _) => if k = k' then some (okx && oky, .int k (bif decide (m < n) then m else n)) else none
      | _, _ => none
    | .builtin .max, [x, y], _ => match rdo E fr G o.type x, rdo E fr G o.type y with
      | (okx, .dat (.int k) n _), (oky, .dat (.int k') m _) => if k = k' then some (okx && oky, .int k (bif decide (m > n) then m else n)) else none
      | _, _ => none
    | _, _, _ => none
  | _ => none

/-! ### Operations that make something -/

/-- The parts of a literal, put into its cells. -/
def buildD (E : Env) (fr : Fr) (G : Bool) (s : Sh) (t : TypeId) : List (Nat × Operand) → Den s → Option (Bool × Den s)
  | [], x => some (true, x)
  | (i, p) :: r, x => match rdo E fr G t p with
    | (ok, .dat u y _) => match setFld s x i u y with
      | some x' => match buildD E fr G s t r x' with
        | some (ok', z) => some (ok && ok', z)
        | none => none
      | none => none
    | _ => none

/-- The parts of a slice's literal. -/
def buildL (E : Env) (fr : Fr) (G : Bool) (e : Sh) (te : TypeId) : List (Nat × Operand) → List (Den e) → Option (Bool × List (Den e))
  | [], x => some (true, x)
  | (i, p) :: r, x => match rdo E fr G te p with
    | (ok, .dat u y _) => if h : u = e ∧ i < x.length then
        match buildL E fr G e te r (x.set i (h.1 ▸ y)) with
        | some (ok', z) => some (ok && ok', z)
        | none => none
      else none
    | _ => none

def argsV (E : Env) (fr : Fr) (G : Bool) : List Operand → List TypeId → Bool × List AV
  | x :: xs, t :: ts => match rdo E fr G t x, argsV E fr G xs ts with
    | (ok, v), (oks, vs) => (ok && oks, v.strip :: vs)
  | _, _ => (true, [])

/-- Room: no slice of a program that this reading follows has more elements. -/
def room : Nat := 1073741824

/-- What is left of a value when slot d is written anew. -/
def AV.drop (d : Nat) : AV → AV
  | .dat s x o => .dat s x (match o with | some (l, e) => if l = d then none else some (l, e) | none => none)
  | .badr s p => if s = d then .bad else .badr s p
  | v => v
/-- What is left of a value when the slice of slot d has been used up. -/
def AV.spent (d : Nat) : AV → AV
  | .dat s x o => .dat s x (match o with | some (l, e) => if l = d then none else some (l, e) | none => none)
  | v => v
def Fr.put (fr : Fr) (d : Nat) (v : AV) : Fr := fun x => if x = d then v else (fr x).drop d
def Fr.spend (fr : Fr) (d : Nat) : Fr := fun x => (fr x).spent d

/-- A label moved to the slot where the value is put. -/
def AV.at (d : Nat) : AV → AV
  | .dat s x (some (_, te)) => .dat s x (some (d, te))
  | v => v

/-- What an operation makes that takes nothing away: a call, a slice's literal, a slice that is made, a text's octets. A label 'some (0, ..)': the slice is its own. -/
def eff (E : Env) (fr : Fr) (G : Bool) (o : Oper) : Option (Bool × AV) :=
  match o.op with
  | .call c => match c.callee with
    | .value (.func f) => match E.cns f with
      | some _ => none
      | none => match argsV E fr G c.args.toList c.argTypes.toList with
        | (ok, vs) => match E.fns f vs with
          | (pre, r) => some (ok && pre && decide (c.args.size = c.argTypes.size), r)
    | .value (.tmp x) => match rdo E fr G 0 (.tmp x), argsV E fr G c.args.toList c.argTypes.toList with
      | (okf, .fn f caps), (ok, vs) => match E.fns f (vs ++ caps.map AV.strip) with
        | (pre, r) => some (okf && ok && pre && decide (c.args.size = c.argTypes.size), r)
      | _, _ => none
    | _ => none
  | .buildSlice t n parts => match (E.ti t).sh with
    | some (.sl e) => match buildL E fr G e (E.ti t).el parts.toList (List.replicate n (dflt e)) with
      | some (ok, l) => if n * e.size ≤ 65536 then some (ok, .dat (.sl e) l (some (0, (E.ti t).el))) else none
      | none => none
    | _ => none
  | .makeSlice t n m => match (E.ti t).sh, rdo E fr G 0 n, rdo E fr G 0 m with
    | some (.sl e), (okn, .dat (.int _) l _), (okm, .dat (.int _) c _) =>
      if (E.ti (E.ti t).el).bytes ≤ 1024 then some (okn && okm && decide ((0 : Int) ≤ l) && decide ((l : Int) ≤ c) && decide ((c : Int) ≤ room), .dat (.sl e) (List.replicate (Int.toNat l) (dflt e)) (some (0, (E.ti t).el))) else none
    | _, _, _ => none
  | .build t parts => match (E.ti t).sh with
    | some s => if s.agg = true ∧ s.isArr = false then
        match buildD E fr G s t parts.toList (dflt s) with
        | some (ok, x) => some (ok, .dat s x none)
        | none => none
      else none
    | _ => none
  | _ => none

def guardB (ops : Array Oper) (fr : Fr) (j : Nat) (want : Bool) : Option Bool :=
  match (ops[j]?).bind (·.dst) with
  | some t => match fr t with
    | .dat .bool b _ => some (b == want)
    | .cnd false _ => some false
    | .cnd true (.dat .bool b _) => some (b == want)
    | _ => none
  | none => none

/-- May the value go into the slot. -/
def okPut (d : Nat) : AV → Bool
  | .dat _ _ (some (l, _)) => l != d
  | .badr s _ => s != d
  | _ => true

/-- The slice that an append takes: the slot that owns it (none: it is the constant nil). -/
def ownerV (E : Env) (fr : Fr) (t : TypeId) (x : Operand) : Option (Bool × Option Nat × Sigma fun e => List (Den e)) :=
  match x with
  | .const (.slice none 0 0) => match (E.ti t).sh with
    | some (.sl e) => some (true, none, ⟨e, []⟩)
    | _ => none
  | x => match rdo E fr true t x with
    | (ok, .dat (.sl e) l (some (lb, te))) => if te = (E.ti t).el then some (ok, some lb, ⟨e, l⟩) else none
    | _ => none

def spendO (fr : Fr) : Option Nat → Fr
  | some lb => fr.spend lb
  | none => fr

/-- What an append puts behind. -/
def newsV (E : Env) (t u : TypeId) (e : Sh) : AV → Option (List (Den e))
  | .dat (.sl e') m _ => if h : e' = e ∧ u = t then some (h.1 ▸ m) else none
  | .dat .str m _ => if h : Sh.byte = e ∧ (E.ti (E.ti t).el).bytes = 1 then some (h.1 ▸ m) else none
  | _ => none

/-- Operations that take something away, or write: an assignment, an append, a box, a store. -/
def special (E : Env) (fr : Fr) (o : Oper) (d : Nat) : Option (Bool × Fr) :=
  match o.op with
  | .assign x => match x with
    | .const (.slice none 0 0) => match (E.ti o.type).sh with
      | some (.sl e) => some (true, fr.put d (.dat (.sl e) [] (some (d, (E.ti o.type).el))))
      | _ => none
    | .tmp y => match fr y with
      | .box s z => if y = d then none else some (true, (fr.put y .bad).put d (.box s z))
      | .dat s z (some (l, te)) => some (true, (fr.spend l).put d (.dat s z (some (d, te))))
      | _ => match rdo E fr true o.type x with
        | (ok, v) => if okPut d v then some (ok, fr.put d v) else none
    | x => match rdo E fr true o.type x with
      | (ok, v) => if okPut d v then some (ok, fr.put d v) else none
  | .call c => match c.callee, c.args.toList, c.argTypes.toList with
    | .builtin .append, [x, y], [t, u] => match ownerV E fr t x, rdo E fr true u y with
      | some (okx, lb, ⟨e, l⟩), (oky, vy) =>
        if (E.ti t).sh = some (.sl e) ∧ (E.ti (E.ti t).el).bytes ≤ 1024 ∧ (E.ti u).sh = shOf vy then
          match newsV E t u e vy with
          | some m => some (okx && oky && decide (l.length + m.length ≤ room), (spendO fr lb).put d (.dat (.sl e) (l ++ m) (some (d, (E.ti t).el))))
          | none => none
        else none
      | _, _ => none
    | .value (.func f), x :: xs, t :: ts => match E.cns f with
      | some sp => match rdo E fr true t x, argsV E fr true xs ts with
        | (ok, .dat (.sl e) l (some (lb, te))), (oks, vs) => match sp (.dat (.sl e) l (some (0, te)) :: vs) with
          | (pre, .dat (.sl e') r (some (_, te'))) => if h : e' = e then
              (if te' = te ∧ xs.length = ts.length then some (ok && oks && pre, (fr.spend lb).put d (.dat (.sl e) (h ▸ r) (some (d, te)))) else none)
            else none
          | _ => none
        | _, _ => none
      | none => none
    | _, _, _ => none
  | .alloc t => match (E.ti t).sh with
    | some s => some (true, fr.put d (.box s (dflt s)))
    | none => none
  | .box t x => match rdo E fr true t x with
    | (ok, .dat s z _) => if (E.ti t).sh = some s then some (ok, fr.put d (if E.mutd.contains d then .box s z else .adr s z)) else none
    | _ => none
  | .convert src dst x => match rdo E fr true src x, (E.ti dst).sh with
    | (ok, .dat .str s _), some (.sl .byte) => if (E.ti src).sh = some .str ∧ (E.ti (E.ti dst).el).bytes ≤ 1024 then some (ok && decide (List.length s ≤ room), fr.put d (.dat (.sl .byte) s none)) else none
    | (ok, .dat (.sl .byte) l (some (lb, _))), some (.sl .byte) => if src = dst then some (ok && decide (0 < List.length l), (fr.spend lb).put d (.dat (.sl .byte) l none)) else none
    | _, _ => none
  | _ => none

/-- A box that has been written. -/
def Fr.rebox (fr : Fr) (b : Nat) (v : AV) : Fr := fun x => if x = b then v else fr x

/-- What an operation that is carried out leaves: whether all is right, and the frame. -/
def stepU (E : Env) (fr : Fr) (o : Oper) (d : Nat) : Option (Bool × Fr) :=
  match still E fr true o with
  | some (ok, v) => if okPut d v then some (ok, fr.put d v) else none
  | none => match eff E fr true o with
    | some (ok, v) => some (ok, fr.put d (v.at d))
    | none => special E fr o d

/-- What an operation leaves: whether all is right, and the frame. -/
def stepOp (E : Env) (ops : Array Oper) (fr : Fr) (o : Oper) : Option (Bool × Fr) :=
  match o.dst with
  | some d => if E.nt ≤ d then none else match o.guard with
    | none => stepU E fr o d
    | some (j, want) => match guardB ops fr j want with
      | some true => stepU E fr o d
      | some false => some (true, fr.put d (.cnd false .bad))
      | none => none
  | none => match o.guard, o.op with
    | none, .store t x y => match rdo E fr true 0 x, rdo E fr true t y with
      | (okx, .badr b p), (oky, .dat u z _) => match fr b with
        | .box s q => match setPath s q p u z with
          | some q' => if (E.ti t).sh = some u then some (okx && oky, fr.rebox b (.box s q')) else none
          | none => none
        | _ => none
      | _, _ => none
    | _, _ => none

def Fr.set (fr : Fr) (d : Nat) (v : AV) : Fr := fun x => if x = d then v else fr x

/-- Does a guard of the region go by the slot. -/
def isBase (ops : Array Oper) (d : Nat) : Bool :=
  ops.toList.any fun o => match o.guard with
    | some (j, _) => (match ops[j]? with | some o' => o'.dst == some d | none => false)
    | none => false

/-- Behind an operation that a guard goes by: one case each. -/
def splitB (ops : Array Oper) (o : Option Nat) (fr : Fr) (K : Fr → Option AV) : Option AV :=
  match o with
  | none => K fr
  | some d => match isBase ops d with
    | false => K fr
    | true => match fr d with
      | .dat .bool b o => bif b then K (fr.set d (.dat .bool true o)) else K (fr.set d (.dat .bool false o))
      | .cnd true (.dat .bool b o) => bif b then K (fr.set d (.cnd true (.dat .bool true o))) else K (fr.set d (.cnd true (.dat .bool false o)))
      | _ => K fr

/-- A list of operations, one behind the other. -/
def evOps (E : Env) (ops : Array Oper) : List Oper → Fr → (Fr → Option AV) → Option AV
  | [], fr, K => K fr
  | o :: rest, fr, K => match stepOp E ops fr o with
    | some (ok, fr') => bif ok then splitB ops o.dst fr' (fun fr2 => evOps E ops rest fr2 K) else none
    | none => none

/-- How code ends. -/
inductive Ex where
  | normal
  | exit (id : Nat)
  | ret
  deriving DecidableEq, Inhabited

/-- An operation that reads no box. -/
def takeable (E : Env) (fr : Fr) (G : Bool) (o : Oper) : Bool :=
  match o.op with
  | .load _ x => match rdo E fr G 0 x with
    | (_, .badr _ _) => false
    | _ => true
  | _ => true

/-- Kinds of operations that make nothing and change nothing. -/
def stillOp : Op → Bool
  | .move _ | .pick .. | .binOp .. | .unOp .. | .convert .. | .index .. | .indexAddr .. | .nilCheck .. | .load .. | .field .. | .fieldAddr .. | .slice .. | .extract .. => true
  | .call c => match c.callee with
    | .builtin .len => true
    | .builtin .min => true
    | .builtin .max => true
    | _ => false
  | _ => false

/-- Whether an operation of a region that draws its order may be taken first. -/
def takes (E : Env) (fr : Fr) (ops : Array Oper) (o : Oper) : Bool :=
  stillOp o.op && (match o.guard with
  | none => (still E fr true o).isSome && takeable E fr true o
  | some (j, want) => match guardB ops fr j want with
    | some true => (still E fr true o).isSome && takeable E fr true o
    | some false => true
    | none => false)

/-- A region that draws its order: what makes nothing is taken first; of the rest just one may come up. -/
def evDraw (E : Env) (ops : Array Oper) : Nat → Array Bool → Fr → (Fr → Option AV) → Option AV
  | 0, _, _, _ => none
  | n + 1, listed, fr, K => match Region.ready .any ops listed with
    | [] => K fr
    | i :: rs => match (i :: rs).find? (fun i => Region.free .any ops listed i && takes E fr ops (ops.getD i default)) with
      | some k => match stepOp E ops fr (ops.getD k default) with
        | some (ok, fr') => bif ok then splitB ops (ops.getD k default).dst fr' (fun fr2 => evDraw E ops n (listed.setIfInBounds k true) fr2 K) else none
        | none => none
      | none => match rs with
        | [] => match stepOp E ops fr (ops.getD i default) with
          | some (ok, fr') => bif ok then splitB ops (ops.getD i default).dst fr' (fun fr2 => evDraw E ops n (listed.setIfInBounds i true) fr2 K) else none
          | none => none
        | _ => none

/-! ### What is left of a frame where code comes together -/

def frOf : List (Nat × AV) → Fr
  | [], _ => .bad
  | (s, v) :: r, x => if x = s then v else frOf r x
/-- A number from 1000000 on names the slot that is left without its owner. -/
def keepsL (l : List Nat) (s : Nat) : Bool := l.contains s && decide (s < 1000000)
def cutV (l : List Nat) : AV → AV
  | .dat s x (some (lb, te)) => match keepsL l lb with
    | true => .dat s x (some (lb, te))
    | false => .dat s x none
  | .badr s p => match keepsL l s with
    | true => .badr s p
    | false => .bad
  | v => v
/-- Just the slots named. -/
def cutF (o : Option (List Nat)) (fr : Fr) : Fr :=
  match o with
  | some l => frOf (l.map fun s => (s % 1000000, cutV l (fr (s % 1000000))))
  | none => fr

/-- The number that a loop is known by: its first region's. -/
def headId : Code → Nat
  | .region id _ _ => id
  | .seq a _ => headId a
  | .block _ c => headId c
  | .scope c => headId c
  | .loop c => headId c + 1000000
  | _ => 0

def kSeq (f : (Ex → Fr → Option AV) → Fr → Option AV) (K : Ex → Fr → Option AV) : Ex → Fr → Option AV
  | .normal, fr => f K fr
  | ex, fr => K ex fr
def kBlock (id : Nat) (o : Option (List Nat)) (K : Ex → Fr → Option AV) : Ex → Fr → Option AV
  | .normal, fr => K .normal (cutF o fr)
  | .exit i, fr => if i = id then K .normal fr else K (.exit i) fr
  | .ret, fr => K .ret fr

/-- Code: 'lp' is what a loop comes to. -/
def evC (E : Env) (lp : Code → (Ex → Fr → Option AV) → Fr → Option AV) : Code → (Ex → Fr → Option AV) → Fr → Option AV
  | .skip, K, fr => K .normal fr
  | .region _ ops false, K, fr => evOps E ops ops.toList fr (K .normal)
  | .region _ ops true, K, fr => if Region.noSelect ops then evDraw E ops (ops.size + 1) (Array.replicate ops.size false) fr (K .normal) else none
  | .seq a b, K, fr => evC E lp a (kSeq (evC E lp b) K) fr
  | .cond c a b, K, fr => match rdo E fr true 0 c with
    | (ok, .dat .bool t _) => bif ok then (bif t then evC E lp a K fr else evC E lp b K fr) else none
    | _ => none
  | .block id c, K, fr => evC E lp c (kBlock id (E.cutb id) K) fr
  | .loop c, K, fr => lp c K (cutF (E.cuts (headId c)) fr)
  | .exit id, K, fr => K (.exit id) (cutF (E.cutb id) fr)
  | .ret, K, fr => K .ret (cutF E.cutr fr)
  | _, _, _ => none

/-- A loop of at most n rounds. -/
def evL (E : Env) : Nat → Code → (Ex → Fr → Option AV) → Fr → Option AV
  | 0, _, _, _ => none
  | n + 1, c, K, fr => evC E (evL E n) c (kSeq (fun K fr => evL E n c K (cutF (E.cuts (headId c)) fr)) K) fr

/-- The values that a function hands back. -/
def resV (E : Env) (fr : Fr) : ResultVar → Bool × AV
  | .tmp t => match fr t with
    | .box _ _ => (false, .bad)
    | .badr _ _ => (false, .bad)
    | .cnd _ _ => (false, .bad)
    | v => (true, v)
  | .cell t ty => match fr t with
    | .box s x => if (E.ti ty).sh = some s then (true, .dat s x none) else (false, .bad)
    | .adr s x => if (E.ti ty).sh = some s then (true, .dat s x none) else (false, .bad)
    | _ => (false, .bad)

def resL (E : Env) (fr : Fr) : List ResultVar → Bool × List AV
  | [] => (true, [])
  | r :: rs => match resV E fr r, resL E fr rs with
    | (ok, v), (oks, vs) => (ok && oks, v.strip :: vs)

def results' (E : Env) (rs : Array ResultVar) (fr : Fr) : Option AV :=
  match rs.toList with
  | [r] => match resV E fr r with
    | (ok, v) => bif ok then some v else none
  | rs => match resL E fr rs with
    | (ok, vs) => bif ok then some (.tup vs) else none

def kFn (E : Env) (rs : Array ResultVar) : Ex → Fr → Option AV
  | .normal, fr => results' E rs fr
  | .ret, fr => results' E rs fr
  | .exit _, _ => none

/-- A function's body, from its arguments. -/
def evFn (E : Env) (n : Nat) (c : Code) (rs : Array ResultVar) (avs : List AV) : Option AV :=
  if E.nt < avs.length then none else evC E (evL E n) c (kFn E rs) (fun t => (avs.getD t .bad).strip)

/-- A part of code. -/
def sub : Code → List Nat → Code
  | c, [] => c
  | .seq a _, 0 :: p => sub a p
  | .seq _ b, _ :: p => sub b p
  | .cond _ a _, 0 :: p => sub a p
  | .cond _ _ b, _ :: p => sub b p
  | .block _ c, _ :: p => sub c p
  | .loop c, _ :: p => sub c p
  | .scope c, _ :: p => sub c p
  | _, _ => .skip

end Go.Av
