/-
  The functional reading of operations on private trees.
-/
import Derived.Test.YtcfhfjjohmdaoaaDoorAvQ
namespace Go.Av

structure EnvP extends Env where
  /-- The slots that are to own what is put into them. -/
  priv : Nat → Option PSh
  /-- Package-level variables that are laid. -/
  gl : Nat → Option (Sigma Den)
  /-- The boxes that are laid open ahead of a loop. -/
  frz : Nat → List Nat

/-- References to a slot's tree are forgotten. -/
def Fr.sweep (fr : Fr) (d : Nat) : Fr := fun t => match fr t with
  | .padr s r => if s = d then .bad else .padr s r
  | .pval s r => if s = d then .bad else .pval s r
  | v => v
def Fr.putP (fr : Fr) (d : Nat) (v : AV) : Fr := (fr.sweep d).put d v
def Fr.kill (fr : Fr) (d : Nat) : Fr := (fr.sweep d).set d .bad
/-- A tree goes to another slot. -/
def Fr.moveR (fr : Fr) (y d : Nat) : Fr := (fr.kill y).putP d (fr y)

/-- The place in a tree that an operand is: whether it is an address, the slot, the path. -/
def placeV (n : Nat) (fr : Fr) (x : Operand) : Option (Bool × Nat × List PStep) :=
  match x with
  | .tmp y => if n ≤ y then none else match fr y with
    | .pv p _ _ => if p.isSl then some (false, y, []) else none
    | .pval s r => some (false, s, r)
    | .pbox _ _ _ => some (true, y, [])
    | .padr s r => some (true, s, r)
    | _ => none
  | _ => none

structure Tree where
  p : PSh
  x : Den p.sh
  h : Option (List PStep)
def treeV (fr : Fr) (s : Nat) : Option Tree :=
  match fr s with
  | .pv p x h => some ⟨p, x, h⟩
  | .pbox p x h => some ⟨p, x, h⟩
  | _ => none
def AV.reroot (v : AV) (p : PSh) (x : Den p.sh) (h : Option (List PStep)) : AV :=
  match v with
  | .pbox _ _ _ => .pbox p x h
  | _ => .pv p x h
/-- A slot's tree turned. -/
def Fr.turn (fr : Fr) (s : Nat) (p : PSh) (x : Den p.sh) (h : Option (List PStep)) : Fr := (fr.sweep s).set s ((fr s).reroot p x h)

def PSh.plain : PSh → Bool
  | .leaf _ => true
  | .ppair a b => a.plain && b.plain
  | .parr _ _ => true
  | _ => false

/-- Is a path, of fields alone, on the way to a row that another goes through. -/
def ahead : List PStep → List PStep → Bool
  | [], .idx _ :: _ => true
  | .fld i :: r, .fld j :: r' => i == j && ahead r r'
  | _, _ => false

def pathEq : List PStep → List PStep → Bool
  | [], [] => true
  | .fld i :: r, .fld j :: r' => i == j && pathEq r r'
  | .idx n :: r, .idx m :: r' => n == m && pathEq r r'
  | _, _ => false

/-- A part is taken out: the heads on the way and all addresses stay. -/
def Fr.hole (fr : Fr) (s : Nat) (r : List PStep) : Fr := fun t => if t = s then (match fr s with
    | .pv p x _ => .pv p x (some r)
    | .pbox p x _ => .pbox p x (some r)
    | v => v)
  else match fr t with
    | .pval s' r' => if s' = s then (if ahead r' r then .pval s' r' else .bad) else .pval s' r'
    | v => v

/-- Is a reference the whole of what a slot holds. -/
def wholeV (fr : Fr) (ad : Bool) (s : Nat) (r : List PStep) : Bool :=
  match r with
  | [] => match fr s with
    | .pv _ _ _ => !ad
    | .pbox _ _ _ => ad
    | _ => false
  | _ => false
/-- A part is taken out of a tree. -/
def Fr.out (fr : Fr) (s : Nat) (r : List PStep) : Fr := if wholeV fr false s r then fr.kill s else fr.hole s r

/-- The length of a slice in a tree. -/
def headLen : (q : PSh) → Den q.sh → Option Nat
  | .psl _ _, l => some (List.length l)
  | .osl _ _, l => some (List.length l)
  | _, _ => none

/-- The elements of a slice in a tree. -/
def PSh.el : PSh → Option PSh
  | .psl _ e => some e
  | .parr _ e => some (.leaf e)
  | _ => none

/-- The bound of an index. -/
def idxLen : (q : PSh) → Den q.sh → Option Nat
  | .psl _ _, l => some (List.length l)
  | .parr n _, _ => some n
  | _, _ => none

/-- What an append puts behind a private slice: whether all is right, the frame, the list. -/
def newsP (E : EnvP) (fr : Fr) (t u : TypeId) (y : Operand) : (q : PSh) → Option (Bool × Fr × Den q.sh)
  | .osl te e => match rdo E.toEnv fr true u y with
    | (ok, vy) => if te = (E.ti t).el ∧ (E.ti u).sh = shOf vy then
        match newsV E.toEnv t u e vy with
        | some m => some (ok, fr, m)
        | none => none
      else none
  | .psl te e => match e with
    | .leaf s => match rdo E.toEnv fr true u y with
      | (ok, vy) => if te = (E.ti t).el ∧ (E.ti u).sh = shOf vy then
          match newsV E.toEnv t u s vy with
          | some m => some (ok, fr, m)
          | none => none
        else none
    | e => match y with
      | .tmp z => match fr z with
        | .pv q m none => if h : q = .psl te e ∧ te = (E.ti t).el ∧ u = t then some (true, fr.kill z, h.1 ▸ m) else none
        | _ => none
      | _ => none
  | _ => none

def appP : (q : PSh) → Den q.sh → Den q.sh → Den q.sh
  | .osl _ _, l, m => List.append l m
  | .psl _ _, l, m => List.append l m
  | _, l, _ => l
def lenP : (q : PSh) → Den q.sh → Nat
  | .osl _ _, l => List.length l
  | .psl _ _, l => List.length l
  | _, _ => 0
def nilP : (q : PSh) → Option (Den q.sh)
  | .osl _ _ => some []
  | .psl _ _ => some []
  | _ => none

def isNilC : Operand → Bool
  | .const (.slice none 0 0) => true
  | _ => false

/-- A tree laid open. -/
def openV (s : Nat) : (p : PSh) → Den p.sh → AV
  | .osl te e, l => .dat (.sl e) l (some (s, te))
  | .psl te e, l => match e, l with
    | .leaf u, l => .dat (.sl u) l (some (s, te))
    | e, l => .dat (.sl e.sh) l none
  | p, x => .dat p.sh x none

/-- A slot's tree is laid open: it is shared from here on. -/
def Fr.freeze (n : Nat) (fr : Fr) (s : Nat) : Option Fr :=
  if n ≤ s then none else match fr s with
  | .pv p x none => some fun t => if t = s then openV s p x else match fr t with
    | .pval s' r => if s' = s then (if n ≤ t then .bad else match r with
      | [] => openV s p x
      | r => match getPP p x r with
        | some ⟨q, y⟩ => .dat q.sh y none
        | none => .bad) else .pval s' r
    | .padr s' r => if s' = s then (if n ≤ t then .bad else match getPP p x r with
      | some ⟨q, y⟩ => .adr q.sh y
      | none => .bad) else .padr s' r
    | v => v
  | .pbox p x none => some fun t => if t = s then .adr p.sh x else match fr t with
    | .pval s' r => if s' = s then (if n ≤ t then .bad else match getPP p x r with
        | some ⟨q, y⟩ => .dat q.sh y none
        | none => .bad) else .pval s' r
    | .padr s' r => if s' = s then (if n ≤ t then .bad else match getPP p x r with
      | some ⟨q, y⟩ => .adr q.sh y
      | none => .bad) else .padr s' r
    | v => v
  | _ => none

/-- Is a slot a result's. -/
def isResV (E : EnvP) (d : Nat) : Bool :=
  match E.cutr with
  | some l => l.any fun x => x % 1000000 == d
  | none => false

/-- Operations on private trees that yield the same in every world: 'none': it is none; 'some none': it is not followed. -/
def privPure (E : EnvP) (fr : Fr) (o : Oper) (d : Nat) : Option (Option (Bool × Fr)) :=
  match o.op with
  | .move x => match placeV E.nt fr x with
    | some (ad, s, r) => some (if s = d then none else some (true, fr.putP d (if ad then .padr s r else .pval s r)))
    | none => none
  | .assign x => if isResV E d then none else match placeV E.nt fr x with
    | some (ad, s, r) => some (if s = d then none else if wholeV fr ad s r then some (true, fr.moveR s d)
      else some (true, fr.putP d (if ad then .padr s r else .pval s r)))
    | none => none
  | .call c => match c.callee, c.args.toList, c.argTypes.toList with
    | .builtin .len, [x], [t] => match placeV E.nt fr x with
      | some (false, s, r) => some (match treeV fr s with
        | some ⟨p, y, _⟩ => match getPP p y r with
          | some ⟨q, z⟩ => match headLen q z with
            | some n => if (E.ti t).sh = some q.sh then some (true, fr.putP d (.int .i64 n)) else none
            | none => none
          | none => none
        | none => none)
      | some (true, _, _) => some none
      | none => none
    | _, _, _ => none
  | .indexAddr t x i => match placeV E.nt fr x with
    | some (false, s, r) => some (if s = d then none else match treeV fr s with
      | some ⟨p, y, _⟩ => match rdo E.toEnv fr true 0 i with
        | (oki, vi) => match getPP p y r, idxV vi with
          | some ⟨.psl te e, z⟩, some n => if (E.ti t).sh = some (PSh.psl te e).sh then
              some (oki && decide (0 ≤ n) && decide (n < List.length z), fr.putP d (.padr s (r ++ [.idx n.toNat])))
            else none
          | _, _ => none
      | none => none)
    | some (true, _, _) => some none
    | none => none
  | _ => none

/-- Loads from private trees. -/
def privLoad (E : EnvP) (fr : Fr) (o : Oper) (d : Nat) : Option (Option (Bool × Fr)) :=
  match o.op with
  | .load t x => match placeV E.nt fr x with
    | some (true, s, r) => some (if s = d then none else match treeV fr s with
      | some ⟨p, y, none⟩ => match getPP p y r with
        | some ⟨q, z⟩ => if (E.ti t).sh = some q.sh then (match q.plain with
            | true => some (true, fr.putP d (.dat q.sh z none))
            | false => match headLen q z with
              | some _ => some (true, fr.putP d (.pval s r))
              | none => none) else none
        | none => none
      | _ => none)
    | _ => none
  | _ => none

/-- Operations on private trees. -/
def privOp (E : EnvP) (fr : Fr) (o : Oper) (d : Nat) : Option (Option (Bool × Fr)) :=
  match privPure E fr o d with
  | some r => some r
  | none => privLoad E fr o d

/-- Stores into private trees. -/
def privStore (E : EnvP) (fr : Fr) (t : TypeId) (x y : Operand) : Option (Option (Bool × Fr)) :=
  match placeV E.nt fr x with
  | some (true, s, r) => some (match treeV fr s with
    | some ⟨p, z, none⟩ => match getPP p z r, rdo E.toEnv fr true t y with
      | some ⟨q, _⟩, (ok, .dat u v _) => if h : u = q.sh ∧ q.plain = true ∧ (E.ti t).sh = some q.sh ∧ q.size ≠ 0 then
          match setPP p z r q (h.1 ▸ v) with
          | some z' => some (ok, fr.turn s p z' none)
          | none => none
        else none
      | _, _ => none
    | _ => none)
  | some (false, _, _) => some none
  | none => none

/-- The slots whose trees operands name. -/
def treesOf (n : Nat) (fr : Fr) : List Operand → List Nat
  | [] => []
  | x :: xs => match placeV n fr x with
    | some (_, s, _) => s :: treesOf n fr xs
    | none => treesOf n fr xs
def freezeL (n : Nat) : List Nat → Fr → Option Fr
  | [], fr => some fr
  | s :: l, fr => match (fr s).isRoot with
    | false => freezeL n l fr
    | true => match fr.freeze n s with
      | some fr' => freezeL n l fr'
      | none => none

/-- A shape without slices. -/
def Sh.flat : Sh → Bool
  | .sl _ => false
  | .pair a b => a.flat && b.flat
  | .arr _ e => e.flat
  | _ => true

/-- What is made for a slot that is to own it. -/
def makeP (E : EnvP) (fr : Fr) (o : Oper) (d : Nat) : Option (Option (Bool × Fr)) :=
  match E.priv d with
  | some (.psl te (.leaf e)) => match eff E.toEnv fr true o with
    | some (ok, .dat (.sl e') l (some (_, te'))) => some (if h : e' = e ∧ te' = te ∧ e.flat = true then some (ok, fr.putP d (.pv (.psl te (.leaf e)) (h.1 ▸ l) none)) else none)
    | _ => none
  | _ => none

/-- The sign of a text at a place, and its width. -/
def decL (s : List UInt8) (pos : Nat) : Int × Nat := ((Utf8.decode ⟨s.toArray⟩ pos).1, (Utf8.decode ⟨s.toArray⟩ pos).2)

/-- A text's iterator; package-level variables. -/
def makeQ (E : EnvP) (fr : Fr) (o : Oper) (d : Nat) : Option (Option (Bool × Fr)) :=
  match o.op with
  | .range t x => some (match rdo E.toEnv fr true t x with
    | (ok, .dat .str s _) => if (E.ti t).sh = some .str then some (ok, fr.putP d (.itr s 0)) else none
    | _ => none)
  | .next (.tmp y) true => some (match fr y with
    | .itr s pos => if y = d ∨ E.nt ≤ y then none else
      some (true, (fr.set y (.itr s (bif decide (pos < s.length) then pos + (decL s pos).2 else pos))).putP d
        (.tup [.bool (decide (pos < s.length)), .cnd (decide (pos < s.length)) (.int .i64 pos), .cnd (decide (pos < s.length)) (.int .i32 (decL s pos).1)]))
    | _ => none)
  | .load t (.global g) => some (match E.gl g with
    | some ⟨s, x⟩ => if (E.ti t).sh = some s then some (true, fr.putP d (.dat s x none)) else none
    | none => none)
  | .indexAddr t (.global g) i => some (match E.gl g with
    | some ⟨.arr m e, l⟩ => match rdo E.toEnv fr true 0 i with
      | (oki, vi) => match idxV vi with
        | some n => if (E.ti t).sh = some (.arr m e) then some (oki && decide (0 ≤ n) && decide (n < m), fr.putP d (.adr e (List.getD l n.toNat (dflt e)))) else none
        | none => none
    | _ => none)
  | _ => none

/-- An operation that is carried out, of a slot. -/
def stepD (E : EnvP) (fr : Fr) (o : Oper) (d : Nat) : Option (Bool × Fr) :=
  match privOp E fr o d with
  | some r => r
  | none => match freezeL E.nt (treesOf E.nt fr o.op.operands.toList) fr with
    | none => none
    | some fr1 => match makeQ E fr1 o d with
     | some r => r
     | none => match makeP E fr1 o d with
      | some r => r
      | none => match stepU E.toEnv fr1 o d with
        | some (ok, fr2) => if (fr2 d).isPriv then none else some (ok, fr2.sweep d)
        | none => none

/-- What an operation leaves: whether all is right, and the frame. -/
def stepP (E : EnvP) (ops : Array Oper) (fr : Fr) (o : Oper) : Option (Bool × Fr) :=
  match o.dst with
  | some d => if E.nt ≤ d then none else match o.guard with
    | none => stepD E fr o d
    | some (j, want) => match guardB ops fr j want with
      | some true => stepD E fr o d
      | some false => some (true, fr.putP d (.cnd false .bad))
      | none => none
  | none => match o.guard, o.op with
    | none, .store t x y => match privStore E fr t x y with
      | some r => r
      | none => match freezeL E.nt (treesOf E.nt fr [y]) fr with
        | none => none
        | some fr1 => stepOp E.toEnv ops fr1 o
    | _, _ => none

/-- Places of a box are forgotten. -/
def AV.unref (b : Nat) : AV → AV
  | .badr b' p => if b' = b then .bad else .badr b' p
  | v => v
/-- A box is laid open: it is shared from here on. -/
def Fr.openB (fr : Fr) (b : Nat) : Fr :=
  match fr b with
  | .box s x => fun t => if t = b then .adr s x else (fr t).unref b
  | _ => fr
def openL : List Nat → Fr → Fr
  | [], fr => fr
  | b :: l, fr => openL l (fr.openB b)
end Go.Av
