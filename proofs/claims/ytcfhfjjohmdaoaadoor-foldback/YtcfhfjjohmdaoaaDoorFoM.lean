/-
  What the functions of the layer 'fold' compute.
-/
import Derived.Test.YtcfhfjjohmdaoaaDoorAvMath
import Derived.Lib.Bytealg
import Derived.Lib.Index
import Derived.Lib.MapLaws
namespace Go.Av
def internal_bytealg_IndexByteString (s : List UInt8) (c : UInt8) : Int := Lib.indexByte s c
def internal_bytealg_IndexString (a b : List UInt8) : Int := Lib.index a b
def internal_bytealg_IndexString_ok (m0 : Int) (a b : List UInt8) : Bool := decide (2 ≤ b.length) && decide ((b.length : Int) ≤ m0) && decide (a.length ≤ 1048576)
def internal_stringslite_IndexByte (s : List UInt8) (c : UInt8) : Int := Lib.indexByte s c
def strings_IndexByte (s : List UInt8) (c : UInt8) : Int := Lib.indexByte s c
def octet_in (s : List UInt8) (c : UInt8) : Bool := decide ((0 : Int) ≤ Lib.indexByte s c)
def bytes_IndexRune (_s : List UInt8) (_r : Int) : Int := 0
def bytes_IndexRune_ok (_s : List UInt8) (_r : Int) : Bool := false
def unicode_utf8_DecodeRune (p : List UInt8) : Int × Int := (((Lib.decodeL p).1 : Int), ((Lib.decodeL p).2 : Int))
def unicode_utf8_DecodeRune_ok (p : List UInt8) : Bool := decide (0 < p.length)
def bytes_shouldUseASCIISet (n : Int) : Bool := decide ((8 : Int) < n)
def setOf (cs : List UInt8) (a : List Bool) : List Bool := cs.foldl (fun a c => List.set a c.toNat true) a
def bytes_makeASCIISet (cs : List UInt8) : List Bool × Bool := (setOf cs (List.replicate 256 false), true)
def ascii (cs : List UInt8) : Bool := cs.all fun c => decide (c < (128 : UInt8))
def bytes_makeASCIISet_ok (cs : List UInt8) : Bool := ascii cs && lenOk cs
def __bytes_asciiSet__contains (as : List Bool) (c : UInt8) : Bool := List.getD as c.toNat false
/-- The first place of a text, from place i on, that holds one of the octets. -/
def anyAt (cs : List UInt8) : List UInt8 → Int → Int
  | [], _ => -1
  | x :: r, i => bif cs.contains x then i else anyAt cs r (i + 1)
def bytes_IndexAny (s cs : List UInt8) : Int := anyAt cs s 0
def bytes_IndexAny_ok (s cs : List UInt8) : Bool := (decide (2 ≤ cs.length) && (ascii cs && lenOk cs)) && lenOk s
def bytes_ContainsAny (s cs : List UInt8) : Bool := decide ((0 : Int) ≤ bytes_IndexAny s cs)
def bytes_ContainsAny_ok (s cs : List UInt8) : Bool := bytes_IndexAny_ok s cs
def ref01_Like (a b : List UInt8) : Bool := decide (a = b)
def ref01_Like_ok (a _b : List UInt8) : Bool := lenOk a
def orI (a b : Int) : Int := bits .or .i64 a b
def plainTail (n : Int) (c : UInt8) : Int :=
  bif c == (32 : UInt8) then orI n 2 else bif c == (9 : UInt8) then orI n 2
  else bif decide ((48 : UInt8) ≤ c) && decide (c ≤ (57 : UInt8)) then orI n 648
  else bif (decide ((65 : UInt8) ≤ c) && decide (c ≤ (90 : UInt8))) || (decide ((97 : UInt8) ≤ c) && decide (c ≤ (122 : UInt8))) then orI n 656 else n
def octet_plain (c : UInt8) : Int := plainTail (bif decide (c < (32 : UInt8)) || (c == (127 : UInt8)) then orI 0 1 else 0) c
def kindIf (t : Bool) (k n : Int) : Int := bif t then orI n k else n
def octet_Kinds (c : UInt8) : Int :=
  bif decide (c < (33 : UInt8)) || decide ((126 : UInt8) < c) then octet_plain c
  else
    let n := kindIf (octet_in [43, 47] c) 512 (kindIf (octet_in [33, 42, 43, 45, 47] c) 128 (orI (octet_plain c) 4))
    bif octet_in [40, 41, 60, 62, 64, 44, 59, 58, 92, 34, 47, 91, 93, 63, 61] c then orI n 32
    else kindIf (!(octet_in [42, 39, 37] c)) 256 (orI n 64)
def octet_Is (c : UInt8) (k : Int) : Bool := (bits .and .i64 (octet_Kinds c) k) != 0

def crlf : List UInt8 := [13, 10]
def bytes_Index (s sep : List UInt8) : Int := Lib.index s sep
def bytes_Index_ok (s sep : List UInt8) : Bool := lenOk s && (lenOk sep && decide (2 ≤ sep.length))
def bytes_Cut (s sep : List UInt8) : List UInt8 × List UInt8 × Bool :=
  bif decide ((0 : Int) ≤ Lib.index s sep) then (s.take (Lib.index s sep).toNat, s.drop ((Lib.index s sep).toNat + sep.length), true) else (s, [], false)
def bytes_Cut_ok (s sep : List UInt8) : Bool := lenOk s && (lenOk sep && decide (2 ≤ sep.length))
def blank (c : UInt8) : Bool := (c == 32) || (c == 9)
/-- Does a fold stand at the beginning. -/
def isFold : List UInt8 → Bool
  | a :: b :: c :: _ => (a == 13) && ((b == 10) && blank c)
  | _ => false
/-- Folds taken out; of the first k octets nothing is left. -/
def unfS : Nat → List UInt8 → List UInt8
  | _, [] => []
  | 0, x :: r => bif isFold (x :: r) then unfS 1 r else x :: unfS 0 r
  | k + 1, _ :: r => unfS k r
def unf (s : List UInt8) : List UInt8 := unfS 0 s
def nfS : Nat → List UInt8 → Nat
  | _, [] => 0
  | 0, x :: r => bif isFold (x :: r) then nfS 1 r + 1 else nfS 0 r
  | k + 1, _ :: r => nfS k r
/-- How many folds. -/
def nfolds (s : List UInt8) : Nat := nfS 0 s
def fold_Unfold (s : List UInt8) : List UInt8 := unf s
def fold_Unfold_ok (s : List UInt8) : Bool := lenOk s
def fold_Folds (s : List UInt8) : Int := (nfolds s : Int)
def fold_Folds_ok (s : List UInt8) : Bool := lenOk s
def ref27_folds (s : List UInt8) (i : Int) : Bool := isFold (s.drop i.toNat)
def ref27_folds_ok (s : List UInt8) (i : Int) : Bool := lenOk s && decide (0 ≤ i ∧ i ≤ 1048576)
def ref27_Unfold (s : List UInt8) : List UInt8 × Int := (unf s, (nfolds s : Int))
def ref27_Unfold_ok (s : List UInt8) : Bool := lenOk s
def isBreak (c : UInt8) : Bool := (c == 13) || (c == 10)
def fold_Right (s : List UInt8) : Bool := !((unf s).any isBreak)
def fold_Right_ok (s : List UInt8) : Bool := lenOk s
def ref27_Right (s : List UInt8) : Bool := !((unf s).any isBreak)
def ref27_Right_ok (s : List UInt8) : Bool := lenOk s
def plainC (c : UInt8) : Bool := !(decide (c < (32 : UInt8))) && !(decide ((126 : UInt8) < c))
def badRooms (first most : Int) : Bool := decide (most < 1) || (decide (1000 < most) || (decide (first < 0) || decide (most < first)))
def fold_check (s : List UInt8) (first most : Int) : Int := bif badRooms first most then 1 else bif s.all plainC then 0 else 3
def fold_check_ok (s : List UInt8) (_ _ : Int) : Bool := lenOk s
def joinCL (l : List (List UInt8)) : List UInt8 := l.flatMap fun x => x ++ [13, 10]
def lines_Join (l : List (List UInt8)) : List UInt8 := joinCL l
def lines_Join_ok (l : List (List UInt8)) : Bool := decide ((joinCL l).length ≤ 4194304)
/-- The last blank from place n down, but for place 0. -/
def spAt (s : List UInt8) : Nat → Nat
  | 0 => 0
  | n + 1 => bif List.getD s (n + 1) 0 == 32 then n + 1 else spAt s n
/-- The lines that are cut off, and what is left. -/
def foldLines : Nat → List UInt8 → Nat → Nat → Option (List (List UInt8) × List UInt8)
  | 0, _, _, _ => none
  | f + 1, s, room, most => bif decide (s.length ≤ room) then some ([], s) else
    match spAt s room with
    | 0 => none
    | k + 1 => match foldLines f (s.drop (k + 1)) most most with
      | some (ls, r) => some (s.take (k + 1) :: ls, r)
      | none => none
def fold_Fold (s : List UInt8) (first most : Int) : List UInt8 × Int :=
  bif fold_check s first most != 0 then ([], fold_check s first most)
  else match foldLines (s.length + 1) s first.toNat most.toNat with
    | some (ls, r) => (joinCL ls ++ r, 0)
    | none => ([], 12)
def fold_Fold_ok (s : List UInt8) (_ _ : Int) : Bool := lenOk s
def ref27_Fold (s : List UInt8) (first most : Int) : List UInt8 × Int := fold_Fold s first most
def ref27_Fold_ok (s : List UInt8) (_ _ : Int) : Bool := lenOk s
def fold_Again (s : List UInt8) (first most : Int) : List UInt8 × Int := fold_Fold (unf s) first most
def fold_Again_ok (s : List UInt8) (_ _ : Int) : Bool := lenOk s
def law27_alive : Bool := true
def law27_FoldFolds (_s : List UInt8) (_a _b : Int) : Bool := true
def law27_FoldBack (_s : List UInt8) (_a _b : Int) : Bool := true
def law27_FoldUnfolds (_s : List UInt8) : Bool := true
end Go.Av
