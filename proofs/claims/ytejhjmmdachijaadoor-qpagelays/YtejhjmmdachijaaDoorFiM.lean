/-
  What the functions of the layer 'fold' compute.
-/
import Derived.Test.YtejhjmmdachijaaDoorAvD
import Derived.Lib.Bytealg
import Derived.Lib.Index
import Derived.Lib.MapLaws
namespace Go.Av
def internal_bytealg_IndexByteString (s : List UInt8) (c : UInt8) : Int := Lib.indexByte s c
def internal_bytealg_IndexString (a b : List UInt8) : Int := Lib.index a b
def internal_bytealg_IndexString_ok (m0 : Int) (a b : List UInt8) : Bool := decide (2 ≤ b.length) && decide ((b.length : Int) ≤ m0) && decide (a.length ≤ 1048576)
def internal_stringslite_IndexByte (s : List UInt8) (c : UInt8) : Int := Lib.indexByte s c
def strings_IndexByte (s : List UInt8) (c : UInt8) : Int := Lib.indexByte s c
def octet_in (s : List UInt8) (c : UInt8) : Bool := decide ((0 : Int) ≤ Lib.indexByte s c)
def bytes_IndexRune (_s : List UInt8) (_r : Int) : Int := 0
def bytes_IndexRune_ok (_s : List UInt8) (_r : Int) : Bool := false
def unicode_utf8_DecodeRune (p : List UInt8) : Int × Int := (((Lib.decodeL p).1 : Int), ((Lib.decodeL p).2 : Int))
def unicode_utf8_DecodeRune_ok (p : List UInt8) : Bool := decide (0 < p.length)
def bytes_shouldUseASCIISet (n : Int) : Bool := decide ((8 : Int) < n)
def setOf (cs : List UInt8) (a : List Bool) : List Bool := cs.foldl (fun a c => List.set a c.toNat true) a
def bytes_makeASCIISet (cs : List UInt8) : List Bool × Bool := (setOf cs (List.replicate 256 false), true)
def ascii (cs : List UInt8) : Bool := cs.all fun c => decide (c < (128 : UInt8))
def bytes_makeASCIISet_ok (cs : List UInt8) : Bool := ascii cs && lenOk cs
def __bytes_asciiSet__contains (as : List Bool) (c : UInt8) : Bool := List.getD as c.toNat false
/-- The first place of a text, from place i on, that holds one of the octets. -/
def anyAt (cs : List UInt8) : List UInt8 → Int → Int
  | [], _ => -1
  | x :: r, i => bif cs.contains x then i else anyAt cs r (i + 1)
def bytes_IndexAny (s cs : List UInt8) : Int := anyAt cs s 0
def bytes_IndexAny_ok (s cs : List UInt8) : Bool := (decide (2 ≤ cs.length) && (ascii cs && lenOk cs)) && lenOk s
def bytes_ContainsAny (s cs : List UInt8) : Bool := decide ((0 : Int) ≤ bytes_IndexAny s cs)
def bytes_ContainsAny_ok (s cs : List UInt8) : Bool := bytes_IndexAny_ok s cs
def ref01_Like (a b : List UInt8) : Bool := decide (a = b)
def ref01_Like_ok (a _b : List UInt8) : Bool := lenOk a
def orI (a b : Int) : Int := bits .or .i64 a b
def plainTail (n : Int) (c : UInt8) : Int :=
  bif c == (32 : UInt8) then orI n 2 else bif c == (9 : UInt8) then orI n 2
  else bif decide ((48 : UInt8) ≤ c) && decide (c ≤ (57 : UInt8)) then orI n 648
  else bif (decide ((65 : UInt8) ≤ c) && decide (c ≤ (90 : UInt8))) || (decide ((97 : UInt8) ≤ c) && decide (c ≤ (122 : UInt8))) then orI n 656 else n
def octet_plain (c : UInt8) : Int := plainTail (bif decide (c < (32 : UInt8)) || (c == (127 : UInt8)) then orI 0 1 else 0) c
def kindIf (t : Bool) (k n : Int) : Int := bif t then orI n k else n
def octet_Kinds (c : UInt8) : Int :=
  bif decide (c < (33 : UInt8)) || decide ((126 : UInt8) < c) then octet_plain c
  else
    let n := kindIf (octet_in [43, 47] c) 512 (kindIf (octet_in [33, 42, 43, 45, 47] c) 128 (orI (octet_plain c) 4))
    bif octet_in [40, 41, 60, 62, 64, 44, 59, 58, 92, 34, 47, 91, 93, 63, 61] c then orI n 32
    else kindIf (!(octet_in [42, 39, 37] c)) 256 (orI n 64)
def octet_Is (c : UInt8) (k : Int) : Bool := (bits .and .i64 (octet_Kinds c) k) != 0

def crlf : List UInt8 := [13, 10]
def bytes_Index (s sep : List UInt8) : Int := Lib.index s sep
def bytes_Index_ok (s sep : List UInt8) : Bool := lenOk s && (lenOk sep && decide (1 ≤ sep.length))
def bytes_Cut (s sep : List UInt8) : List UInt8 × List UInt8 × Bool :=
  bif decide ((0 : Int) ≤ Lib.index s sep) then (s.take (Lib.index s sep).toNat, s.drop ((Lib.index s sep).toNat + sep.length), true) else (s, [], false)
def bytes_Cut_ok (s sep : List UInt8) : Bool := lenOk s && (lenOk sep && decide (1 ≤ sep.length))
def blank (c : UInt8) : Bool := (c == 32) || (c == 9)
/-- Does a fold stand at the beginning. -/
def isFold : List UInt8 → Bool
  | a :: b :: c :: _ => (a == 13) && ((b == 10) && blank c)
  | _ => false
/-- Folds taken out; of the first k octets nothing is left. -/
def unfS : Nat → List UInt8 → List UInt8
  | _, [] => []
  | 0, x :: r => bif isFold (x :: r) then unfS 1 r else x :: unfS 0 r
  | k + 1, _ :: r => unfS k r
def unf (s : List UInt8) : List UInt8 := unfS 0 s
def nfS : Nat → List UInt8 → Nat
  | _, [] => 0
  | 0, x :: r => bif isFold (x :: r) then nfS 1 r + 1 else nfS 0 r
  | k + 1, _ :: r => nfS k r
/-- How many folds. -/
def nfolds (s : List UInt8) : Nat := nfS 0 s
def fold_Unfold (s : List UInt8) : List UInt8 := unf s
def fold_Unfold_ok (s : List UInt8) : Bool := lenOk s
def fold_Folds (s : List UInt8) : Int := (nfolds s : Int)
def fold_Folds_ok (s : List UInt8) : Bool := lenOk s
def ref27_folds (s : List UInt8) (i : Int) : Bool := isFold (s.drop i.toNat)
def ref27_folds_ok (s : List UInt8) (i : Int) : Bool := lenOk s && decide (0 ≤ i ∧ i ≤ 1048576)
def ref27_Unfold (s : List UInt8) : List UInt8 × Int := (unf s, (nfolds s : Int))
def ref27_Unfold_ok (s : List UInt8) : Bool := lenOk s
def isBreak (c : UInt8) : Bool := (c == 13) || (c == 10)
def fold_Right (s : List UInt8) : Bool := !((unf s).any isBreak)
def fold_Right_ok (s : List UInt8) : Bool := lenOk s
def ref27_Right (s : List UInt8) : Bool := !((unf s).any isBreak)
def ref27_Right_ok (s : List UInt8) : Bool := lenOk s
def plainC (c : UInt8) : Bool := !(decide (c < (32 : UInt8))) && !(decide ((126 : UInt8) < c))
def badRooms (first most : Int) : Bool := decide (most < 1) || (decide (1000 < most) || (decide (first < 0) || decide (most < first)))
def fold_check (s : List UInt8) (first most : Int) : Int := bif badRooms first most then 1 else bif s.all plainC then 0 else 3
def fold_check_ok (s : List UInt8) (_ _ : Int) : Bool := lenOk s
def joinCL (l : List (List UInt8)) : List UInt8 := l.flatMap fun x => x ++ [13, 10]
def lines_Join (l : List (List UInt8)) : List UInt8 := joinCL l
def lines_Join_ok (l : List (List UInt8)) : Bool := decide ((joinCL l).length ≤ 4194304)
/-- The last blank from place n down, but for place 0. -/
def spAt (s : List UInt8) : Nat → Nat
  | 0 => 0
  | n + 1 => bif List.getD s (n + 1) 0 == 32 then n + 1 else spAt s n
/-- The lines that are cut off, and what is left. -/
def foldLines : Nat → List UInt8 → Nat → Nat → Option (List (List UInt8) × List UInt8)
  | 0, _, _, _ => none
  | f + 1, s, room, most => bif decide (s.length ≤ room) then some ([], s) else
    match spAt s room with
    | 0 => none
    | k + 1 => match foldLines f (s.drop (k + 1)) most most with
      | some (ls, r) => some (s.take (k + 1) :: ls, r)
      | none => none
def fold_Fold (s : List UInt8) (first most : Int) : List UInt8 × Int :=
  bif fold_check s first most != 0 then ([], fold_check s first most)
  else match foldLines (s.length + 1) s first.toNat most.toNat with
    | some (ls, r) => (joinCL ls ++ r, 0)
    | none => ([], 12)
def fold_Fold_ok (s : List UInt8) (_ _ : Int) : Bool := lenOk s
def ref27_Fold (s : List UInt8) (first most : Int) : List UInt8 × Int := fold_Fold s first most
def ref27_Fold_ok (s : List UInt8) (_ _ : Int) : Bool := lenOk s
def fold_Again (s : List UInt8) (first most : Int) : List UInt8 × Int := fold_Fold (unf s) first most
def fold_Again_ok (s : List UInt8) (_ _ : Int) : Bool := lenOk s
def bytes_Clone (b : List UInt8) : List UInt8 := b
def bytes_Clone_ok (b : List UInt8) : Bool := lenOk b
def bytes_Equal (a b : List UInt8) : Bool := a == b
def bytes_Contains (s sep : List UInt8) : Bool := Lib.index s sep != -1
def bytes_Contains_ok (s sep : List UInt8) : Bool := bytes_Index_ok s sep
def bytes_trimLeftByte (s : List UInt8) (_ : UInt8) : List UInt8 := s
def bytes_trimLeftByte_ok (_ : List UInt8) (_ : UInt8) : Bool := false
def bytes_trimRightByte (s : List UInt8) (_ : UInt8) : List UInt8 := s
def bytes_trimRightByte_ok (_ : List UInt8) (_ : UInt8) : Bool := false
def bytes_trimLeftUnicode (s _ : List UInt8) : List UInt8 := s
def bytes_trimLeftUnicode_ok (_ _ : List UInt8) : Bool := false
def bytes_trimRightUnicode (s _ : List UInt8) : List UInt8 := s
def bytes_trimRightUnicode_ok (_ _ : List UInt8) : Bool := false
/-- What is left when the end is taken off. -/
def dropR (p : UInt8 → Bool) (s : List UInt8) : List UInt8 := (s.reverse.dropWhile p).reverse
def trimBy (p : UInt8 → Bool) (s : List UInt8) : List UInt8 := (dropR p s).dropWhile p
def bytes_trimLeftASCII (s : List UInt8) (a : List Bool) : List UInt8 := s.dropWhile fun c => __bytes_asciiSet__contains a c
def bytes_trimLeftASCII_ok (s : List UInt8) (_ : List Bool) : Bool := lenOk s
def bytes_trimRightASCII (s : List UInt8) (a : List Bool) : List UInt8 := dropR (fun c => __bytes_asciiSet__contains a c) s
def bytes_trimRightASCII_ok (s : List UInt8) (_ : List Bool) : Bool := lenOk s
def bytes_Trim (s cs : List UInt8) : List UInt8 := trimBy (fun c => cs.contains c) s
def bytes_Trim_ok (s cs : List UInt8) : Bool := lenOk s && (decide (2 ≤ cs.length) && (ascii cs && lenOk cs))
def octet_Lower (c : UInt8) : UInt8 := bif decide ((65 : UInt8) ≤ c) && decide (c ≤ (90 : UInt8)) then c ||| 32 else c
def octet_Fold (s : List UInt8) : List UInt8 := s.map octet_Lower
def octet_Fold_ok (s : List UInt8) : Bool := lenOk s
def octet_Same (a b : List UInt8) : Bool := a.map octet_Lower == b.map octet_Lower
def octet_Same_ok (a b : List UInt8) : Bool := lenOk a && lenOk b
def octet_Count (s : List UInt8) (k : Int) : Int := ((s.countP fun c => octet_Is c k : Nat) : Int)
def octet_Count_ok (s : List UInt8) (_ : Int) : Bool := lenOk s
def octet_All (s : List UInt8) (k : Int) : Bool := s.all fun c => octet_Is c k
def octet_All_ok (s : List UInt8) (_ : Int) : Bool := lenOk s
def octet_Trim (s : List UInt8) : List UInt8 := trimBy blank s
def octet_Trim_ok (s : List UInt8) : Bool := lenOk s
def ref01_has_ok (s : List UInt8) (_ : UInt8) : Bool := lenOk s
def ref01_has (s : List UInt8) (c : UInt8) : Bool := s.contains c
def ref01_Kinds (c : UInt8) : Int := octet_Kinds c
def ref01_Is (c : UInt8) (k : Int) : Bool := octet_Is c k
def ref01_Count (s : List UInt8) (k : Int) : Int := octet_Count s k
def ref01_Count_ok (s : List UInt8) (_ : Int) : Bool := lenOk s
def ref01_Trim (s : List UInt8) : List UInt8 := trimBy blank s
def ref01_Trim_ok (s : List UInt8) : Bool := lenOk s
/-- Lines, one behind the other; the last one is what has no end, or nothing. -/
def lineB : Bool → List UInt8 → List UInt8 → List (List UInt8)
  | _, cur, [] => [cur]
  | true, cur, _ :: r => lineB false cur r
  | false, cur, c :: r => if c = 13 ∧ r.head? = some 10 then cur :: lineB true [] r else lineB false (cur ++ [c]) r
def splitS (cur s : List UInt8) : List (List UInt8) := lineB false cur s
def linesEnd : List (List UInt8) → List (List UInt8) × Bool
  | [] => ([], true)
  | [x] => if x = [] then ([], true) else ([x], false)
  | x :: r => (x :: (linesEnd r).1, (linesEnd r).2)
def ref18_Lines (s : List UInt8) : List (List UInt8) × Bool := linesEnd (splitS [] s)
def ref18_Lines_ok (s : List UInt8) : Bool := lenOk s
def ref26_Split (s : List UInt8) : List (List UInt8) := (linesEnd (splitS [] s)).1
def ref26_Split_ok (s : List UInt8) : Bool := lenOk s

abbrev FieldT := List UInt8 × (List UInt8 × Unit)
def field_blank (s : List UInt8) : Bool := match s with
  | [] => false
  | c :: _ => blank c
def isNameB (s : List UInt8) : Bool := !s.isEmpty && (s.all (fun c => octet_Is c 4) && !s.contains 58)
def field_isName (s : List UInt8) : Bool := isNameB s
def field_isName_ok (s : List UInt8) : Bool := lenOk s
/-- A line put behind the last raw text. -/
def glue (l : List (List UInt8)) (x : List UInt8) : List (List UInt8) := l.set (l.length - 1) (l.getD (l.length - 1) [] ++ [13, 10] ++ x)
def partsL : List (List UInt8) → List (List UInt8) → List (List UInt8) × Option (List (List UInt8))
  | l, [] => (l, none)
  | l, x :: r => if x = [] then (l, some r) else if field_blank x && !l.isEmpty then partsL (glue l x) r else partsL (l ++ [x]) r
def partsF : Nat → List (List UInt8) → List UInt8 → List (List UInt8) × List UInt8
  | 0, l, _ => (l, [])
  | f + 1, l, s => if s = [] then (l, []) else
    if (bytes_Cut s [13, 10]).1 = [] then (l, (bytes_Cut s [13, 10]).2.1) else
    if field_blank (bytes_Cut s [13, 10]).1 && !l.isEmpty then partsF f (glue l (bytes_Cut s [13, 10]).1) (bytes_Cut s [13, 10]).2.1
    else partsF f (l ++ [(bytes_Cut s [13, 10]).1]) (bytes_Cut s [13, 10]).2.1
def field_parts (s : List UInt8) : List (List UInt8) × List UInt8 := partsF (s.length + 1) [] s
def field_parts_ok (s : List UInt8) : Bool := lenOk s
def field_Raw (s : List UInt8) : List (List UInt8) := (field_parts s).1
def field_Raw_ok (s : List UInt8) : Bool := lenOk s
def field_Body (s : List UInt8) : List UInt8 := (field_parts s).2
def field_Body_ok (s : List UInt8) : Bool := lenOk s
def field_One (raw : List UInt8) : FieldT × Int :=
  bif (bytes_Cut raw [58]).2.2 && (!field_blank raw && isNameB (trimBy blank (bytes_Cut raw [58]).1)) then ((trimBy blank (bytes_Cut raw [58]).1, (trimBy blank (unf (bytes_Cut raw [58]).2.1), ())), 0) else (([], ([], ())), 3)
def field_One_ok (raw : List UInt8) : Bool := lenOk raw
def okFields (l : List (List UInt8)) : List FieldT := (l.filter fun r => (field_One r).2 == 0).map fun r => (field_One r).1
def badFields (l : List (List UInt8)) : Nat := l.countP fun r => (field_One r).2 != 0
def field_Read (s : List UInt8) : List FieldT × Int := (okFields (field_Raw s), (badFields (field_Raw s) : Int))
def field_Read_ok (s : List UInt8) : Bool := decide (s.length ≤ 1048500)
def fOk (f : FieldT) : Bool := lenOk f.1 && lenOk f.2.1
def field_check (f : FieldT) : Int :=
  bif !isNameB f.1 then 13 else bif f.2.1.any isBreak then 8 else bif decide ((trimBy blank f.2.1).length = f.2.1.length) then 0 else 3
def field_check_ok (f : FieldT) : Bool := fOk f
def layLine (f : FieldT) : List UInt8 := f.1 ++ [58, 32] ++ f.2.1
def firstBad : List FieldT → Int
  | [] => 0
  | f :: r => bif field_check f != 0 then field_check f else firstBad r
def field_Lay (l : List FieldT) : List UInt8 × Int := bif firstBad l != 0 then ([], firstBad l) else (joinCL (l.map layLine) ++ [13, 10], 0)
def field_Lay_ok (l : List FieldT) : Bool := l.all fOk && decide ((joinCL (l.map layLine)).length ≤ 1048576)
def findF (name : List UInt8) (l : List FieldT) : List FieldT := l.filter fun f => octet_Same f.1 name
def field_Find (l : List FieldT) (name : List UInt8) : List UInt8 × Int := (match findF name l with
  | [] => []
  | f :: _ => f.2.1, ((findF name l).length : Int))
def field_Find_ok (l : List FieldT) (name : List UInt8) : Bool := l.all fOk && (lenOk name && lenOk l)
def ref48_colon (s : List UInt8) : Int := Lib.indexByte s 58
def ref48_colon_ok (s : List UInt8) : Bool := lenOk s
def ref48_name (s : List UInt8) : Bool := isNameB s
def ref48_name_ok (s : List UInt8) : Bool := lenOk s
def ref48_One (raw : List UInt8) : FieldT × Int := field_One raw
def ref48_One_ok (raw : List UInt8) : Bool := lenOk raw
def ref48_Raw (s : List UInt8) : List (List UInt8) × List UInt8 := field_parts s
def ref48_Raw_ok (s : List UInt8) : Bool := lenOk s
def ref48_Read (s : List UInt8) : List FieldT × Int := field_Read s
def ref48_Read_ok (s : List UInt8) : Bool := decide (s.length ≤ 1048500)
def law48_same (a b : List FieldT) : Bool := decide (a = b)
def law48_same_ok (a b : List FieldT) : Bool := lenOk a && a.all fOk
def law48_far (l : List FieldT) : Bool := (l.take 20).any (fun f => decide (100 < f.1.length) || decide (200 < f.2.1.length)) || decide (20 < l.length)
def law48_far_ok (l : List FieldT) : Bool := true
def law48_alive : Bool := true
def law48_FieldReads (_s : List UInt8) : Bool := true
def law48_FieldOne (_s : List UInt8) : Bool := true
def law48_FieldBack (_l : List FieldT) (_b : List UInt8) : Bool := true
def law27_alive : Bool := true
def law27_FoldFolds (_s : List UInt8) (_a _b : Int) : Bool := true
def law27_FoldBack (_s : List UInt8) (_a _b : Int) : Bool := true
def law27_FoldUnfolds (_s : List UInt8) : Bool := true
end Go.Av
