/-
  What the functions of the layer 'ewtok' compute.
-/
import Derived.Test.YtnfehbljinflbaaDoorFiM
namespace Go.Av
abbrev PieceT := Int × (List UInt8 × Unit)
abbrev WordT := List UInt8 × (Int × (List UInt8 × Unit))
def internal_bytealg_Count (s : List UInt8) (c : UInt8) : Int := ((s.count c : Nat) : Int)
def unicode_utf8_RuneCount (_ : List UInt8) : Int := 0
def unicode_utf8_RuneCount_ok (_ : List UInt8) : Bool := false
def bytes_explode (_ : List UInt8) (_ : Int) : List (List UInt8) := []
def bytes_explode_ok (_ : List UInt8) (_ : Int) : Bool := false
def bytes_Count (s sep : List UInt8) : Int := ((s.count (sep.headD 0) : Nat) : Int)
def bytes_Count_ok (s sep : List UInt8) : Bool := lenOk s && decide (sep.length = 1)
/-- What stands between an octet's places. -/
def cutC (c : UInt8) : List UInt8 → List UInt8 → List (List UInt8)
  | cur, [] => [cur]
  | cur, x :: r => bif x == c then cur :: cutC c [] r else cutC c (cur ++ [x]) r
def bytes_genSplit (s sep : List UInt8) (_ _ : Int) : List (List UInt8) := cutC (sep.headD 0) [] s
def bytes_genSplit_ok (s sep : List UInt8) (save n : Int) : Bool := (lenOk s && decide (sep.length = 1)) && (save == 0 && n == -1)
def bytes_Split (s sep : List UInt8) : List (List UInt8) := cutC (sep.headD 0) [] s
def bytes_Split_ok (s sep : List UInt8) : Bool := lenOk s && decide (sep.length = 1)
def bytes_TrimLeft (s cs : List UInt8) : List UInt8 := s.dropWhile fun c => cs.contains c
def bytes_TrimLeft_ok (s cs : List UInt8) : Bool := lenOk s && (decide (2 ≤ cs.length) && (ascii cs && lenOk cs))
def gapB (c : UInt8) : Bool := (c == 32) || ((c == 9) || ((c == 13) || (c == 10)))
def ref32_gap (c : UInt8) : Bool := gapB c
def codeC (c : UInt8) : Int := bif octet_Lower c == 98 then 1 else bif octet_Lower c == 113 then 2 else 0
def codeL : List UInt8 → Int
  | [c] => codeC c
  | _ => 0
def ewform_code (s : List UInt8) : Int := codeL s
def ewform_code_ok (s : List UInt8) : Bool := lenOk s
def fullB (s : List UInt8) (k : Int) : Bool := !s.isEmpty && s.all fun c => octet_Is c k
def ewform_full (s : List UInt8) (k : Int) : Bool := fullB s k
def ewform_full_ok (s : List UInt8) (_ : Int) : Bool := lenOk s
def noWord : WordT := ([], (0, ([], ())))
def parseL (n : Nat) : List (List UInt8) → WordT × Int
  | [a, name, c, text, b] =>
    bif decide (a = [61]) && decide (b = [61]) then
      bif (codeL c == 0) || (!(fullB name 64) || !(fullB text 4)) then (noWord, 3)
      else bif decide (75 < n) then (noWord, 12) else ((name, (codeL c, (text, ()))), 0)
    else (noWord, 3)
  | _ => (noWord, 3)
def ewform_Parse (s : List UInt8) : WordT × Int := parseL s.length (cutC 63 [] s)
def ewform_Parse_ok (s : List UInt8) : Bool := lenOk s
def ewform_Is (s : List UInt8) : Bool := (ewform_Parse s).2 == 0
def ewform_Is_ok (s : List UInt8) : Bool := lenOk s
def ref01_Lower (c : UInt8) : UInt8 := octet_Lower c
def ref29_code (c : UInt8) : Int := codeC c
def ref29_cut (s : List UInt8) : List (List UInt8) := cutC 63 [] s
def ref29_cut_ok (s : List UInt8) : Bool := lenOk s
def ref29_Parse (s : List UInt8) : WordT × Int := ewform_Parse s
def ref29_Parse_ok (s : List UInt8) : Bool := lenOk s
def kindB (s : List UInt8) : Int := bif !s.isEmpty && s.all gapB then 1 else bif ewform_Is s then 3 else 2
def ewtok_Kind (s : List UInt8) : Int := kindB s
def ewtok_Kind_ok (s : List UInt8) : Bool := lenOk s
def ref32_Kind (s : List UInt8) : Int := kindB s
def ref32_Kind_ok (s : List UInt8) : Bool := lenOk s
def ewtok_leading (s : List UInt8) : Int := ((s.takeWhile gapB).length : Nat)
def ewtok_leading_ok (s : List UInt8) : Bool := lenOk s
def ewtok_run (s : List UInt8) : Int := ((s.takeWhile fun c => !(gapB c)).length : Nat)
def ewtok_run_ok (s : List UInt8) : Bool := lenOk s
/-- How many octets at the beginning are like the first. -/
def alike : List UInt8 → Nat
  | [] => 0
  | c :: r => (r.takeWhile fun x => gapB x == gapB c).length + 1
def piecesF : Nat → List UInt8 → List PieceT
  | 0, _ => []
  | f + 1, s => if s = [] then [] else (kindB (s.take (alike s)), (s.take (alike s), ())) :: piecesF f (s.drop (alike s))
def pieces (s : List UInt8) : List PieceT := piecesF s.length s
def ewtok_Pieces (s : List UInt8) : List PieceT := pieces s
def ewtok_Pieces_ok (s : List UInt8) : Bool := lenOk s
def ref32_Pieces (s : List UInt8) : List PieceT := pieces s
def ref32_Pieces_ok (s : List UInt8) : Bool := lenOk s
def kindAt (l : List PieceT) (i : Nat) : Int := (l.getD i (0, ([], ()))).1
def hiddenB (l : List PieceT) (i : Nat) : Bool := (kindAt l i == 1) && (decide (0 < i) && (decide (i + 1 < l.length) && ((kindAt l (i - 1) == 3) && (kindAt l (i + 1) == 3))))
def hidF (l : List PieceT) : Nat → Nat → List Bool
  | 0, _ => []
  | d + 1, i => hiddenB l i :: hidF l d (i + 1)
def ewtok_Hidden (l : List PieceT) : List Bool := hidF l l.length 0
def ewtok_Hidden_ok (l : List PieceT) : Bool := lenOk l
def ref32_Hidden (l : List PieceT) (i : Int) : Bool := hiddenB l i.toNat
def ref32_Hidden_ok (l : List PieceT) (i : Int) : Bool := lenOk l && (decide (0 ≤ i) && decide (i < (l.length : Int)))
def showF (l : List PieceT) : Nat → Nat → List PieceT
  | 0, _ => []
  | d + 1, i => bif hiddenB l i then showF l d (i + 1) else l.getD i (0, ([], ())) :: showF l d (i + 1)
def shownL (l : List PieceT) : List PieceT := showF l l.length 0
def ewtok_Shown (s : List UInt8) : List PieceT := shownL (pieces s)
def ewtok_Shown_ok (s : List UInt8) : Bool := lenOk s
def ref32_Shown (s : List UInt8) : List PieceT := shownL (pieces s)
def ref32_Shown_ok (s : List UInt8) : Bool := lenOk s
def joinP (l : List PieceT) : List UInt8 := l.flatMap fun p => p.2.1
def ewtok_Join (l : List PieceT) : List UInt8 := joinP l
def ewtok_Join_ok (l : List PieceT) : Bool := lenOk l && decide ((joinP l).length ≤ 1048576)
def ewtok_Words (s : List UInt8) : Int := (((pieces s).countP fun p => p.1 == 3 : Nat) : Int)
def ewtok_Words_ok (s : List UInt8) : Bool := lenOk s
def pOk (p : PieceT) : Bool := lenOk p.2.1
def law32_same (a b : List PieceT) : Bool := decide (a = b)
def law32_same_ok (a _b : List PieceT) : Bool := lenOk a && a.all pOk
def law32_alive : Bool := true
def law32_EwtokHidden (_ : List PieceT) : Bool := true
def law32_EwtokWhole (_ : List UInt8) : Bool := true
def law32_EwtokPieces (_ : List UInt8) : Bool := true
end Go.Av
