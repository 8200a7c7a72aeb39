/-
  What the functions of the layer 'latin' compute.
-/
import Derived.Test.YtmbakokcfihafaaAvMath
namespace Go.Av
def latin_Has (c : Int) : Bool := decide (IntKind.wrap .u32 c < 256)
def latin_Put (c : Int) : UInt8 × Bool := bif latin_Has c then (UInt8.ofNat (IntKind.wrap .u8 c).toNat, true) else (0, false)
def latin_Sign (x : UInt8) : Int := IntKind.wrap .i32 (UInt8.toNat x : Nat)
def ref08_Sign (x : UInt8) : Int := IntKind.wrap .i32 (UInt8.toNat x : Nat)
def ref08_Put (c : Int) : UInt8 × Bool := bif decide (0 ≤ c) && decide (c < 256) then (UInt8.ofNat c.toNat, true) else (0, false)
/-- The first place where p fails, from place i on. -/
def lackAt (p : Int → Bool) : List Int → Int → Int
  | [], _ => -1
  | x :: r, i => bif p x then lackAt p r (i + 1) else i
def latin_Lacks (t : List Int) : Int := lackAt latin_Has t 0
def latin_Lacks_ok (t : List Int) : Bool := lenOk t
def ref08_Lacks (t : List Int) : Int := lackAt (fun c => (ref08_Put c).2) t 0
def ref08_Lacks_ok (t : List Int) : Bool := lenOk t
def latin_Lay (t : List Int) : List UInt8 × Int := bif latin_Lacks t != -1 then ([], 9) else (t.map fun c => UInt8.ofNat (IntKind.wrap .u8 c).toNat, 0)
def latin_Lay_ok (t : List Int) : Bool := lenOk t
def ref08_Lay (t : List Int) : List UInt8 × Int := bif decide (0 ≤ ref08_Lacks t) then ([], 9) else (t.map fun c => (ref08_Put c).1, 0)
def ref08_Lay_ok (t : List Int) : Bool := lenOk t
def latin_Read (s : List UInt8) : List Int := s.map latin_Sign
def latin_Read_ok (s : List UInt8) : Bool := lenOk s
def ref08_Read (s : List UInt8) : List Int := s.map ref08_Sign
def ref08_Read_ok (s : List UInt8) : Bool := lenOk s
def ref01_Like (a b : List UInt8) : Bool := decide (a = b)
def ref01_Like_ok (a _b : List UInt8) : Bool := lenOk a
def ref03_Like (a b : List Int) : Bool := decide (a = b)
def ref03_Like_ok (a _b : List Int) : Bool := lenOk a
def law08_alive : Bool := true
def law08_LatinOne (c : Int) (x : UInt8) : Bool := bif (latin_Put c).1 == (ref08_Put c).1 then (bif (latin_Put c).2 == (ref08_Put c).2 then (bif latin_Has c == (ref08_Put c).2 then latin_Sign x == ref08_Sign x else false) else false) else false
def i32s (t : List Int) : Bool := t.all fun c => decide (-2147483648 ≤ c ∧ c ≤ 2147483647)
def law08_LatinTexts (_t : List Int) (_s : List UInt8) : Bool := true
def law08_LatinTexts_ok (t : List Int) (_s : List UInt8) : Bool := i32s t
def law08_LatinBack (_t : List Int) (_s : List UInt8) : Bool := true
def law08_LatinBack_ok (t : List Int) (_s : List UInt8) : Bool := i32s t
end Go.Av
