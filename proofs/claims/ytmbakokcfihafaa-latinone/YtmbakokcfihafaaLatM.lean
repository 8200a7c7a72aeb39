/-
  What the functions of the layers 'latin' compute.
-/
import Derived.Test.YtmbakokcfihafaaAvGen
namespace Go.Av
def latin_Has (c : Int) : Bool := decide (IntKind.wrap .u32 c < 256)
def latin_Put (c : Int) : UInt8 × Bool := bif latin_Has c then (UInt8.ofNat (IntKind.wrap .u8 c).toNat, true) else (0, false)
def latin_Sign (x : UInt8) : Int := IntKind.wrap .i32 (UInt8.toNat x : Nat)
def ref08_Sign (x : UInt8) : Int := IntKind.wrap .i32 (UInt8.toNat x : Nat)
def ref08_Put (c : Int) : UInt8 × Bool := bif decide (0 ≤ c) && decide (c < 256) then (UInt8.ofNat c.toNat, true) else (0, false)
/-- The first place where p fails, from place i on. -/
def lackAt (p : Int → Bool) : List Int → Int → Int
  | [], _ => -1
  | x :: r, i => bif p x then lackAt p r (i + 1) else i
def latin_Lacks (t : List Int) : Int := lackAt latin_Has t 0
def latin_Lacks_ok (t : List Int) : Bool := decide (t.length ≤ 1048576)
def latin_Lay (_t : List Int) : List UInt8 × Int := ([], 9)
def latin_Lay_ok (t : List Int) : Bool := decide (t = [256])
def law08_alive : Bool := true
def law08_LatinOne (c : Int) (x : UInt8) : Bool := bif (latin_Put c).1 == (ref08_Put c).1 then (bif (latin_Put c).2 == (ref08_Put c).2 then (bif latin_Has c == (ref08_Put c).2 then latin_Sign x == ref08_Sign x else false) else false) else false
end Go.Av
