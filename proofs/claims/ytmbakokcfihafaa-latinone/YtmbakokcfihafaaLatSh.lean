import Derived.Test.YtmbakokcfihafaaLatM
namespace Go.Av
set_option linter.unusedVariables false

/-! sheave/latin.Has -/

def latin_Has_ret (s2 : Bool) : Option AV := some (.dat .bool s2 none)
def latin_Has_sh (_n : Nat) (c0 : Int) : Option AV :=
  latin_Has_ret (decide ((IntKind.wrap .u32 c0) < (256 : Int)))

/-! sheave/latin.Sign -/

def latin_Sign_ret (s2 : Int) : Option AV := some (.dat (.int .i32) s2 none)
def latin_Sign_sh (_n : Nat) (x0 : UInt8) : Option AV :=
  latin_Sign_ret (IntKind.wrap .i32 ((UInt8.toNat x0 : Nat) : Int))

/-! sheave/sheaveref08.Sign -/

def ref08_Sign_ret (s2 : Int) : Option AV := some (.dat (.int .i32) s2 none)
def ref08_Sign_sh (_n : Nat) (x0 : UInt8) : Option AV :=
  ref08_Sign_ret (IntKind.wrap .i32 ((UInt8.toNat x0 : Nat) : Int))

/-! sheave/latin.Put -/

def latin_Put_ret (s2 : UInt8) (s3 : Bool) : Option AV := some (.tup [(.dat .byte s2 none), (.dat .bool s3 none)])
def latin_Put_sh (_n : Nat) (c0 : Int) : Option AV :=
  bif (!(latin_Has c0)) then
    latin_Put_ret (0 : UInt8) false
  else
    latin_Put_ret (UInt8.ofNat (Int.toNat (IntKind.wrap .u8 c0))) true

/-! sheave/sheaveref08.Put -/

def ref08_Put_ret (s2 : UInt8) (s3 : Bool) : Option AV := some (.tup [(.dat .byte s2 none), (.dat .bool s3 none)])
def ref08_Put_l2_b (ret : UInt8 → Bool → Option AV) (k0 : Option AV) (next : Int → Int → Option AV) (_n : Nat) (c0 : Int) (n4 : Int) : Option AV :=
  bif (decide (n4 < (256 : Int))) then
    bif ((ref08_Sign (UInt8.ofNat (Int.toNat (IntKind.wrap .u8 n4)))) == c0) then
      bif (c0 != (65533 : Int)) then
        ret (UInt8.ofNat (Int.toNat (IntKind.wrap .u8 n4))) true
      else
        next c0 (IntKind.wrap .i64 (n4 + (1 : Int)))
    else
      next c0 (IntKind.wrap .i64 (n4 + (1 : Int)))
  else
    k0
def ref08_Put_l2 (ret : UInt8 → Bool → Option AV) (k0 : Option AV) : Nat → Int → Int → Option AV
  | 0 => fun _ _ => none
  | n + 1 => ref08_Put_l2_b ret k0 (ref08_Put_l2 ret k0 n) n
def ref08_Put_k2_0 (_n : Nat) : Option AV :=
  ref08_Put_ret (0 : UInt8) false
def ref08_Put_sh (n : Nat) (c0 : Int) : Option AV :=
  ref08_Put_l2 ref08_Put_ret (ref08_Put_k2_0 n) n c0 (0 : Int)

/-! sheave/latin.Lacks -/

def latin_Lacks_ret (s2 : Int) : Option AV := some (.dat (.int .i64) s2 none)
def latin_Lacks_l2_b (ret : Int → Option AV) (k0 : Option AV) (next : List Int → Int → Int → Option AV) (_n : Nat) (t0 : List Int) (s5 : Int) (s6 : Int) : Option AV :=
  bif (decide (s6 < s5)) then
    bif ((decide ((0 : Int) ≤ s6)) && (decide (s6 < (List.length t0 : Nat)))) then
      bif (!(latin_Has (List.getD t0 (Int.toNat s6) (0 : Int)))) then
        ret s6
      else
        next t0 s5 (IntKind.wrap .i64 (s6 + (1 : Int)))
    else none
  else
    k0
def latin_Lacks_l2 (ret : Int → Option AV) (k0 : Option AV) : Nat → List Int → Int → Int → Option AV
  | 0 => fun _ _ _ => none
  | n + 1 => latin_Lacks_l2_b ret k0 (latin_Lacks_l2 ret k0 n) n
def latin_Lacks_k2_0 (_n : Nat) : Option AV :=
  latin_Lacks_ret (-1 : Int)
def latin_Lacks_sh (n : Nat) (t0 : List Int) : Option AV :=
  latin_Lacks_l2 latin_Lacks_ret (latin_Lacks_k2_0 n) n t0 ((List.length t0 : Nat) : Int) (0 : Int)

/-! sheave/sheavelaw08.alive -/

def law08_alive_ret (s0 : Bool) : Option AV := some (.dat .bool s0 none)
def law08_alive_sh (_n : Nat) : Option AV :=
  bif ((latin_Lay_ok ([(256 : Int)] : List Int)) && true) then
    bif (((latin_Put (233 : Int)).1) == (233 : UInt8)) then
      bif ((latin_Put (233 : Int)).2) then
        bif (!(latin_Has (256 : Int))) then
          bif (((latin_Lay ([(256 : Int)] : List Int)).2) == (9 : Int)) then
            law08_alive_ret ((latin_Sign (7 : UInt8)) == (7 : Int))
          else
            law08_alive_ret false
        else
          law08_alive_ret false
      else
        law08_alive_ret false
    else
      law08_alive_ret false
  else none

/-! sheave/sheavelaw08.LatinOne -/

def law08_LatinOne_ret (s4 : Bool) : Option AV := some (.dat .bool s4 none)
def law08_LatinOne_sh (_n : Nat) (c0 : Int) (x1 : UInt8) : Option AV :=
  bif (((latin_Put c0).1) == ((ref08_Put c0).1)) then
    bif (((latin_Put c0).2) == ((ref08_Put c0).2)) then
      bif ((latin_Has c0) == ((ref08_Put c0).2)) then
        bif ((latin_Sign x1) == (ref08_Sign x1)) then
          law08_LatinOne_ret law08_alive
        else
          law08_LatinOne_ret false
      else
        law08_LatinOne_ret false
    else
      law08_LatinOne_ret false
  else
    law08_LatinOne_ret false
end Go.Av
