import Derived.Test.YtmbakokcfihafaaLtM
namespace Go.Av
set_option linter.unusedVariables false

/-! sheave/latin.Has -/

def latin_Has_ret (s2 : Bool) : Option AV := some (.dat .bool s2 none)
def latin_Has_sh (_n : Nat) (c0 : Int) : Option AV :=
  latin_Has_ret (decide ((IntKind.wrap .u32 c0) < (256 : Int)))

/-! sheave/latin.Sign -/

def latin_Sign_ret (s2 : Int) : Option AV := some (.dat (.int .i32) s2 none)
def latin_Sign_sh (_n : Nat) (x0 : UInt8) : Option AV :=
  latin_Sign_ret (IntKind.wrap .i32 ((UInt8.toNat x0 : Nat) : Int))

/-! sheave/sheaveref08.Sign -/

def ref08_Sign_ret (s2 : Int) : Option AV := some (.dat (.int .i32) s2 none)
def ref08_Sign_sh (_n : Nat) (x0 : UInt8) : Option AV :=
  ref08_Sign_ret (IntKind.wrap .i32 ((UInt8.toNat x0 : Nat) : Int))

/-! sheave/latin.Put -/

def latin_Put_ret (s2 : UInt8) (s3 : Bool) : Option AV := some (.tup [(.dat .byte s2 none), (.dat .bool s3 none)])
def latin_Put_sh (_n : Nat) (c0 : Int) : Option AV :=
  bif (!(latin_Has c0)) then
    latin_Put_ret (0 : UInt8) false
  else
    latin_Put_ret (UInt8.ofNat (Int.toNat (IntKind.wrap .u8 c0))) true

/-! sheave/sheaveref08.Put -/

def ref08_Put_ret (s2 : UInt8) (s3 : Bool) : Option AV := some (.tup [(.dat .byte s2 none), (.dat .bool s3 none)])
def ref08_Put_l2_b (ret : UInt8 → Bool → Option AV) (k0 : Option AV) (next : Int → Int → Option AV) (_n : Nat) (c0 : Int) (n4 : Int) : Option AV :=
  bif (decide (n4 < (256 : Int))) then
    bif ((ref08_Sign (UInt8.ofNat (Int.toNat (IntKind.wrap .u8 n4)))) == c0) then
      bif (c0 != (65533 : Int)) then
        ret (UInt8.ofNat (Int.toNat (IntKind.wrap .u8 n4))) true
      else
        next c0 (IntKind.wrap .i64 (n4 + (1 : Int)))
    else
      next c0 (IntKind.wrap .i64 (n4 + (1 : Int)))
  else
    k0
def ref08_Put_l2 (ret : UInt8 → Bool → Option AV) (k0 : Option AV) : Nat → Int → Int → Option AV
  | 0 => fun _ _ => none
  | n + 1 => ref08_Put_l2_b ret k0 (ref08_Put_l2 ret k0 n) n
def ref08_Put_k2_0 (_n : Nat) : Option AV :=
  ref08_Put_ret (0 : UInt8) false
def ref08_Put_sh (n : Nat) (c0 : Int) : Option AV :=
  ref08_Put_l2 ref08_Put_ret (ref08_Put_k2_0 n) n c0 (0 : Int)

/-! sheave/latin.Lacks -/

def latin_Lacks_ret (s2 : Int) : Option AV := some (.dat (.int .i64) s2 none)
def latin_Lacks_l2_b (ret : Int → Option AV) (k0 : Option AV) (next : List Int → Int → Int → Option AV) (_n : Nat) (t0 : List Int) (s5 : Int) (s6 : Int) : Option AV :=
  bif (decide (s6 < s5)) then
    bif ((decide ((0 : Int) ≤ s6)) && (decide (s6 < (List.length t0 : Nat)))) then
      bif (!(latin_Has (List.getD t0 (Int.toNat s6) (0 : Int)))) then
        ret s6
      else
        next t0 s5 (IntKind.wrap .i64 (s6 + (1 : Int)))
    else none
  else
    k0
def latin_Lacks_l2 (ret : Int → Option AV) (k0 : Option AV) : Nat → List Int → Int → Int → Option AV
  | 0 => fun _ _ _ => none
  | n + 1 => latin_Lacks_l2_b ret k0 (latin_Lacks_l2 ret k0 n) n
def latin_Lacks_k2_0 (_n : Nat) : Option AV :=
  latin_Lacks_ret (-1 : Int)
def latin_Lacks_sh (n : Nat) (t0 : List Int) : Option AV :=
  latin_Lacks_l2 latin_Lacks_ret (latin_Lacks_k2_0 n) n t0 ((List.length t0 : Nat) : Int) (0 : Int)

/-! sheave/sheaveref08.Lacks -/

def ref08_Lacks_ret (s2 : Int) : Option AV := some (.dat (.int .i64) s2 none)
def ref08_Lacks_l2_b (ret : Int → Option AV) (k0 : Option AV) (next : List Int → Int → Option AV) (_n : Nat) (t0 : List Int) (i3 : Int) : Option AV :=
  bif (decide (i3 < ((List.length t0 : Nat) : Int))) then
    bif ((decide ((0 : Int) ≤ i3)) && (decide (i3 < (List.length t0 : Nat)))) then
      bif (!((ref08_Put (List.getD t0 (Int.toNat i3) (0 : Int))).2)) then
        ret i3
      else
        next t0 (IntKind.wrap .i64 (i3 + (1 : Int)))
    else none
  else
    k0
def ref08_Lacks_l2 (ret : Int → Option AV) (k0 : Option AV) : Nat → List Int → Int → Option AV
  | 0 => fun _ _ => none
  | n + 1 => ref08_Lacks_l2_b ret k0 (ref08_Lacks_l2 ret k0 n) n
def ref08_Lacks_k2_0 (_n : Nat) : Option AV :=
  ref08_Lacks_ret (-1 : Int)
def ref08_Lacks_sh (n : Nat) (t0 : List Int) : Option AV :=
  ref08_Lacks_l2 ref08_Lacks_ret (ref08_Lacks_k2_0 n) n t0 (0 : Int)

/-! sheave/latin.Lay -/

def latin_Lay_ret (s2 : List UInt8) (s3 : Int) : Option AV := some (.tup [(.dat (.sl .byte) s2 none), (.dat (.int .i64) s3 none)])
def latin_Lay_l5_b (k0 : List UInt8 → Option AV) (next : List UInt8 → List Int → Int → Int → Option AV) (_n : Nat) (s4 : List UInt8) (s13 : List Int) (s14 : Int) (s15 : Int) : Option AV :=
  bif (decide (s15 < s14)) then
    bif ((decide ((0 : Int) ≤ s15)) && (decide (s15 < (List.length s13 : Nat)))) then
      bif ((decide ((0 : Int) ≤ s15)) && (decide (s15 < (List.length s4 : Nat)))) then
        next (List.set s4 (Int.toNat s15) (UInt8.ofNat (Int.toNat (IntKind.wrap .u8 (List.getD s13 (Int.toNat s15) (0 : Int)))))) s13 s14 (IntKind.wrap .i64 (s15 + (1 : Int)))
      else none
    else none
  else
    k0 s4
def latin_Lay_l5 (k0 : List UInt8 → Option AV) : Nat → List UInt8 → List Int → Int → Int → Option AV
  | 0 => fun _ _ _ _ => none
  | n + 1 => latin_Lay_l5_b k0 (latin_Lay_l5 k0 n) n
def latin_Lay_k5_0 (_n : Nat) (s4 : List UInt8) : Option AV :=
  latin_Lay_ret s4 (0 : Int)
def latin_Lay_sh (n : Nat) (t0 : List Int) : Option AV :=
  bif ((latin_Lacks_ok t0) && true) then
    bif ((latin_Lacks t0) != (-1 : Int)) then
      latin_Lay_ret ([] : List UInt8) (9 : Int)
    else
      bif (((decide ((0 : Int) ≤ ((List.length t0 : Nat) : Int))) && (decide (((List.length t0 : Nat) : Int) ≤ ((List.length t0 : Nat) : Int)))) && (decide (((List.length t0 : Nat) : Int) ≤ (room : Int)))) then
        latin_Lay_l5 (latin_Lay_k5_0 n) n (List.replicate (Int.toNat ((List.length t0 : Nat) : Int)) (0 : UInt8)) t0 ((List.length t0 : Nat) : Int) (0 : Int)
      else none
  else none

/-! sheave/latin.Read -/

def latin_Read_ret (s2 : List Int) : Option AV := some (.dat (.sl (.int .i32)) s2 (some (2, 21)))
def latin_Read_l3_b (k0 : List Int → Option AV) (next : List Int → List UInt8 → Int → Int → Option AV) (_n : Nat) (t3 : List Int) (s9 : List UInt8) (s10 : Int) (s11 : Int) : Option AV :=
  bif (decide (s11 < s10)) then
    bif ((decide ((0 : Int) ≤ s11)) && (decide (s11 < (List.length s9 : Nat)))) then
      bif ((decide ((0 : Int) ≤ s11)) && (decide (s11 < (List.length t3 : Nat)))) then
        next (List.set t3 (Int.toNat s11) (IntKind.wrap .i32 ((UInt8.toNat (List.getD s9 (Int.toNat s11) (0 : UInt8)) : Nat) : Int))) s9 s10 (IntKind.wrap .i64 (s11 + (1 : Int)))
      else none
    else none
  else
    k0 t3
def latin_Read_l3 (k0 : List Int → Option AV) : Nat → List Int → List UInt8 → Int → Int → Option AV
  | 0 => fun _ _ _ _ => none
  | n + 1 => latin_Read_l3_b k0 (latin_Read_l3 k0 n) n
def latin_Read_k3_0 (_n : Nat) (t3 : List Int) : Option AV :=
  latin_Read_ret t3
def latin_Read_sh (n : Nat) (s0 : List UInt8) : Option AV :=
  bif (((decide ((0 : Int) ≤ ((List.length s0 : Nat) : Int))) && (decide (((List.length s0 : Nat) : Int) ≤ ((List.length s0 : Nat) : Int)))) && (decide (((List.length s0 : Nat) : Int) ≤ (room : Int)))) then
    latin_Read_l3 (latin_Read_k3_0 n) n (List.replicate (Int.toNat ((List.length s0 : Nat) : Int)) (0 : Int)) s0 ((List.length s0 : Nat) : Int) (0 : Int)
  else none

/-! sheave/sheaveref08.Lay -/

def ref08_Lay_ret (s2 : List UInt8) (s3 : Int) : Option AV := some (.tup [(.dat (.sl .byte) s2 none), (.dat (.int .i64) s3 none)])
def ref08_Lay_l5_b (k0 : List UInt8 → Option AV) (next : List Int → List UInt8 → Int → Option AV) (_n : Nat) (t0 : List Int) (out4 : List UInt8) (i5 : Int) : Option AV :=
  bif (decide (i5 < ((List.length t0 : Nat) : Int))) then
    bif ((decide ((0 : Int) ≤ i5)) && (decide (i5 < (List.length t0 : Nat)))) then
      bif (decide (List.length out4 + List.length ([((ref08_Put (List.getD t0 (Int.toNat i5) (0 : Int))).1)] : List UInt8) ≤ room)) then
        next t0 (out4 ++ ([((ref08_Put (List.getD t0 (Int.toNat i5) (0 : Int))).1)] : List UInt8)) (IntKind.wrap .i64 (i5 + (1 : Int)))
      else none
    else none
  else
    k0 out4
def ref08_Lay_l5 (k0 : List UInt8 → Option AV) : Nat → List Int → List UInt8 → Int → Option AV
  | 0 => fun _ _ _ => none
  | n + 1 => ref08_Lay_l5_b k0 (ref08_Lay_l5 k0 n) n
def ref08_Lay_k5_0 (_n : Nat) (out4 : List UInt8) : Option AV :=
  ref08_Lay_ret out4 (0 : Int)
def ref08_Lay_sh (n : Nat) (t0 : List Int) : Option AV :=
  bif ((ref08_Lacks_ok t0) && true) then
    bif (decide ((0 : Int) ≤ (ref08_Lacks t0))) then
      ref08_Lay_ret ([] : List UInt8) (9 : Int)
    else
      ref08_Lay_l5 (ref08_Lay_k5_0 n) n t0 ([] : List UInt8) (0 : Int)
  else none

/-! sheave/sheaveref08.Read -/

def ref08_Read_ret (s2 : List Int) : Option AV := some (.dat (.sl (.int .i32)) s2 (some (2, 21)))
def ref08_Read_l3_b (k0 : List Int → Option AV) (next : List UInt8 → List Int → Int → Option AV) (_n : Nat) (s0 : List UInt8) (out3 : List Int) (i4 : Int) : Option AV :=
  bif (decide (i4 < ((List.length s0 : Nat) : Int))) then
    bif ((decide ((0 : Int) ≤ i4)) && (decide (i4 < (List.length s0 : Nat)))) then
      bif (decide (List.length out3 + List.length ([(ref08_Sign (List.getD s0 (Int.toNat i4) (0 : UInt8)))] : List Int) ≤ room)) then
        next s0 (out3 ++ ([(ref08_Sign (List.getD s0 (Int.toNat i4) (0 : UInt8)))] : List Int)) (IntKind.wrap .i64 (i4 + (1 : Int)))
      else none
    else none
  else
    k0 out3
def ref08_Read_l3 (k0 : List Int → Option AV) : Nat → List UInt8 → List Int → Int → Option AV
  | 0 => fun _ _ _ => none
  | n + 1 => ref08_Read_l3_b k0 (ref08_Read_l3 k0 n) n
def ref08_Read_k3_0 (_n : Nat) (out3 : List Int) : Option AV :=
  ref08_Read_ret out3
def ref08_Read_sh (n : Nat) (s0 : List UInt8) : Option AV :=
  ref08_Read_l3 (ref08_Read_k3_0 n) n s0 ([] : List Int) (0 : Int)

/-! sheave/sheaveref01.Like -/

def ref01_Like_ret (s4 : Bool) : Option AV := some (.dat .bool s4 none)
def ref01_Like_l4_b (ret : Bool → Option AV) (k0 : Option AV) (next : List UInt8 → List UInt8 → Int → Option AV) (_n : Nat) (a0 : List UInt8) (b1 : List UInt8) (i5 : Int) : Option AV :=
  bif (decide (i5 < ((List.length a0 : Nat) : Int))) then
    bif ((decide ((0 : Int) ≤ i5)) && (decide (i5 < (List.length a0 : Nat)))) then
      bif ((decide ((0 : Int) ≤ i5)) && (decide (i5 < (List.length b1 : Nat)))) then
        bif ((List.getD a0 (Int.toNat i5) (0 : UInt8)) != (List.getD b1 (Int.toNat i5) (0 : UInt8))) then
          ret false
        else
          next a0 b1 (IntKind.wrap .i64 (i5 + (1 : Int)))
      else none
    else none
  else
    k0
def ref01_Like_l4 (ret : Bool → Option AV) (k0 : Option AV) : Nat → List UInt8 → List UInt8 → Int → Option AV
  | 0 => fun _ _ _ => none
  | n + 1 => ref01_Like_l4_b ret k0 (ref01_Like_l4 ret k0 n) n
def ref01_Like_k4_0 (_n : Nat) : Option AV :=
  ref01_Like_ret true
def ref01_Like_sh (n : Nat) (a0 : List UInt8) (b1 : List UInt8) : Option AV :=
  bif (((List.length a0 : Nat) : Int) != ((List.length b1 : Nat) : Int)) then
    ref01_Like_ret false
  else
    ref01_Like_l4 ref01_Like_ret (ref01_Like_k4_0 n) n a0 b1 (0 : Int)

/-! sheave/sheaveref03.Like -/

def ref03_Like_ret (s4 : Bool) : Option AV := some (.dat .bool s4 none)
def ref03_Like_l4_b (ret : Bool → Option AV) (k0 : Option AV) (next : List Int → List Int → Int → Option AV) (_n : Nat) (a0 : List Int) (b1 : List Int) (i5 : Int) : Option AV :=
  bif (decide (i5 < ((List.length a0 : Nat) : Int))) then
    bif ((decide ((0 : Int) ≤ i5)) && (decide (i5 < (List.length a0 : Nat)))) then
      bif ((decide ((0 : Int) ≤ i5)) && (decide (i5 < (List.length b1 : Nat)))) then
        bif ((List.getD a0 (Int.toNat i5) (0 : Int)) != (List.getD b1 (Int.toNat i5) (0 : Int))) then
          ret false
        else
          next a0 b1 (IntKind.wrap .i64 (i5 + (1 : Int)))
      else none
    else none
  else
    k0
def ref03_Like_l4 (ret : Bool → Option AV) (k0 : Option AV) : Nat → List Int → List Int → Int → Option AV
  | 0 => fun _ _ _ => none
  | n + 1 => ref03_Like_l4_b ret k0 (ref03_Like_l4 ret k0 n) n
def ref03_Like_k4_0 (_n : Nat) : Option AV :=
  ref03_Like_ret true
def ref03_Like_sh (n : Nat) (a0 : List Int) (b1 : List Int) : Option AV :=
  bif (((List.length a0 : Nat) : Int) != ((List.length b1 : Nat) : Int)) then
    ref03_Like_ret false
  else
    ref03_Like_l4 ref03_Like_ret (ref03_Like_k4_0 n) n a0 b1 (0 : Int)

/-! sheave/sheavelaw08.alive -/

def law08_alive_ret (s0 : Bool) : Option AV := some (.dat .bool s0 none)
def law08_alive_sh (_n : Nat) : Option AV :=
  bif ((latin_Lay_ok ([(256 : Int)] : List Int)) && true) then
    bif (((latin_Put (233 : Int)).1) == (233 : UInt8)) then
      bif ((latin_Put (233 : Int)).2) then
        bif (!(latin_Has (256 : Int))) then
          bif (((latin_Lay ([(256 : Int)] : List Int)).2) == (9 : Int)) then
            law08_alive_ret ((latin_Sign (7 : UInt8)) == (7 : Int))
          else
            law08_alive_ret false
        else
          law08_alive_ret false
      else
        law08_alive_ret false
    else
      law08_alive_ret false
  else none

/-! sheave/sheavelaw08.LatinOne -/

def law08_LatinOne_ret (s4 : Bool) : Option AV := some (.dat .bool s4 none)
def law08_LatinOne_sh (_n : Nat) (c0 : Int) (x1 : UInt8) : Option AV :=
  bif (((latin_Put c0).1) == ((ref08_Put c0).1)) then
    bif (((latin_Put c0).2) == ((ref08_Put c0).2)) then
      bif ((latin_Has c0) == ((ref08_Put c0).2)) then
        bif ((latin_Sign x1) == (ref08_Sign x1)) then
          law08_LatinOne_ret law08_alive
        else
          law08_LatinOne_ret false
      else
        law08_LatinOne_ret false
    else
      law08_LatinOne_ret false
  else
    law08_LatinOne_ret false

/-! sheave/sheavelaw08.LatinTexts -/

def law08_LatinTexts_ret (s4 : Bool) : Option AV := some (.dat .bool s4 none)
def law08_LatinTexts_sh (_n : Nat) (t0 : List Int) (s1 : List UInt8) : Option AV :=
  bif (decide ((300 : Int) < ((List.length t0 : Nat) : Int))) then
    law08_LatinTexts_ret law08_alive
  else
    bif (decide ((1000 : Int) < ((List.length s1 : Nat) : Int))) then
      law08_LatinTexts_ret law08_alive
    else
      bif ((latin_Lay_ok t0) && true) then
        bif ((ref08_Lay_ok t0) && true) then
          bif ((ref01_Like_ok ((latin_Lay t0).1) ((ref08_Lay t0).1)) && true) then
            bif (ref01_Like ((latin_Lay t0).1) ((ref08_Lay t0).1)) then
              bif (((latin_Lay t0).2) == ((ref08_Lay t0).2)) then
                bif ((latin_Lacks_ok t0) && true) then
                  bif ((ref08_Lacks_ok t0) && true) then
                    bif ((latin_Lacks t0) == (ref08_Lacks t0)) then
                      bif ((latin_Read_ok s1) && true) then
                        bif ((ref08_Read_ok s1) && true) then
                          bif ((ref03_Like_ok (latin_Read s1) (ref08_Read s1)) && true) then
                            bif (ref03_Like (latin_Read s1) (ref08_Read s1)) then
                              law08_LatinTexts_ret law08_alive
                            else
                              law08_LatinTexts_ret false
                          else none
                        else none
                      else none
                    else
                      law08_LatinTexts_ret false
                  else none
                else none
              else
                law08_LatinTexts_ret false
            else
              law08_LatinTexts_ret false
          else none
        else none
      else none

/-! sheave/sheavelaw08.LatinBack -/

def law08_LatinBack_ret (s4 : Bool) : Option AV := some (.dat .bool s4 none)
def law08_LatinBack_l9_b (ret : Bool → Option AV) (k0 : List UInt8 → List Int → Bool → Option AV) (next : List UInt8 → List Int → Bool → List Int → Int → Int → Option AV) (_n : Nat) (s1 : List UInt8) (x7 : List Int) (whole8 : Bool) (s58 : List Int) (s59 : Int) (s60 : Int) : Option AV :=
  bif (decide (s60 < s59)) then
    bif ((decide ((0 : Int) ≤ s60)) && (decide (s60 < (List.length s58 : Nat)))) then
      bif ((List.getD s58 (Int.toNat s60) (0 : Int)) == (65533 : Int)) then
        bif whole8 then
          ret law08_alive
        else
          ret false
      else
        next s1 x7 whole8 s58 s59 (IntKind.wrap .i64 (s60 + (1 : Int)))
    else none
  else
    k0 s1 x7 whole8
def law08_LatinBack_l9 (ret : Bool → Option AV) (k0 : List UInt8 → List Int → Bool → Option AV) : Nat → List UInt8 → List Int → Bool → List Int → Int → Int → Option AV
  | 0 => fun _ _ _ _ _ _ => none
  | n + 1 => law08_LatinBack_l9_b ret k0 (law08_LatinBack_l9 ret k0 n) n
def law08_LatinBack_k9_0 (_n : Nat) (s1 : List UInt8) (x7 : List Int) (whole8 : Bool) : Option AV :=
  bif ((latin_Lay_ok x7) && true) then
    bif whole8 then
      bif (((latin_Lay x7).2) == (0 : Int)) then
        bif ((ref01_Like_ok ((latin_Lay x7).1) s1) && true) then
          bif (ref01_Like ((latin_Lay x7).1) s1) then
            law08_LatinBack_ret law08_alive
          else
            law08_LatinBack_ret false
        else none
      else
        law08_LatinBack_ret false
    else
      law08_LatinBack_ret false
  else none
def law08_LatinBack_sh (n : Nat) (t0 : List Int) (s1 : List UInt8) : Option AV :=
  bif (decide ((300 : Int) < ((List.length t0 : Nat) : Int))) then
    law08_LatinBack_ret law08_alive
  else
    bif (decide ((1000 : Int) < ((List.length s1 : Nat) : Int))) then
      law08_LatinBack_ret law08_alive
    else
      bif ((latin_Lay_ok t0) && true) then
        bif (((latin_Lay t0).2) == (0 : Int)) then
          bif ((latin_Read_ok ((latin_Lay t0).1)) && true) then
            bif ((ref03_Like_ok (latin_Read ((latin_Lay t0).1)) t0) && true) then
              bif (!(ref03_Like (latin_Read ((latin_Lay t0).1)) t0)) then
                law08_LatinBack_ret false
              else
                bif (((List.length ((latin_Lay t0).1) : Nat) : Int) != ((List.length t0 : Nat) : Int)) then
                  law08_LatinBack_ret false
                else
                  bif ((latin_Lacks_ok t0) && true) then
                    bif ((((latin_Lay t0).2) == (0 : Int)) != (decide ((latin_Lacks t0) < (0 : Int)))) then
                      law08_LatinBack_ret false
                    else
                      bif ((latin_Read_ok s1) && true) then
                        law08_LatinBack_l9 law08_LatinBack_ret (law08_LatinBack_k9_0 n) n s1 (latin_Read s1) (((List.length (latin_Read s1) : Nat) : Int) == ((List.length s1 : Nat) : Int)) (latin_Read s1) ((List.length (latin_Read s1) : Nat) : Int) (0 : Int)
                      else none
                  else none
            else none
          else none
        else
          bif ((latin_Lacks_ok t0) && true) then
            bif ((((latin_Lay t0).2) == (0 : Int)) != (decide ((latin_Lacks t0) < (0 : Int)))) then
              law08_LatinBack_ret false
            else
              bif ((latin_Read_ok s1) && true) then
                law08_LatinBack_l9 law08_LatinBack_ret (law08_LatinBack_k9_0 n) n s1 (latin_Read s1) (((List.length (latin_Read s1) : Nat) : Int) == ((List.length s1 : Nat) : Int)) (latin_Read s1) ((List.length (latin_Read s1) : Nat) : Int) (0 : Int)
              else none
          else none
      else none
end Go.Av
