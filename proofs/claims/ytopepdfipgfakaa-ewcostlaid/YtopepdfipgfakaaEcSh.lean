import Derived.Test.YtopepdfipgfakaaEcM
namespace Go.Av
set_option linter.unusedVariables false
noncomputable section

/-! sheave/octet.Is -/

def octet_Is_ret (s4 : Bool) : Option AV := some (.dat .bool s4 none)
def octet_Is_sh (_n : Nat) (c0 : UInt8) (kinds1 : Int) : Option AV :=
  octet_Is_ret ((bits .and .i64 (octet_Kinds c0) kinds1) != (0 : Int))

/-! sheave/sheaveref01.has -/

def ref01_has_ret (s4 : Bool) : Option AV := some (.dat .bool s4 none)
def ref01_has_l2_b (ret : Bool → Option AV) (k0 : Option AV) (next : List UInt8 → UInt8 → Int → Option AV) (_n : Nat) (s0 : List UInt8) (c1 : UInt8) (i5 : Int) : Option AV :=
  bif (decide (i5 < ((List.length s0 : Nat) : Int))) then
    bif ((decide ((0 : Int) ≤ i5)) && (decide (i5 < (List.length s0 : Nat)))) then
      bif ((List.getD s0 (Int.toNat i5) (0 : UInt8)) == c1) then
        ret true
      else
        next s0 c1 (IntKind.wrap .i64 (i5 + (1 : Int)))
    else none
  else
    k0
def ref01_has_l2 (ret : Bool → Option AV) (k0 : Option AV) : Nat → List UInt8 → UInt8 → Int → Option AV
  | 0 => fun _ _ _ => none
  | n + 1 => ref01_has_l2_b ret k0 (ref01_has_l2 ret k0 n) n
def ref01_has_k2_0 (_n : Nat) : Option AV :=
  ref01_has_ret false
def ref01_has_sh (n : Nat) (s0 : List UInt8) (c1 : UInt8) : Option AV :=
  ref01_has_l2 ref01_has_ret (ref01_has_k2_0 n) n s0 c1 (0 : Int)

/-! sheave/octet.Kinds -/

def octet_Kinds_ret (s2 : Int) : Option AV := some (.dat (.int .i64) s2 none)
def octet_Kinds_sh (_n : Nat) (c0 : UInt8) : Option AV :=
  bif (decide (c0 < (33 : UInt8))) then
    octet_Kinds_ret (octet_plain c0)
  else
    bif (decide ((126 : UInt8) < c0)) then
      octet_Kinds_ret (octet_plain c0)
    else
      bif (octet_in ([33, 42, 43, 45, 47] : List UInt8) c0) then
        bif (octet_in ([43, 47] : List UInt8) c0) then
          bif (octet_in ([40, 41, 60, 62, 64, 44, 59, 58, 92, 34, 47, 91, 93, 63, 61] : List UInt8) c0) then
            octet_Kinds_ret (bits .or .i64 (bits .or .i64 (bits .or .i64 (bits .or .i64 (octet_plain c0) (4 : Int)) (128 : Int)) (512 : Int)) (32 : Int))
          else
            bif (!(octet_in ([42, 39, 37] : List UInt8) c0)) then
              octet_Kinds_ret (bits .or .i64 (bits .or .i64 (bits .or .i64 (bits .or .i64 (bits .or .i64 (octet_plain c0) (4 : Int)) (128 : Int)) (512 : Int)) (64 : Int)) (256 : Int))
            else
              octet_Kinds_ret (bits .or .i64 (bits .or .i64 (bits .or .i64 (bits .or .i64 (octet_plain c0) (4 : Int)) (128 : Int)) (512 : Int)) (64 : Int))
        else
          bif (octet_in ([40, 41, 60, 62, 64, 44, 59, 58, 92, 34, 47, 91, 93, 63, 61] : List UInt8) c0) then
            octet_Kinds_ret (bits .or .i64 (bits .or .i64 (bits .or .i64 (octet_plain c0) (4 : Int)) (128 : Int)) (32 : Int))
          else
            bif (!(octet_in ([42, 39, 37] : List UInt8) c0)) then
              octet_Kinds_ret (bits .or .i64 (bits .or .i64 (bits .or .i64 (bits .or .i64 (octet_plain c0) (4 : Int)) (128 : Int)) (64 : Int)) (256 : Int))
            else
              octet_Kinds_ret (bits .or .i64 (bits .or .i64 (bits .or .i64 (octet_plain c0) (4 : Int)) (128 : Int)) (64 : Int))
      else
        bif (octet_in ([43, 47] : List UInt8) c0) then
          bif (octet_in ([40, 41, 60, 62, 64, 44, 59, 58, 92, 34, 47, 91, 93, 63, 61] : List UInt8) c0) then
            octet_Kinds_ret (bits .or .i64 (bits .or .i64 (bits .or .i64 (octet_plain c0) (4 : Int)) (512 : Int)) (32 : Int))
          else
            bif (!(octet_in ([42, 39, 37] : List UInt8) c0)) then
              octet_Kinds_ret (bits .or .i64 (bits .or .i64 (bits .or .i64 (bits .or .i64 (octet_plain c0) (4 : Int)) (512 : Int)) (64 : Int)) (256 : Int))
            else
              octet_Kinds_ret (bits .or .i64 (bits .or .i64 (bits .or .i64 (octet_plain c0) (4 : Int)) (512 : Int)) (64 : Int))
        else
          bif (octet_in ([40, 41, 60, 62, 64, 44, 59, 58, 92, 34, 47, 91, 93, 63, 61] : List UInt8) c0) then
            octet_Kinds_ret (bits .or .i64 (bits .or .i64 (octet_plain c0) (4 : Int)) (32 : Int))
          else
            bif (!(octet_in ([42, 39, 37] : List UInt8) c0)) then
              octet_Kinds_ret (bits .or .i64 (bits .or .i64 (bits .or .i64 (octet_plain c0) (4 : Int)) (64 : Int)) (256 : Int))
            else
              octet_Kinds_ret (bits .or .i64 (bits .or .i64 (octet_plain c0) (4 : Int)) (64 : Int))

/-! sheave/octet.plain -/

def octet_plain_ret (s2 : Int) : Option AV := some (.dat (.int .i64) s2 none)
def octet_plain_sh (_n : Nat) (c0 : UInt8) : Option AV :=
  bif (decide (c0 < (32 : UInt8))) then
    bif (c0 == (32 : UInt8)) then
      octet_plain_ret (bits .or .i64 (bits .or .i64 (0 : Int) (1 : Int)) (2 : Int))
    else
      bif (c0 == (9 : UInt8)) then
        octet_plain_ret (bits .or .i64 (bits .or .i64 (0 : Int) (1 : Int)) (2 : Int))
      else
        bif (decide ((48 : UInt8) ≤ c0)) then
          bif (decide (c0 ≤ (57 : UInt8))) then
            octet_plain_ret (bits .or .i64 (bits .or .i64 (0 : Int) (1 : Int)) (648 : Int))
          else
            bif (decide ((65 : UInt8) ≤ c0)) then
              bif (decide (c0 ≤ (90 : UInt8))) then
                bif (decide (c0 ≤ (90 : UInt8))) then
                  octet_plain_ret (bits .or .i64 (bits .or .i64 (0 : Int) (1 : Int)) (656 : Int))
                else
                  octet_plain_ret (bits .or .i64 (0 : Int) (1 : Int))
              else
                bif (decide ((97 : UInt8) ≤ c0)) then
                  bif (decide (c0 ≤ (122 : UInt8))) then
                    octet_plain_ret (bits .or .i64 (bits .or .i64 (0 : Int) (1 : Int)) (656 : Int))
                  else
                    octet_plain_ret (bits .or .i64 (0 : Int) (1 : Int))
                else
                  octet_plain_ret (bits .or .i64 (0 : Int) (1 : Int))
            else
              bif (decide ((97 : UInt8) ≤ c0)) then
                bif (decide (c0 ≤ (122 : UInt8))) then
                  octet_plain_ret (bits .or .i64 (bits .or .i64 (0 : Int) (1 : Int)) (656 : Int))
                else
                  octet_plain_ret (bits .or .i64 (0 : Int) (1 : Int))
              else
                octet_plain_ret (bits .or .i64 (0 : Int) (1 : Int))
        else
          bif (decide ((65 : UInt8) ≤ c0)) then
            bif (decide (c0 ≤ (90 : UInt8))) then
              bif (decide (c0 ≤ (90 : UInt8))) then
                octet_plain_ret (bits .or .i64 (bits .or .i64 (0 : Int) (1 : Int)) (656 : Int))
              else
                octet_plain_ret (bits .or .i64 (0 : Int) (1 : Int))
            else
              bif (decide ((97 : UInt8) ≤ c0)) then
                bif (decide (c0 ≤ (122 : UInt8))) then
                  octet_plain_ret (bits .or .i64 (bits .or .i64 (0 : Int) (1 : Int)) (656 : Int))
                else
                  octet_plain_ret (bits .or .i64 (0 : Int) (1 : Int))
              else
                octet_plain_ret (bits .or .i64 (0 : Int) (1 : Int))
          else
            bif (decide ((97 : UInt8) ≤ c0)) then
              bif (decide (c0 ≤ (122 : UInt8))) then
                octet_plain_ret (bits .or .i64 (bits .or .i64 (0 : Int) (1 : Int)) (656 : Int))
              else
                octet_plain_ret (bits .or .i64 (0 : Int) (1 : Int))
            else
              octet_plain_ret (bits .or .i64 (0 : Int) (1 : Int))
  else
    bif (c0 == (127 : UInt8)) then
      bif (c0 == (32 : UInt8)) then
        octet_plain_ret (bits .or .i64 (bits .or .i64 (0 : Int) (1 : Int)) (2 : Int))
      else
        bif (c0 == (9 : UInt8)) then
          octet_plain_ret (bits .or .i64 (bits .or .i64 (0 : Int) (1 : Int)) (2 : Int))
        else
          bif (decide ((48 : UInt8) ≤ c0)) then
            bif (decide (c0 ≤ (57 : UInt8))) then
              octet_plain_ret (bits .or .i64 (bits .or .i64 (0 : Int) (1 : Int)) (648 : Int))
            else
              bif (decide ((65 : UInt8) ≤ c0)) then
                bif (decide (c0 ≤ (90 : UInt8))) then
                  bif (decide (c0 ≤ (90 : UInt8))) then
                    octet_plain_ret (bits .or .i64 (bits .or .i64 (0 : Int) (1 : Int)) (656 : Int))
                  else
                    octet_plain_ret (bits .or .i64 (0 : Int) (1 : Int))
                else
                  bif (decide ((97 : UInt8) ≤ c0)) then
                    bif (decide (c0 ≤ (122 : UInt8))) then
                      octet_plain_ret (bits .or .i64 (bits .or .i64 (0 : Int) (1 : Int)) (656 : Int))
                    else
                      octet_plain_ret (bits .or .i64 (0 : Int) (1 : Int))
                  else
                    octet_plain_ret (bits .or .i64 (0 : Int) (1 : Int))
              else
                bif (decide ((97 : UInt8) ≤ c0)) then
                  bif (decide (c0 ≤ (122 : UInt8))) then
                    octet_plain_ret (bits .or .i64 (bits .or .i64 (0 : Int) (1 : Int)) (656 : Int))
                  else
                    octet_plain_ret (bits .or .i64 (0 : Int) (1 : Int))
                else
                  octet_plain_ret (bits .or .i64 (0 : Int) (1 : Int))
          else
            bif (decide ((65 : UInt8) ≤ c0)) then
              bif (decide (c0 ≤ (90 : UInt8))) then
                bif (decide (c0 ≤ (90 : UInt8))) then
                  octet_plain_ret (bits .or .i64 (bits .or .i64 (0 : Int) (1 : Int)) (656 : Int))
                else
                  octet_plain_ret (bits .or .i64 (0 : Int) (1 : Int))
              else
                bif (decide ((97 : UInt8) ≤ c0)) then
                  bif (decide (c0 ≤ (122 : UInt8))) then
                    octet_plain_ret (bits .or .i64 (bits .or .i64 (0 : Int) (1 : Int)) (656 : Int))
                  else
                    octet_plain_ret (bits .or .i64 (0 : Int) (1 : Int))
                else
                  octet_plain_ret (bits .or .i64 (0 : Int) (1 : Int))
            else
              bif (decide ((97 : UInt8) ≤ c0)) then
                bif (decide (c0 ≤ (122 : UInt8))) then
                  octet_plain_ret (bits .or .i64 (bits .or .i64 (0 : Int) (1 : Int)) (656 : Int))
                else
                  octet_plain_ret (bits .or .i64 (0 : Int) (1 : Int))
              else
                octet_plain_ret (bits .or .i64 (0 : Int) (1 : Int))
    else
      bif (c0 == (32 : UInt8)) then
        octet_plain_ret (bits .or .i64 (0 : Int) (2 : Int))
      else
        bif (c0 == (9 : UInt8)) then
          octet_plain_ret (bits .or .i64 (0 : Int) (2 : Int))
        else
          bif (decide ((48 : UInt8) ≤ c0)) then
            bif (decide (c0 ≤ (57 : UInt8))) then
              octet_plain_ret (bits .or .i64 (0 : Int) (648 : Int))
            else
              bif (decide ((65 : UInt8) ≤ c0)) then
                bif (decide (c0 ≤ (90 : UInt8))) then
                  bif (decide (c0 ≤ (90 : UInt8))) then
                    octet_plain_ret (bits .or .i64 (0 : Int) (656 : Int))
                  else
                    octet_plain_ret (0 : Int)
                else
                  bif (decide ((97 : UInt8) ≤ c0)) then
                    bif (decide (c0 ≤ (122 : UInt8))) then
                      octet_plain_ret (bits .or .i64 (0 : Int) (656 : Int))
                    else
                      octet_plain_ret (0 : Int)
                  else
                    octet_plain_ret (0 : Int)
              else
                bif (decide ((97 : UInt8) ≤ c0)) then
                  bif (decide (c0 ≤ (122 : UInt8))) then
                    octet_plain_ret (bits .or .i64 (0 : Int) (656 : Int))
                  else
                    octet_plain_ret (0 : Int)
                else
                  octet_plain_ret (0 : Int)
          else
            bif (decide ((65 : UInt8) ≤ c0)) then
              bif (decide (c0 ≤ (90 : UInt8))) then
                bif (decide (c0 ≤ (90 : UInt8))) then
                  octet_plain_ret (bits .or .i64 (0 : Int) (656 : Int))
                else
                  octet_plain_ret (0 : Int)
              else
                bif (decide ((97 : UInt8) ≤ c0)) then
                  bif (decide (c0 ≤ (122 : UInt8))) then
                    octet_plain_ret (bits .or .i64 (0 : Int) (656 : Int))
                  else
                    octet_plain_ret (0 : Int)
                else
                  octet_plain_ret (0 : Int)
            else
              bif (decide ((97 : UInt8) ≤ c0)) then
                bif (decide (c0 ≤ (122 : UInt8))) then
                  octet_plain_ret (bits .or .i64 (0 : Int) (656 : Int))
                else
                  octet_plain_ret (0 : Int)
              else
                octet_plain_ret (0 : Int)

/-! sheave/octet.in -/

def octet_in_ret (s4 : Bool) : Option AV := some (.dat .bool s4 none)
def octet_in_sh (_n : Nat) (s0 : List UInt8) (c1 : UInt8) : Option AV :=
  octet_in_ret (decide ((0 : Int) ≤ (strings_IndexByte s0 c1)))

/-! strings.IndexByte -/

def strings_IndexByte_ret (s4 : Int) : Option AV := some (.dat (.int .i64) s4 none)
def strings_IndexByte_sh (_n : Nat) (s0 : List UInt8) (c1 : UInt8) : Option AV :=
  strings_IndexByte_ret (internal_stringslite_IndexByte s0 c1)

/-! internal/stringslite.IndexByte -/

def internal_stringslite_IndexByte_ret (s4 : Int) : Option AV := some (.dat (.int .i64) s4 none)
def internal_stringslite_IndexByte_sh (_n : Nat) (s0 : List UInt8) (c1 : UInt8) : Option AV :=
  internal_stringslite_IndexByte_ret (internal_bytealg_IndexByteString s0 c1)

/-! sheave/scalar.Surrogate -/

def scalar_Surrogate_ret (s2 : Bool) : Option AV := some (.dat .bool s2 none)
def scalar_Surrogate_sh (_n : Nat) (c0 : Int) : Option AV :=
  bif (decide ((55296 : Int) ≤ c0)) then
    scalar_Surrogate_ret (decide (c0 ≤ (57343 : Int)))
  else
    scalar_Surrogate_ret false

/-! sheave/scalar.Is -/

def scalar_Is_ret (s2 : Bool) : Option AV := some (.dat .bool s2 none)
def scalar_Is_sh (_n : Nat) (c0 : Int) : Option AV :=
  bif (decide ((IntKind.wrap .u32 c0) ≤ (1114111 : Int))) then
    scalar_Is_ret (!(scalar_Surrogate c0))
  else
    scalar_Is_ret false

/-! slices.Index[[]rune,rune] -/

def slices_Index___rune_rune__ret (s4 : Int) : Option AV := some (.dat (.int .i64) s4 none)
def slices_Index___rune_rune__l2_b (ret : Int → Option AV) (k0 : Option AV) (next : List Int → Int → Int → Int → Option AV) (_n : Nat) (s0 : List Int) (v1 : Int) (s7 : Int) (s8 : Int) : Option AV :=
  bif (decide (s8 < s7)) then
    bif ((decide ((0 : Int) ≤ s8)) && (decide (s8 < (List.length s0 : Nat)))) then
      bif (v1 == (List.getD s0 (Int.toNat s8) (0 : Int))) then
        ret s8
      else
        next s0 v1 s7 (IntKind.wrap .i64 (s8 + (1 : Int)))
    else none
  else
    k0
def slices_Index___rune_rune__l2 (ret : Int → Option AV) (k0 : Option AV) : Nat → List Int → Int → Int → Int → Option AV
  | 0 => fun _ _ _ _ => none
  | n + 1 => slices_Index___rune_rune__l2_b ret k0 (slices_Index___rune_rune__l2 ret k0 n) n
def slices_Index___rune_rune__k2_0 (_n : Nat) : Option AV :=
  slices_Index___rune_rune__ret (-1 : Int)
def slices_Index___rune_rune__sh (n : Nat) (s0 : List Int) (v1 : Int) : Option AV :=
  slices_Index___rune_rune__l2 slices_Index___rune_rune__ret (slices_Index___rune_rune__k2_0 n) n s0 v1 ((List.length s0 : Nat) : Int) (0 : Int)

/-! sheave/sheaveref02.Digit -/

def ref02_Digit_ret (s2 : UInt8) : Option AV := some (.dat .byte s2 none)
def ref02_Digit_sh (_n : Nat) (n0 : Int) : Option AV :=
  bif (decide ((Int.tmod (IntKind.wrap .i64 ((Int.tmod n0 (16 : Int)) + (16 : Int))) (16 : Int)) < (10 : Int))) then
    ref02_Digit_ret (UInt8.ofNat (Int.toNat (IntKind.wrap .u8 (IntKind.wrap .i64 ((48 : Int) + (Int.tmod (IntKind.wrap .i64 ((Int.tmod n0 (16 : Int)) + (16 : Int))) (16 : Int)))))))
  else
    ref02_Digit_ret (UInt8.ofNat (Int.toNat (IntKind.wrap .u8 (IntKind.wrap .i64 ((IntKind.wrap .i64 ((65 : Int) + (Int.tmod (IntKind.wrap .i64 ((Int.tmod n0 (16 : Int)) + (16 : Int))) (16 : Int)))) - (10 : Int))))))

/-! sheave/reper.Has -/

def reper_Has_ret (s4 : Bool) : Option AV := some (.dat .bool s4 none)
def reper_Has_sh (_n : Nat) (charset0 : Int) (c1 : Int) : Option AV :=
  bif (charset0 == (1 : Int)) then
    bif (decide ((0 : Int) ≤ c1)) then
      reper_Has_ret (decide (c1 < (128 : Int)))
    else
      reper_Has_ret false
  else
    bif (charset0 == (2 : Int)) then
      reper_Has_ret (latin_Has c1)
    else
      bif (charset0 == (3 : Int)) then
        reper_Has_ret (latnine_Has c1)
      else
        bif (charset0 == (4 : Int)) then
          reper_Has_ret (winone_Has c1)
        else
          bif (charset0 == (5 : Int)) then
            reper_Has_ret (scalar_Is c1)
          else
            reper_Has_ret false

/-! sheave/sheaveref03.Surrogate -/

def ref03_Surrogate_ret (s2 : Bool) : Option AV := some (.dat .bool s2 none)
def ref03_Surrogate_sh (_n : Nat) (c0 : Int) : Option AV :=
  bif (decide ((55296 : Int) ≤ c0)) then
    ref03_Surrogate_ret (decide (c0 ≤ (57343 : Int)))
  else
    ref03_Surrogate_ret false

/-! sheave/sheaveref03.Is -/

def ref03_Is_ret (s2 : Bool) : Option AV := some (.dat .bool s2 none)
def ref03_Is_sh (_n : Nat) (c0 : Int) : Option AV :=
  bif (decide ((0 : Int) ≤ c0)) then
    bif (decide (c0 ≤ (1114111 : Int))) then
      ref03_Is_ret (!(ref03_Surrogate c0))
    else
      ref03_Is_ret false
  else
    ref03_Is_ret false

/-! sheave/sheaveref08.Sign -/

def ref08_Sign_ret (s2 : Int) : Option AV := some (.dat (.int .i32) s2 none)
def ref08_Sign_sh (_n : Nat) (x0 : UInt8) : Option AV :=
  ref08_Sign_ret (IntKind.wrap .i32 ((UInt8.toNat x0 : Nat) : Int))

/-! sheave/sheaveref09.Sign -/

def ref09_Sign_ret (s2 : Int) : Option AV := some (.dat (.int .i32) s2 none)
def ref09_Sign_sh (_n : Nat) (x0 : UInt8) : Option AV :=
  bif (x0 == (164 : UInt8)) then
    ref09_Sign_ret (8364 : Int)
  else
    bif (x0 == (166 : UInt8)) then
      ref09_Sign_ret (352 : Int)
    else
      bif (x0 == (168 : UInt8)) then
        ref09_Sign_ret (353 : Int)
      else
        bif (x0 == (180 : UInt8)) then
          ref09_Sign_ret (381 : Int)
        else
          bif (x0 == (184 : UInt8)) then
            ref09_Sign_ret (382 : Int)
          else
            bif (x0 == (188 : UInt8)) then
              ref09_Sign_ret (338 : Int)
            else
              bif (x0 == (189 : UInt8)) then
                ref09_Sign_ret (339 : Int)
              else
                bif (x0 == (190 : UInt8)) then
                  ref09_Sign_ret (376 : Int)
                else
                  ref09_Sign_ret (IntKind.wrap .i32 ((UInt8.toNat x0 : Nat) : Int))

/-! sheave/sheaveref10.Sign -/

def ref10_Sign_ret (s2 : Int) : Option AV := some (.dat (.int .i32) s2 none)
def ref10_Sign_sh (_n : Nat) (x0 : UInt8) : Option AV :=
  bif (decide (x0 < (128 : UInt8))) then
    ref10_Sign_ret (IntKind.wrap .i32 ((UInt8.toNat x0 : Nat) : Int))
  else
    bif (decide ((159 : UInt8) < x0)) then
      ref10_Sign_ret (IntKind.wrap .i32 ((UInt8.toNat x0 : Nat) : Int))
    else
      bif ((decide ((0 : Int) ≤ ((UInt8.toNat (x0 - (128 : UInt8)) : Nat) : Int))) && (decide (((UInt8.toNat (x0 - (128 : UInt8)) : Nat) : Int) < (List.length ([(8364 : Int), (65533 : Int), (8218 : Int), (402 : Int), (8222 : Int), (8230 : Int), (8224 : Int), (8225 : Int), (710 : Int), (8240 : Int), (352 : Int), (8249 : Int), (338 : Int), (65533 : Int), (381 : Int), (65533 : Int), (65533 : Int), (8216 : Int), (8217 : Int), (8220 : Int), (8221 : Int), (8226 : Int), (8211 : Int), (8212 : Int), (732 : Int), (8482 : Int), (353 : Int), (8250 : Int), (339 : Int), (65533 : Int), (382 : Int), (376 : Int)] : List Int) : Nat)))) then
        ref10_Sign_ret (List.getD ([(8364 : Int), (65533 : Int), (8218 : Int), (402 : Int), (8222 : Int), (8230 : Int), (8224 : Int), (8225 : Int), (710 : Int), (8240 : Int), (352 : Int), (8249 : Int), (338 : Int), (65533 : Int), (381 : Int), (65533 : Int), (65533 : Int), (8216 : Int), (8217 : Int), (8220 : Int), (8221 : Int), (8226 : Int), (8211 : Int), (8212 : Int), (732 : Int), (8482 : Int), (353 : Int), (8250 : Int), (339 : Int), (65533 : Int), (382 : Int), (376 : Int)] : List Int) (Int.toNat ((UInt8.toNat (x0 - (128 : UInt8)) : Nat) : Int)) (0 : Int))
      else none

/-! sheave/sheaveref01.Is -/

def ref01_Is_ret (s4 : Bool) : Option AV := some (.dat .bool s4 none)
def ref01_Is_sh (_n : Nat) (c0 : UInt8) (kinds1 : Int) : Option AV :=
  ref01_Is_ret ((bits .and .i64 (ref01_Kinds c0) kinds1) != (0 : Int))

/-! sheave/sheaveref02.Put -/

def ref02_Put_ret (s6 : List UInt8) : Option AV := some (.dat (.sl .byte) s6 (some (6, 5)))
def ref02_Put_sh (_n : Nat) (b0 : List UInt8) (sign1 : UInt8) (c2 : UInt8) : Option AV :=
  bif (decide (List.length ([] : List UInt8) + List.length b0 ≤ room)) then
    bif ((ref02_Digit_ok (IntKind.wrap .i64 (Int.tdiv (IntKind.wrap .i64 ((UInt8.toNat c2 : Nat) : Int)) (16 : Int)))) && true) then
      bif ((ref02_Digit_ok (Int.tmod (IntKind.wrap .i64 ((UInt8.toNat c2 : Nat) : Int)) (16 : Int))) && true) then
        bif (decide (List.length (([] : List UInt8) ++ b0) + List.length ([sign1, (ref02_Digit (IntKind.wrap .i64 (Int.tdiv (IntKind.wrap .i64 ((UInt8.toNat c2 : Nat) : Int)) (16 : Int)))), (ref02_Digit (Int.tmod (IntKind.wrap .i64 ((UInt8.toNat c2 : Nat) : Int)) (16 : Int)))] : List UInt8) ≤ room)) then
          ref02_Put_ret ((([] : List UInt8) ++ b0) ++ ([sign1, (ref02_Digit (IntKind.wrap .i64 (Int.tdiv (IntKind.wrap .i64 ((UInt8.toNat c2 : Nat) : Int)) (16 : Int)))), (ref02_Digit (Int.tmod (IntKind.wrap .i64 ((UInt8.toNat c2 : Nat) : Int)) (16 : Int)))] : List UInt8))
        else none
      else none
    else none
  else none

/-! sheave/reper.Lacks -/

def reper_Lacks_ret (s4 : Int) : Option AV := some (.dat (.int .i64) s4 none)
def reper_Lacks_l2_b (ret : Int → Option AV) (k0 : Option AV) (next : Int → List Int → Int → Int → Option AV) (_n : Nat) (charset0 : Int) (s7 : List Int) (s8 : Int) (s9 : Int) : Option AV :=
  bif (decide (s9 < s8)) then
    bif ((decide ((0 : Int) ≤ s9)) && (decide (s9 < (List.length s7 : Nat)))) then
      bif (!(reper_Has charset0 (List.getD s7 (Int.toNat s9) (0 : Int)))) then
        ret s9
      else
        next charset0 s7 s8 (IntKind.wrap .i64 (s9 + (1 : Int)))
    else none
  else
    k0
def reper_Lacks_l2 (ret : Int → Option AV) (k0 : Option AV) : Nat → Int → List Int → Int → Int → Option AV
  | 0 => fun _ _ _ _ => none
  | n + 1 => reper_Lacks_l2_b ret k0 (reper_Lacks_l2 ret k0 n) n
def reper_Lacks_k2_0 (_n : Nat) : Option AV :=
  reper_Lacks_ret (-1 : Int)
def reper_Lacks_sh (n : Nat) (charset0 : Int) (t1 : List Int) : Option AV :=
  reper_Lacks_l2 reper_Lacks_ret (reper_Lacks_k2_0 n) n charset0 t1 ((List.length t1 : Nat) : Int) (0 : Int)

/-! sheave/utfone.Len -/

def utfone_Len_ret (s2 : Int) : Option AV := some (.dat (.int .i64) s2 none)
def utfone_Len_sh (_n : Nat) (c0 : Int) : Option AV :=
  bif (!(scalar_Is c0)) then
    utfone_Len_ret (0 : Int)
  else
    bif (decide (c0 < (128 : Int))) then
      utfone_Len_ret (1 : Int)
    else
      bif (decide (c0 < (2048 : Int))) then
        utfone_Len_ret (2 : Int)
      else
        bif (decide (c0 < (65536 : Int))) then
          utfone_Len_ret (3 : Int)
        else
          utfone_Len_ret (4 : Int)

/-! sheave/utfone.lead -/

def utfone_lead_ret (s2 : UInt8) : Option AV := some (.dat .byte s2 none)
def utfone_lead_sh (_n : Nat) (n0 : Int) : Option AV :=
  bif (n0 == (2 : Int)) then
    utfone_lead_ret (192 : UInt8)
  else
    bif (n0 == (3 : Int)) then
      utfone_lead_ret (224 : UInt8)
    else
      bif (n0 == (4 : Int)) then
        utfone_lead_ret (240 : UInt8)
      else
        utfone_lead_ret (0 : UInt8)

/-! sheave/utfone.Put -/

def utfone_Put_ret (s4 : List UInt8) (s5 : Int) : Option AV := some (.tup [(.dat (.sl .byte) s4 none), (.dat (.int .i64) s5 none)])
def utfone_Put_sh (_n : Nat) (b0 : List UInt8) (c1 : Int) : Option AV :=
  bif ((utfone_Len c1) == (0 : Int)) then
    utfone_Put_ret ([] : List UInt8) (7 : Int)
  else
    bif (decide ((0 : Int) ≤ (IntKind.wrap .i64 ((6 : Int) * (IntKind.wrap .i64 ((utfone_Len c1) - (1 : Int))))))) then
      bif ((bytes_Clone_ok b0) && true) then
        bif (decide (List.length (bytes_Clone b0) + List.length ([((utfone_lead (utfone_Len c1)) ||| (UInt8.ofNat (Int.toNat (IntKind.wrap .u8 (Int.fdiv c1 (2 ^ (min (Int.toNat (IntKind.wrap .i64 ((6 : Int) * (IntKind.wrap .i64 ((utfone_Len c1) - (1 : Int)))))) (IntKind.bits .i32))))))))] : List UInt8) ≤ room)) then
          bif ((utfone_Len c1) == (4 : Int)) then
            bif (decide (List.length ((bytes_Clone b0) ++ ([((utfone_lead (utfone_Len c1)) ||| (UInt8.ofNat (Int.toNat (IntKind.wrap .u8 (Int.fdiv c1 (2 ^ (min (Int.toNat (IntKind.wrap .i64 ((6 : Int) * (IntKind.wrap .i64 ((utfone_Len c1) - (1 : Int)))))) (IntKind.bits .i32))))))))] : List UInt8)) + List.length ([((128 : UInt8) ||| ((UInt8.ofNat (Int.toNat (IntKind.wrap .u8 (Int.fdiv c1 (2 ^ (min (Int.toNat (12 : Int)) (IntKind.bits .i32))))))) &&& (63 : UInt8)))] : List UInt8) ≤ room)) then
              bif (decide (List.length (((bytes_Clone b0) ++ ([((utfone_lead (utfone_Len c1)) ||| (UInt8.ofNat (Int.toNat (IntKind.wrap .u8 (Int.fdiv c1 (2 ^ (min (Int.toNat (IntKind.wrap .i64 ((6 : Int) * (IntKind.wrap .i64 ((utfone_Len c1) - (1 : Int)))))) (IntKind.bits .i32))))))))] : List UInt8)) ++ ([((128 : UInt8) ||| ((UInt8.ofNat (Int.toNat (IntKind.wrap .u8 (Int.fdiv c1 (2 ^ (min (Int.toNat (12 : Int)) (IntKind.bits .i32))))))) &&& (63 : UInt8)))] : List UInt8)) + List.length ([((128 : UInt8) ||| ((UInt8.ofNat (Int.toNat (IntKind.wrap .u8 (Int.fdiv c1 (2 ^ (min (Int.toNat (6 : Int)) (IntKind.bits .i32))))))) &&& (63 : UInt8)))] : List UInt8) ≤ room)) then
                bif (decide (List.length ((((bytes_Clone b0) ++ ([((utfone_lead (utfone_Len c1)) ||| (UInt8.ofNat (Int.toNat (IntKind.wrap .u8 (Int.fdiv c1 (2 ^ (min (Int.toNat (IntKind.wrap .i64 ((6 : Int) * (IntKind.wrap .i64 ((utfone_Len c1) - (1 : Int)))))) (IntKind.bits .i32))))))))] : List UInt8)) ++ ([((128 : UInt8) ||| ((UInt8.ofNat (Int.toNat (IntKind.wrap .u8 (Int.fdiv c1 (2 ^ (min (Int.toNat (12 : Int)) (IntKind.bits .i32))))))) &&& (63 : UInt8)))] : List UInt8)) ++ ([((128 : UInt8) ||| ((UInt8.ofNat (Int.toNat (IntKind.wrap .u8 (Int.fdiv c1 (2 ^ (min (Int.toNat (6 : Int)) (IntKind.bits .i32))))))) &&& (63 : UInt8)))] : List UInt8)) + List.length ([((128 : UInt8) ||| ((UInt8.ofNat (Int.toNat (IntKind.wrap .u8 c1))) &&& (63 : UInt8)))] : List UInt8) ≤ room)) then
                  utfone_Put_ret (((((bytes_Clone b0) ++ ([((utfone_lead (utfone_Len c1)) ||| (UInt8.ofNat (Int.toNat (IntKind.wrap .u8 (Int.fdiv c1 (2 ^ (min (Int.toNat (IntKind.wrap .i64 ((6 : Int) * (IntKind.wrap .i64 ((utfone_Len c1) - (1 : Int)))))) (IntKind.bits .i32))))))))] : List UInt8)) ++ ([((128 : UInt8) ||| ((UInt8.ofNat (Int.toNat (IntKind.wrap .u8 (Int.fdiv c1 (2 ^ (min (Int.toNat (12 : Int)) (IntKind.bits .i32))))))) &&& (63 : UInt8)))] : List UInt8)) ++ ([((128 : UInt8) ||| ((UInt8.ofNat (Int.toNat (IntKind.wrap .u8 (Int.fdiv c1 (2 ^ (min (Int.toNat (6 : Int)) (IntKind.bits .i32))))))) &&& (63 : UInt8)))] : List UInt8)) ++ ([((128 : UInt8) ||| ((UInt8.ofNat (Int.toNat (IntKind.wrap .u8 c1))) &&& (63 : UInt8)))] : List UInt8)) (0 : Int)
                else none
              else none
            else none
          else
            bif ((utfone_Len c1) == (3 : Int)) then
              bif (decide (List.length ((bytes_Clone b0) ++ ([((utfone_lead (utfone_Len c1)) ||| (UInt8.ofNat (Int.toNat (IntKind.wrap .u8 (Int.fdiv c1 (2 ^ (min (Int.toNat (IntKind.wrap .i64 ((6 : Int) * (IntKind.wrap .i64 ((utfone_Len c1) - (1 : Int)))))) (IntKind.bits .i32))))))))] : List UInt8)) + List.length ([((128 : UInt8) ||| ((UInt8.ofNat (Int.toNat (IntKind.wrap .u8 (Int.fdiv c1 (2 ^ (min (Int.toNat (6 : Int)) (IntKind.bits .i32))))))) &&& (63 : UInt8)))] : List UInt8) ≤ room)) then
                bif (decide (List.length (((bytes_Clone b0) ++ ([((utfone_lead (utfone_Len c1)) ||| (UInt8.ofNat (Int.toNat (IntKind.wrap .u8 (Int.fdiv c1 (2 ^ (min (Int.toNat (IntKind.wrap .i64 ((6 : Int) * (IntKind.wrap .i64 ((utfone_Len c1) - (1 : Int)))))) (IntKind.bits .i32))))))))] : List UInt8)) ++ ([((128 : UInt8) ||| ((UInt8.ofNat (Int.toNat (IntKind.wrap .u8 (Int.fdiv c1 (2 ^ (min (Int.toNat (6 : Int)) (IntKind.bits .i32))))))) &&& (63 : UInt8)))] : List UInt8)) + List.length ([((128 : UInt8) ||| ((UInt8.ofNat (Int.toNat (IntKind.wrap .u8 c1))) &&& (63 : UInt8)))] : List UInt8) ≤ room)) then
                  utfone_Put_ret ((((bytes_Clone b0) ++ ([((utfone_lead (utfone_Len c1)) ||| (UInt8.ofNat (Int.toNat (IntKind.wrap .u8 (Int.fdiv c1 (2 ^ (min (Int.toNat (IntKind.wrap .i64 ((6 : Int) * (IntKind.wrap .i64 ((utfone_Len c1) - (1 : Int)))))) (IntKind.bits .i32))))))))] : List UInt8)) ++ ([((128 : UInt8) ||| ((UInt8.ofNat (Int.toNat (IntKind.wrap .u8 (Int.fdiv c1 (2 ^ (min (Int.toNat (6 : Int)) (IntKind.bits .i32))))))) &&& (63 : UInt8)))] : List UInt8)) ++ ([((128 : UInt8) ||| ((UInt8.ofNat (Int.toNat (IntKind.wrap .u8 c1))) &&& (63 : UInt8)))] : List UInt8)) (0 : Int)
                else none
              else none
            else
              bif ((utfone_Len c1) == (2 : Int)) then
                bif (decide (List.length ((bytes_Clone b0) ++ ([((utfone_lead (utfone_Len c1)) ||| (UInt8.ofNat (Int.toNat (IntKind.wrap .u8 (Int.fdiv c1 (2 ^ (min (Int.toNat (IntKind.wrap .i64 ((6 : Int) * (IntKind.wrap .i64 ((utfone_Len c1) - (1 : Int)))))) (IntKind.bits .i32))))))))] : List UInt8)) + List.length ([((128 : UInt8) ||| ((UInt8.ofNat (Int.toNat (IntKind.wrap .u8 c1))) &&& (63 : UInt8)))] : List UInt8) ≤ room)) then
                  utfone_Put_ret (((bytes_Clone b0) ++ ([((utfone_lead (utfone_Len c1)) ||| (UInt8.ofNat (Int.toNat (IntKind.wrap .u8 (Int.fdiv c1 (2 ^ (min (Int.toNat (IntKind.wrap .i64 ((6 : Int) * (IntKind.wrap .i64 ((utfone_Len c1) - (1 : Int)))))) (IntKind.bits .i32))))))))] : List UInt8)) ++ ([((128 : UInt8) ||| ((UInt8.ofNat (Int.toNat (IntKind.wrap .u8 c1))) &&& (63 : UInt8)))] : List UInt8)) (0 : Int)
                else none
              else
                utfone_Put_ret ((bytes_Clone b0) ++ ([((utfone_lead (utfone_Len c1)) ||| (UInt8.ofNat (Int.toNat (IntKind.wrap .u8 (Int.fdiv c1 (2 ^ (min (Int.toNat (IntKind.wrap .i64 ((6 : Int) * (IntKind.wrap .i64 ((utfone_Len c1) - (1 : Int)))))) (IntKind.bits .i32))))))))] : List UInt8)) (0 : Int)
        else none
      else none
    else none

/-! sheave/latnine.others -/

def latnine_others_ret (s0 : List (UInt8 × (Int × Unit))) : Option AV := some (.dat (.arr 8 (.pair .byte (.pair (.int .i32) .unit))) s0 none)
def latnine_others_sh (_n : Nat) : Option AV :=
  latnine_others_ret ([((164 : UInt8), ((8364 : Int), ())), ((166 : UInt8), ((352 : Int), ())), ((168 : UInt8), ((353 : Int), ())), ((180 : UInt8), ((381 : Int), ())), ((184 : UInt8), ((382 : Int), ())), ((188 : UInt8), ((338 : Int), ())), ((189 : UInt8), ((339 : Int), ())), ((190 : UInt8), ((376 : Int), ()))] : List (UInt8 × (Int × Unit)))

/-! sheave/latnine.Put -/

def latnine_Put_ret (s2 : UInt8) (s3 : Bool) : Option AV := some (.tup [(.dat .byte s2 none), (.dat .bool s3 none)])
def latnine_Put_l2_b (ret : UInt8 → Bool → Option AV) (k0 : Int → Option AV) (next : Int → List (UInt8 × (Int × Unit)) → Int → Option AV) (_n : Nat) (c0 : Int) (s6 : List (UInt8 × (Int × Unit))) (s7 : Int) : Option AV :=
  bif (decide (s7 < (8 : Int))) then
    bif ((decide ((0 : Int) ≤ s7)) && (decide (s7 < (8 : Nat)))) then
      bif (c0 == (List.getD s6 (Int.toNat s7) ((0 : UInt8), ((0 : Int), ()))).2.1) then
        ret (List.getD s6 (Int.toNat s7) ((0 : UInt8), ((0 : Int), ()))).1 true
      else
        bif (c0 == (IntKind.wrap .i32 ((UInt8.toNat (List.getD s6 (Int.toNat s7) ((0 : UInt8), ((0 : Int), ()))).1 : Nat) : Int))) then
          ret (0 : UInt8) false
        else
          next c0 s6 (IntKind.wrap .i64 (s7 + (1 : Int)))
    else none
  else
    k0 c0
def latnine_Put_l2 (ret : UInt8 → Bool → Option AV) (k0 : Int → Option AV) : Nat → Int → List (UInt8 × (Int × Unit)) → Int → Option AV
  | 0 => fun _ _ _ => none
  | n + 1 => latnine_Put_l2_b ret k0 (latnine_Put_l2 ret k0 n) n
def latnine_Put_k2_0 (_n : Nat) (c0 : Int) : Option AV :=
  bif (decide (c0 < (0 : Int))) then
    latnine_Put_ret (0 : UInt8) false
  else
    bif (decide ((256 : Int) ≤ c0)) then
      latnine_Put_ret (0 : UInt8) false
    else
      latnine_Put_ret (UInt8.ofNat (Int.toNat (IntKind.wrap .u8 c0))) true
def latnine_Put_sh (n : Nat) (c0 : Int) : Option AV :=
  latnine_Put_l2 latnine_Put_ret (latnine_Put_k2_0 n) n c0 latnine_others (0 : Int)

/-! sheave/latnine.Has -/

def latnine_Has_ret (s2 : Bool) : Option AV := some (.dat .bool s2 none)
def latnine_Has_sh (_n : Nat) (c0 : Int) : Option AV :=
  latnine_Has_ret ((latnine_Put c0).2)

/-! sheave/winone.others -/

def winone_others_ret (s0 : List Int) : Option AV := some (.dat (.sl (.int .i32)) s0 none)
def winone_others_sh (_n : Nat) : Option AV :=
  winone_others_ret (List.drop 0 (List.take 32 ([(8364 : Int), (0 : Int), (8218 : Int), (402 : Int), (8222 : Int), (8230 : Int), (8224 : Int), (8225 : Int), (710 : Int), (8240 : Int), (352 : Int), (8249 : Int), (338 : Int), (0 : Int), (381 : Int), (0 : Int), (0 : Int), (8216 : Int), (8217 : Int), (8220 : Int), (8221 : Int), (8226 : Int), (8211 : Int), (8212 : Int), (732 : Int), (8482 : Int), (353 : Int), (8250 : Int), (339 : Int), (0 : Int), (382 : Int), (376 : Int)] : List Int)))

/-! sheave/winone.Put -/

def winone_Put_ret (s2 : UInt8) (s3 : Bool) : Option AV := some (.tup [(.dat .byte s2 none), (.dat .bool s3 none)])
def winone_Put_sh (_n : Nat) (c0 : Int) : Option AV :=
  bif (decide ((0 : Int) ≤ c0)) then
    bif (decide (c0 < (128 : Int))) then
      bif (decide (c0 < (128 : Int))) then
        winone_Put_ret (UInt8.ofNat (Int.toNat (IntKind.wrap .u8 c0))) true
      else
        bif (decide (c0 < (256 : Int))) then
          winone_Put_ret (0 : UInt8) false
        else
          bif ((slices_Index___rune_rune__ok winone_others c0) && true) then
            bif (decide ((slices_Index___rune_rune_ winone_others c0) < (0 : Int))) then
              winone_Put_ret (0 : UInt8) false
            else
              winone_Put_ret (UInt8.ofNat (Int.toNat (IntKind.wrap .u8 (IntKind.wrap .i64 ((128 : Int) + (slices_Index___rune_rune_ winone_others c0)))))) true
          else none
    else
      bif (decide ((160 : Int) ≤ c0)) then
        bif (decide (c0 < (256 : Int))) then
          winone_Put_ret (UInt8.ofNat (Int.toNat (IntKind.wrap .u8 c0))) true
        else
          bif (decide (c0 < (256 : Int))) then
            winone_Put_ret (0 : UInt8) false
          else
            bif ((slices_Index___rune_rune__ok winone_others c0) && true) then
              bif (decide ((slices_Index___rune_rune_ winone_others c0) < (0 : Int))) then
                winone_Put_ret (0 : UInt8) false
              else
                winone_Put_ret (UInt8.ofNat (Int.toNat (IntKind.wrap .u8 (IntKind.wrap .i64 ((128 : Int) + (slices_Index___rune_rune_ winone_others c0)))))) true
            else none
      else
        bif (decide (c0 < (256 : Int))) then
          winone_Put_ret (0 : UInt8) false
        else
          bif ((slices_Index___rune_rune__ok winone_others c0) && true) then
            bif (decide ((slices_Index___rune_rune_ winone_others c0) < (0 : Int))) then
              winone_Put_ret (0 : UInt8) false
            else
              winone_Put_ret (UInt8.ofNat (Int.toNat (IntKind.wrap .u8 (IntKind.wrap .i64 ((128 : Int) + (slices_Index___rune_rune_ winone_others c0)))))) true
          else none
  else
    bif (decide ((160 : Int) ≤ c0)) then
      bif (decide (c0 < (256 : Int))) then
        winone_Put_ret (UInt8.ofNat (Int.toNat (IntKind.wrap .u8 c0))) true
      else
        bif (decide (c0 < (256 : Int))) then
          winone_Put_ret (0 : UInt8) false
        else
          bif ((slices_Index___rune_rune__ok winone_others c0) && true) then
            bif (decide ((slices_Index___rune_rune_ winone_others c0) < (0 : Int))) then
              winone_Put_ret (0 : UInt8) false
            else
              winone_Put_ret (UInt8.ofNat (Int.toNat (IntKind.wrap .u8 (IntKind.wrap .i64 ((128 : Int) + (slices_Index___rune_rune_ winone_others c0)))))) true
          else none
    else
      bif (decide (c0 < (256 : Int))) then
        winone_Put_ret (0 : UInt8) false
      else
        bif ((slices_Index___rune_rune__ok winone_others c0) && true) then
          bif (decide ((slices_Index___rune_rune_ winone_others c0) < (0 : Int))) then
            winone_Put_ret (0 : UInt8) false
          else
            winone_Put_ret (UInt8.ofNat (Int.toNat (IntKind.wrap .u8 (IntKind.wrap .i64 ((128 : Int) + (slices_Index___rune_rune_ winone_others c0)))))) true
        else none

/-! sheave/winone.Has -/

def winone_Has_ret (s2 : Bool) : Option AV := some (.dat .bool s2 none)
def winone_Has_sh (_n : Nat) (c0 : Int) : Option AV :=
  winone_Has_ret ((winone_Put c0).2)

/-! sheave/winone.Lacks -/

def winone_Lacks_ret (s2 : Int) : Option AV := some (.dat (.int .i64) s2 none)
def winone_Lacks_l2_b (ret : Int → Option AV) (k0 : Option AV) (next : List Int → Int → Int → Option AV) (_n : Nat) (s5 : List Int) (s6 : Int) (s7 : Int) : Option AV :=
  bif (decide (s7 < s6)) then
    bif ((decide ((0 : Int) ≤ s7)) && (decide (s7 < (List.length s5 : Nat)))) then
      bif (!(winone_Has (List.getD s5 (Int.toNat s7) (0 : Int)))) then
        ret s7
      else
        next s5 s6 (IntKind.wrap .i64 (s7 + (1 : Int)))
    else none
  else
    k0
def winone_Lacks_l2 (ret : Int → Option AV) (k0 : Option AV) : Nat → List Int → Int → Int → Option AV
  | 0 => fun _ _ _ => none
  | n + 1 => winone_Lacks_l2_b ret k0 (winone_Lacks_l2 ret k0 n) n
def winone_Lacks_k2_0 (_n : Nat) : Option AV :=
  winone_Lacks_ret (-1 : Int)
def winone_Lacks_sh (n : Nat) (t0 : List Int) : Option AV :=
  winone_Lacks_l2 winone_Lacks_ret (winone_Lacks_k2_0 n) n t0 ((List.length t0 : Nat) : Int) (0 : Int)

/-! sheave/latin.Has -/

def latin_Has_ret (s2 : Bool) : Option AV := some (.dat .bool s2 none)
def latin_Has_sh (_n : Nat) (c0 : Int) : Option AV :=
  latin_Has_ret (decide ((IntKind.wrap .u32 c0) < (256 : Int)))

/-! sheave/latin.Lacks -/

def latin_Lacks_ret (s2 : Int) : Option AV := some (.dat (.int .i64) s2 none)
def latin_Lacks_l2_b (ret : Int → Option AV) (k0 : Option AV) (next : List Int → Int → Int → Option AV) (_n : Nat) (t0 : List Int) (s5 : Int) (s6 : Int) : Option AV :=
  bif (decide (s6 < s5)) then
    bif ((decide ((0 : Int) ≤ s6)) && (decide (s6 < (List.length t0 : Nat)))) then
      bif (!(latin_Has (List.getD t0 (Int.toNat s6) (0 : Int)))) then
        ret s6
      else
        next t0 s5 (IntKind.wrap .i64 (s6 + (1 : Int)))
    else none
  else
    k0
def latin_Lacks_l2 (ret : Int → Option AV) (k0 : Option AV) : Nat → List Int → Int → Int → Option AV
  | 0 => fun _ _ _ => none
  | n + 1 => latin_Lacks_l2_b ret k0 (latin_Lacks_l2 ret k0 n) n
def latin_Lacks_k2_0 (_n : Nat) : Option AV :=
  latin_Lacks_ret (-1 : Int)
def latin_Lacks_sh (n : Nat) (t0 : List Int) : Option AV :=
  latin_Lacks_l2 latin_Lacks_ret (latin_Lacks_k2_0 n) n t0 ((List.length t0 : Nat) : Int) (0 : Int)

/-! sheave/latin.Lay -/

def latin_Lay_ret (s2 : List UInt8) (s3 : Int) : Option AV := some (.tup [(.dat (.sl .byte) s2 none), (.dat (.int .i64) s3 none)])
def latin_Lay_l5_b (k0 : List UInt8 → Option AV) (next : List UInt8 → List Int → Int → Int → Option AV) (_n : Nat) (s4 : List UInt8) (s13 : List Int) (s14 : Int) (s15 : Int) : Option AV :=
  bif (decide (s15 < s14)) then
    bif ((decide ((0 : Int) ≤ s15)) && (decide (s15 < (List.length s13 : Nat)))) then
      bif ((decide ((0 : Int) ≤ s15)) && (decide (s15 < (List.length s4 : Nat)))) then
        next (List.set s4 (Int.toNat s15) (UInt8.ofNat (Int.toNat (IntKind.wrap .u8 (List.getD s13 (Int.toNat s15) (0 : Int)))))) s13 s14 (IntKind.wrap .i64 (s15 + (1 : Int)))
      else none
    else none
  else
    k0 s4
def latin_Lay_l5 (k0 : List UInt8 → Option AV) : Nat → List UInt8 → List Int → Int → Int → Option AV
  | 0 => fun _ _ _ _ => none
  | n + 1 => latin_Lay_l5_b k0 (latin_Lay_l5 k0 n) n
def latin_Lay_k5_0 (_n : Nat) (s4 : List UInt8) : Option AV :=
  latin_Lay_ret s4 (0 : Int)
def latin_Lay_sh (n : Nat) (t0 : List Int) : Option AV :=
  bif ((latin_Lacks_ok t0) && true) then
    bif ((latin_Lacks t0) != (-1 : Int)) then
      latin_Lay_ret ([] : List UInt8) (9 : Int)
    else
      bif (((decide ((0 : Int) ≤ ((List.length t0 : Nat) : Int))) && (decide (((List.length t0 : Nat) : Int) ≤ ((List.length t0 : Nat) : Int)))) && (decide (((List.length t0 : Nat) : Int) ≤ (room : Int)))) then
        latin_Lay_l5 (latin_Lay_k5_0 n) n (List.replicate (Int.toNat ((List.length t0 : Nat) : Int)) (0 : UInt8)) t0 ((List.length t0 : Nat) : Int) (0 : Int)
      else none
  else none

/-! sheave/latnine.Lay -/

def latnine_Lay_ret (s2 : List UInt8) (s3 : Int) : Option AV := some (.tup [(.dat (.sl .byte) s2 none), (.dat (.int .i64) s3 none)])
def latnine_Lay_l3_b (ret : List UInt8 → Int → Option AV) (k0 : List UInt8 → Option AV) (next : List UInt8 → List Int → Int → Int → Option AV) (_n : Nat) (s4 : List UInt8) (s9 : List Int) (s10 : Int) (s11 : Int) : Option AV :=
  bif (decide (s11 < s10)) then
    bif ((decide ((0 : Int) ≤ s11)) && (decide (s11 < (List.length s9 : Nat)))) then
      bif (!((latnine_Put (List.getD s9 (Int.toNat s11) (0 : Int))).2)) then
        ret ([] : List UInt8) (9 : Int)
      else
        bif (decide (List.length s4 + List.length ([((latnine_Put (List.getD s9 (Int.toNat s11) (0 : Int))).1)] : List UInt8) ≤ room)) then
          next (s4 ++ ([((latnine_Put (List.getD s9 (Int.toNat s11) (0 : Int))).1)] : List UInt8)) s9 s10 (IntKind.wrap .i64 (s11 + (1 : Int)))
        else none
    else none
  else
    k0 s4
def latnine_Lay_l3 (ret : List UInt8 → Int → Option AV) (k0 : List UInt8 → Option AV) : Nat → List UInt8 → List Int → Int → Int → Option AV
  | 0 => fun _ _ _ _ => none
  | n + 1 => latnine_Lay_l3_b ret k0 (latnine_Lay_l3 ret k0 n) n
def latnine_Lay_k3_0 (_n : Nat) (s4 : List UInt8) : Option AV :=
  latnine_Lay_ret s4 (0 : Int)
def latnine_Lay_sh (n : Nat) (t0 : List Int) : Option AV :=
  latnine_Lay_l3 latnine_Lay_ret (latnine_Lay_k3_0 n) n ([] : List UInt8) t0 ((List.length t0 : Nat) : Int) (0 : Int)

/-! sheave/winone.Lay -/

def winone_Lay_ret (s2 : List UInt8) (s3 : Int) : Option AV := some (.tup [(.dat (.sl .byte) s2 none), (.dat (.int .i64) s3 none)])
def winone_Lay_l5_b (k0 : List UInt8 → Option AV) (next : List UInt8 → List Int → Int → Int → Option AV) (_n : Nat) (s4 : List UInt8) (s15 : List Int) (s16 : Int) (s17 : Int) : Option AV :=
  bif (decide (s17 < s16)) then
    bif ((decide ((0 : Int) ≤ s17)) && (decide (s17 < (List.length s15 : Nat)))) then
      bif (decide (List.length s4 + List.length ([((winone_Put (List.getD s15 (Int.toNat s17) (0 : Int))).1)] : List UInt8) ≤ room)) then
        next (s4 ++ ([((winone_Put (List.getD s15 (Int.toNat s17) (0 : Int))).1)] : List UInt8)) s15 s16 (IntKind.wrap .i64 (s17 + (1 : Int)))
      else none
    else none
  else
    k0 s4
def winone_Lay_l5 (k0 : List UInt8 → Option AV) : Nat → List UInt8 → List Int → Int → Int → Option AV
  | 0 => fun _ _ _ _ => none
  | n + 1 => winone_Lay_l5_b k0 (winone_Lay_l5 k0 n) n
def winone_Lay_k5_0 (_n : Nat) (s4 : List UInt8) : Option AV :=
  winone_Lay_ret s4 (0 : Int)
def winone_Lay_sh (n : Nat) (t0 : List Int) : Option AV :=
  bif ((winone_Lacks_ok t0) && true) then
    bif (decide ((0 : Int) ≤ (winone_Lacks t0))) then
      winone_Lay_ret ([] : List UInt8) (9 : Int)
    else
      bif (((decide ((0 : Int) ≤ (0 : Int))) && (decide ((0 : Int) ≤ ((List.length t0 : Nat) : Int)))) && (decide (((List.length t0 : Nat) : Int) ≤ (room : Int)))) then
        winone_Lay_l5 (winone_Lay_k5_0 n) n (List.replicate (Int.toNat (0 : Int)) (0 : UInt8)) t0 ((List.length t0 : Nat) : Int) (0 : Int)
      else none
  else none

/-! sheave/utfall.Lay -/

def utfall_Lay_ret (s2 : List UInt8) (s3 : Int) : Option AV := some (.tup [(.dat (.sl .byte) s2 none), (.dat (.int .i64) s3 none)])
def utfall_Lay_l5_b (k0 : List UInt8 → Option AV) (next : List UInt8 → List Int → Int → Int → Option AV) (_n : Nat) (out4 : List UInt8) (s12 : List Int) (s13 : Int) (s14 : Int) : Option AV :=
  bif (decide (s14 < s13)) then
    bif ((decide ((0 : Int) ≤ s14)) && (decide (s14 < (List.length s12 : Nat)))) then
      bif ((utfone_Put_ok ([] : List UInt8) (List.getD s12 (Int.toNat s14) (0 : Int))) && true) then
        bif (decide (List.length out4 + List.length ((utfone_Put ([] : List UInt8) (List.getD s12 (Int.toNat s14) (0 : Int))).1) ≤ room)) then
          next (out4 ++ ((utfone_Put ([] : List UInt8) (List.getD s12 (Int.toNat s14) (0 : Int))).1)) s12 s13 (IntKind.wrap .i64 (s14 + (1 : Int)))
        else none
      else none
    else none
  else
    k0 out4
def utfall_Lay_l5 (k0 : List UInt8 → Option AV) : Nat → List UInt8 → List Int → Int → Int → Option AV
  | 0 => fun _ _ _ _ => none
  | n + 1 => utfall_Lay_l5_b k0 (utfall_Lay_l5 k0 n) n
def utfall_Lay_k5_0 (_n : Nat) (out4 : List UInt8) : Option AV :=
  utfall_Lay_ret out4 (0 : Int)
def utfall_Lay_sh (n : Nat) (t0 : List Int) : Option AV :=
  bif ((scalar_Right_ok t0) && true) then
    bif (!(scalar_Right t0)) then
      utfall_Lay_ret ([] : List UInt8) (7 : Int)
    else
      utfall_Lay_l5 (utfall_Lay_k5_0 n) n ([] : List UInt8) t0 ((List.length t0 : Nat) : Int) (0 : Int)
  else none

/-! sheave/scalar.First$1 -/

def scalar_First_1_ret (s2 : Bool) : Option AV := some (.dat .bool s2 none)
def scalar_First_1_sh (_n : Nat) (c0 : Int) : Option AV :=
  scalar_First_1_ret (!(scalar_Is c0))

/-! slices.IndexFunc[[]rune,rune] -/

def slices_IndexFunc___rune_rune__ret (s4 : Int) : Option AV := some (.dat (.int .i64) s4 none)
def slices_IndexFunc___rune_rune__l2_b (ret : Int → Option AV) (k0 : Option AV) (next : List Int → Int → Int → Option AV) (_n : Nat) (s0 : List Int) (s7 : Int) (s8 : Int) : Option AV :=
  bif (decide (s8 < s7)) then
    bif ((decide ((0 : Int) ≤ s8)) && (decide (s8 < (List.length s0 : Nat)))) then
      bif (scalar_First_1 (List.getD s0 (Int.toNat s8) (0 : Int))) then
        ret s8
      else
        next s0 s7 (IntKind.wrap .i64 (s8 + (1 : Int)))
    else none
  else
    k0
def slices_IndexFunc___rune_rune__l2 (ret : Int → Option AV) (k0 : Option AV) : Nat → List Int → Int → Int → Option AV
  | 0 => fun _ _ _ => none
  | n + 1 => slices_IndexFunc___rune_rune__l2_b ret k0 (slices_IndexFunc___rune_rune__l2 ret k0 n) n
def slices_IndexFunc___rune_rune__k2_0 (_n : Nat) : Option AV :=
  slices_IndexFunc___rune_rune__ret (-1 : Int)
def slices_IndexFunc___rune_rune__sh (n : Nat) (s0 : List Int) : Option AV :=
  slices_IndexFunc___rune_rune__l2 slices_IndexFunc___rune_rune__ret (slices_IndexFunc___rune_rune__k2_0 n) n s0 ((List.length s0 : Nat) : Int) (0 : Int)

/-! sheave/scalar.First -/

def scalar_First_ret (s2 : Int) : Option AV := some (.dat (.int .i64) s2 none)
def scalar_First_sh (_n : Nat) (t0 : List Int) : Option AV :=
  bif ((slices_IndexFunc___rune_rune__ok t0) && true) then
    scalar_First_ret (slices_IndexFunc___rune_rune_ t0)
  else none

/-! sheave/scalar.Right -/

def scalar_Right_ret (s2 : Bool) : Option AV := some (.dat .bool s2 none)
def scalar_Right_sh (_n : Nat) (t0 : List Int) : Option AV :=
  bif ((scalar_First_ok t0) && true) then
    scalar_Right_ret ((scalar_First t0) == (-1 : Int))
  else none

/-! sheave/reper.Size -/

def reper_Size_ret (s2 : Int) : Option AV := some (.dat (.int .i64) s2 none)
def reper_Size_sh (_n : Nat) (charset0 : Int) : Option AV :=
  bif (charset0 == (1 : Int)) then
    reper_Size_ret (128 : Int)
  else
    bif (charset0 == (2 : Int)) then
      bif (charset0 == (2 : Int)) then
        reper_Size_ret (256 : Int)
      else
        bif (charset0 == (4 : Int)) then
          reper_Size_ret (251 : Int)
        else
          bif (charset0 == (5 : Int)) then
            reper_Size_ret (1112064 : Int)
          else
            reper_Size_ret (0 : Int)
    else
      bif (charset0 == (3 : Int)) then
        reper_Size_ret (256 : Int)
      else
        bif (charset0 == (4 : Int)) then
          reper_Size_ret (251 : Int)
        else
          bif (charset0 == (5 : Int)) then
            reper_Size_ret (1112064 : Int)
          else
            reper_Size_ret (0 : Int)

/-! sheave/reper.All -/

def reper_All_ret (s4 : Bool) : Option AV := some (.dat .bool s4 none)
def reper_All_sh (_n : Nat) (charset0 : Int) (t1 : List Int) : Option AV :=
  bif (decide ((0 : Int) < (reper_Size charset0))) then
    bif ((reper_Lacks_ok charset0 t1) && true) then
      reper_All_ret ((reper_Lacks charset0 t1) == (-1 : Int))
    else none
  else
    reper_All_ret false

/-! sheave/codec.Lay -/

def codec_Lay_ret (s4 : List UInt8) (s5 : Int) : Option AV := some (.tup [(.dat (.sl .byte) s4 none), (.dat (.int .i64) s5 none)])
def codec_Lay_sh (_n : Nat) (charset0 : Int) (t1 : List Int) : Option AV :=
  bif ((reper_Size charset0) == (0 : Int)) then
    codec_Lay_ret ([] : List UInt8) (10 : Int)
  else
    bif ((reper_All_ok charset0 t1) && true) then
      bif (!(reper_All charset0 t1)) then
        codec_Lay_ret ([] : List UInt8) (9 : Int)
      else
        bif (charset0 == (5 : Int)) then
          bif ((utfall_Lay_ok t1) && true) then
            codec_Lay_ret ((utfall_Lay t1).1) ((utfall_Lay t1).2)
          else none
        else
          bif (charset0 == (3 : Int)) then
            bif ((latnine_Lay_ok t1) && true) then
              codec_Lay_ret ((latnine_Lay t1).1) ((latnine_Lay t1).2)
            else none
          else
            bif (charset0 == (4 : Int)) then
              bif ((winone_Lay_ok t1) && true) then
                codec_Lay_ret ((winone_Lay t1).1) ((winone_Lay t1).2)
              else none
            else
              bif ((latin_Lay_ok t1) && true) then
                codec_Lay_ret ((latin_Lay t1).1) ((latin_Lay t1).2)
              else none
    else none

/-! sheave/qword.One -/

def qword_One_ret (s2 : Int) : Option AV := some (.dat (.int .i64) s2 none)
def qword_One_sh (_n : Nat) (c0 : UInt8) : Option AV :=
  bif (c0 == (32 : UInt8)) then
    qword_One_ret (1 : Int)
  else
    bif (octet_Is c0 (128 : Int)) then
      qword_One_ret (1 : Int)
    else
      qword_One_ret (3 : Int)

/-! sheave/bcode.Len -/

def bcode_Len_ret (s2 : Int) : Option AV := some (.dat (.int .i64) s2 none)
def bcode_Len_sh (_n : Nat) (n0 : Int) : Option AV :=
  bif (decide (n0 < (1 : Int))) then
    bcode_Len_ret (0 : Int)
  else
    bcode_Len_ret (IntKind.wrap .i64 ((IntKind.wrap .i64 ((IntKind.wrap .i64 (Int.tdiv (IntKind.wrap .i64 (n0 - (1 : Int))) (3 : Int))) * (4 : Int))) + (4 : Int)))

/-! sheave/qword.Len -/

def qword_Len_ret (s2 : Int) : Option AV := some (.dat (.int .i64) s2 none)
def qword_Len_l3_b (k0 : Int → Option AV) (next : Int → List UInt8 → Int → Int → Option AV) (_n : Nat) (n3 : Int) (s6 : List UInt8) (s7 : Int) (s8 : Int) : Option AV :=
  bif (decide (s8 < s7)) then
    bif ((decide ((0 : Int) ≤ s8)) && (decide (s8 < (List.length s6 : Nat)))) then
      next (IntKind.wrap .i64 (n3 + (qword_One (List.getD s6 (Int.toNat s8) (0 : UInt8))))) s6 s7 (IntKind.wrap .i64 (s8 + (1 : Int)))
    else none
  else
    k0 n3
def qword_Len_l3 (k0 : Int → Option AV) : Nat → Int → List UInt8 → Int → Int → Option AV
  | 0 => fun _ _ _ _ => none
  | n + 1 => qword_Len_l3_b k0 (qword_Len_l3 k0 n) n
def qword_Len_k3_0 (_n : Nat) (n3 : Int) : Option AV :=
  qword_Len_ret n3
def qword_Len_sh (n : Nat) (s0 : List UInt8) : Option AV :=
  qword_Len_l3 (qword_Len_k3_0 n) n (0 : Int) s0 ((List.length s0 : Nat) : Int) (0 : Int)

/-! (sheave/ewcost.byB).letter -/

def _ewcost_byB__letter_ret (s2 : Int) : Option AV := some (.dat (.int .i64) s2 none)
def _ewcost_byB__letter_sh (_n : Nat) (_x0 : Unit) : Option AV :=
  _ewcost_byB__letter_ret (1 : Int)

/-! (sheave/ewcost.byQ).letter -/

def _ewcost_byQ__letter_ret (s2 : Int) : Option AV := some (.dat (.int .i64) s2 none)
def _ewcost_byQ__letter_sh (_n : Nat) (_x0 : Unit) : Option AV :=
  _ewcost_byQ__letter_ret (2 : Int)

/-! sheave/ewcost.of -/

def ewcost_of_sh (_n : Nat) (code0 : Int) : Option AV :=
  bif (code0 == (_ewcost_byB__letter ())) then
    some (.iface 65 (.dat .unit () none))
  else
    bif (code0 == (_ewcost_byQ__letter ())) then
      some (.iface 66 (.dat .unit () none))
    else
      some .nilIface

/-! sheave/ewcost.measure -/

def ewcost_measure_v0_ret (s4 : Int) (s5 : Bool) : Option AV := some (.tup [(.dat (.int .i64) s4 none), (.dat .bool s5 none)])
def ewcost_measure_v0_sh (_n : Nat) (s1 : List UInt8) : Option AV :=
  ewcost_measure_v0_ret (bcode_Len ((List.length s1 : Nat) : Int)) true

/-! sheave/ewcost.measure -/

def ewcost_measure_v1_ret (s4 : Int) (s5 : Bool) : Option AV := some (.tup [(.dat (.int .i64) s4 none), (.dat .bool s5 none)])
def ewcost_measure_v1_sh (_n : Nat) (s1 : List UInt8) : Option AV :=
  bif ((qword_Len_ok s1) && true) then
    ewcost_measure_v1_ret (qword_Len s1) true
  else none

/-! sheave/ewcost.measure -/

def ewcost_measure_v2_ret (s4 : Int) (s5 : Bool) : Option AV := some (.tup [(.dat (.int .i64) s4 none), (.dat .bool s5 none)])
def ewcost_measure_v2_sh (_n : Nat) (_s1 : List UInt8) : Option AV :=
  ewcost_measure_v2_ret (0 : Int) false

/-! sheave/label.Names -/

def label_Names_ret (s2 : List (List UInt8)) : Option AV := some (.dat (.sl .str) s2 (some (2, 9)))
def label_Names_sh (_n : Nat) (charset0 : Int) : Option AV :=
  bif (charset0 == (1 : Int)) then
    label_Names_ret ([([117, 115, 45, 97, 115, 99, 105, 105] : List UInt8), ([97, 115, 99, 105, 105] : List UInt8), ([97, 110, 115, 105, 95, 120, 51, 46, 52, 45, 49, 57, 54, 56] : List UInt8), ([105, 115, 111, 54, 52, 54, 45, 117, 115] : List UInt8)] : List (List UInt8))
  else
    bif (charset0 == (2 : Int)) then
      label_Names_ret ([([105, 115, 111, 45, 56, 56, 53, 57, 45, 49] : List UInt8), ([105, 115, 111, 95, 56, 56, 53, 57, 45, 49] : List UInt8), ([108, 97, 116, 105, 110, 49] : List UInt8), ([108, 49] : List UInt8)] : List (List UInt8))
    else
      bif (charset0 == (3 : Int)) then
        label_Names_ret ([([105, 115, 111, 45, 56, 56, 53, 57, 45, 49, 53] : List UInt8), ([105, 115, 111, 95, 56, 56, 53, 57, 45, 49, 53] : List UInt8), ([108, 97, 116, 105, 110, 45, 57] : List UInt8)] : List (List UInt8))
      else
        bif (charset0 == (4 : Int)) then
          label_Names_ret ([([119, 105, 110, 100, 111, 119, 115, 45, 49, 50, 53, 50] : List UInt8), ([99, 112, 49, 50, 53, 50] : List UInt8)] : List (List UInt8))
        else
          bif (charset0 == (5 : Int)) then
            label_Names_ret ([([117, 116, 102, 45, 56] : List UInt8), ([117, 116, 102, 56] : List UInt8)] : List (List UInt8))
          else
            label_Names_ret ([] : List (List UInt8))

/-! sheave/label.Name -/

def label_Name_ret (s2 : List UInt8) : Option AV := some (.dat .str s2 none)
def label_Name_sh (_n : Nat) (charset0 : Int) : Option AV :=
  bif (((List.length (label_Names charset0) : Nat) : Int) == (0 : Int)) then
    label_Name_ret ([] : List UInt8)
  else
    bif ((decide ((0 : Int) ≤ (0 : Int))) && (decide ((0 : Int) < (List.length (label_Names charset0) : Nat)))) then
      label_Name_ret (List.getD (label_Names charset0) (Int.toNat (0 : Int)) ([] : List UInt8))
    else none

/-! sheave/label.IsCharset -/

def label_IsCharset_ret (s2 : Bool) : Option AV := some (.dat .bool s2 none)
def label_IsCharset_sh (_n : Nat) (n0 : Int) : Option AV :=
  bif (decide ((1 : Int) ≤ n0)) then
    label_IsCharset_ret (decide (n0 ≤ (5 : Int)))
  else
    label_IsCharset_ret false

/-! sheave/ewform.letter -/

def ewform_letter_ret (s2 : List UInt8) : Option AV := some (.dat .str s2 none)
def ewform_letter_sh (_n : Nat) (n0 : Int) : Option AV :=
  bif (n0 == (1 : Int)) then
    ewform_letter_ret ([66] : List UInt8)
  else
    bif (n0 == (2 : Int)) then
      ewform_letter_ret ([81] : List UInt8)
    else
      ewform_letter_ret ([] : List UInt8)

/-! sheave/ewform.frame -/

def ewform_frame_ret (s4 : List UInt8) : Option AV := some (.dat .str s4 none)
def ewform_frame_sh (_n : Nat) (charset0 : Int) (code1 : Int) : Option AV :=
  bif (decide (List.length ([61, 63] : List UInt8) + List.length (label_Name charset0) ≤ 9223372036854775807)) then
    bif (decide (List.length (([61, 63] : List UInt8) ++ (label_Name charset0)) + List.length ([63] : List UInt8) ≤ 9223372036854775807)) then
      bif (decide (List.length ((([61, 63] : List UInt8) ++ (label_Name charset0)) ++ ([63] : List UInt8)) + List.length (ewform_letter code1) ≤ 9223372036854775807)) then
        bif (decide (List.length (((([61, 63] : List UInt8) ++ (label_Name charset0)) ++ ([63] : List UInt8)) ++ (ewform_letter code1)) + List.length ([63] : List UInt8) ≤ 9223372036854775807)) then
          ewform_frame_ret ((((([61, 63] : List UInt8) ++ (label_Name charset0)) ++ ([63] : List UInt8)) ++ (ewform_letter code1)) ++ ([63] : List UInt8))
        else none
      else none
    else none
  else none

/-! sheave/ewform.Over -/

def ewform_Over_ret (s2 : Int) : Option AV := some (.dat (.int .i64) s2 none)
def ewform_Over_sh (_n : Nat) (charset0 : Int) : Option AV :=
  bif (!(label_IsCharset charset0)) then
    ewform_Over_ret (0 : Int)
  else
    ewform_Over_ret (IntKind.wrap .i64 ((IntKind.wrap .i64 (((List.length (ewform_frame charset0 (2 : Int)) : Nat) : Int) + (1 : Int))) + (1 : Int)))

/-! sheave/ewcost.text -/

def ewcost_text_ret (s6 : Int) (s7 : Int) : Option AV := some (.tup [(.dat (.int .i64) s6 none), (.dat (.int .i64) s7 none)])
def ewcost_text_sh (_n : Nat) (charset0 : Int) (code1 : Int) (t2 : List Int) : Option AV :=
  bif ((codec_Lay_ok charset0 t2) && true) then
    bif (((codec_Lay charset0 t2).2) == (10 : Int)) then
      ewcost_text_ret (0 : Int) ((codec_Lay charset0 t2).2)
    else
      bif (code1 == (1 : Int)) then
        bif ((ewcost_measure_ok ((codec_Lay charset0 t2).1)) && true) then
          bif (!true) then
            ewcost_text_ret (0 : Int) (3 : Int)
          else
            bif (((codec_Lay charset0 t2).2) != (0 : Int)) then
              ewcost_text_ret (0 : Int) ((codec_Lay charset0 t2).2)
            else
              ewcost_text_ret (bcode_Len ((List.length ((codec_Lay charset0 t2).1) : Nat) : Int)) (0 : Int)
        else none
      else
        bif (code1 == (2 : Int)) then
          bif ((ewcost_measure_ok ((codec_Lay charset0 t2).1)) && true) then
            bif (!true) then
              ewcost_text_ret (0 : Int) (3 : Int)
            else
              bif (((codec_Lay charset0 t2).2) != (0 : Int)) then
                ewcost_text_ret (0 : Int) ((codec_Lay charset0 t2).2)
              else
                ewcost_text_ret (qword_Len ((codec_Lay charset0 t2).1)) (0 : Int)
          else none
        else
          bif (!false) then
            ewcost_text_ret (0 : Int) (3 : Int)
          else
            bif (((codec_Lay charset0 t2).2) != (0 : Int)) then
              ewcost_text_ret (0 : Int) ((codec_Lay charset0 t2).2)
            else
              ewcost_text_ret (0 : Int) (0 : Int)
  else none

/-! sheave/ewcost.Len -/

def ewcost_Len_ret (s6 : Int) (s7 : Int) : Option AV := some (.tup [(.dat (.int .i64) s6 none), (.dat (.int .i64) s7 none)])
def ewcost_Len_sh (_n : Nat) (charset0 : Int) (code1 : Int) (t2 : List Int) : Option AV :=
  bif ((ewcost_text_ok charset0 code1 t2) && true) then
    bif (((ewcost_text charset0 code1 t2).2) != (0 : Int)) then
      ewcost_Len_ret (0 : Int) ((ewcost_text charset0 code1 t2).2)
    else
      ewcost_Len_ret (IntKind.wrap .i64 (((ewcost_text charset0 code1 t2).1) + (ewform_Over charset0))) (0 : Int)
  else none

/-! sheave/ewcost.Better -/

def ewcost_Better_ret (s4 : Int) (s5 : Int) : Option AV := some (.tup [(.dat (.int .i64) s4 none), (.dat (.int .i64) s5 none)])
def ewcost_Better_sh (_n : Nat) (charset0 : Int) (t1 : List Int) : Option AV :=
  bif ((ewcost_text_ok charset0 (1 : Int) t1) && true) then
    bif (((ewcost_text charset0 (1 : Int) t1).2) != (0 : Int)) then
      ewcost_Better_ret (0 : Int) ((ewcost_text charset0 (1 : Int) t1).2)
    else
      bif ((ewcost_Saved_ok charset0 t1) && true) then
        bif (decide ((0 : Int) ≤ (ewcost_Saved charset0 t1))) then
          ewcost_Better_ret (2 : Int) (0 : Int)
        else
          ewcost_Better_ret (1 : Int) (0 : Int)
      else none
  else none

/-! sheave/ewcost.Text -/

def ewcost_Text_ret (s6 : Int) : Option AV := some (.dat (.int .i64) s6 none)
def ewcost_Text_sh (_n : Nat) (charset0 : Int) (code1 : Int) (t2 : List Int) : Option AV :=
  bif ((ewcost_text_ok charset0 code1 t2) && true) then
    ewcost_Text_ret ((ewcost_text charset0 code1 t2).1)
  else none

/-! sheave/ewcost.Saved -/

def ewcost_Saved_ret (s4 : Int) : Option AV := some (.dat (.int .i64) s4 none)
def ewcost_Saved_sh (_n : Nat) (charset0 : Int) (t1 : List Int) : Option AV :=
  bif ((ewcost_Text_ok charset0 (1 : Int) t1) && true) then
    bif ((ewcost_Text_ok charset0 (2 : Int) t1) && true) then
      ewcost_Saved_ret (IntKind.wrap .i64 ((ewcost_Text charset0 (1 : Int) t1) - (ewcost_Text charset0 (2 : Int) t1)))
    else none
  else none

/-! sheave/ewcost.Fits -/

def ewcost_Fits_ret (s8 : Bool) : Option AV := some (.dat .bool s8 none)
def ewcost_Fits_sh (_n : Nat) (charset0 : Int) (code1 : Int) (t2 : List Int) (room3 : Int) : Option AV :=
  bif ((ewcost_Len_ok charset0 code1 t2) && true) then
    bif (((ewcost_Len charset0 code1 t2).2) == (0 : Int)) then
      bif (decide ((0 : Int) < ((List.length t2 : Nat) : Int))) then
        ewcost_Fits_ret (decide (((ewcost_Len charset0 code1 t2).1) ≤ (bif (decide ((75 : Int) < room3)) then (75 : Int) else room3)))
      else
        ewcost_Fits_ret false
    else
      ewcost_Fits_ret false
  else none

/-! sheave/ewcost.Prefix -/

def ewcost_Prefix_ret (s8 : Int) : Option AV := some (.dat (.int .i64) s8 none)
def ewcost_Prefix_l2_b (k0 : Int → Option AV) (next : Int → Int → List Int → Int → Int → Option AV) (_n : Nat) (charset0 : Int) (code1 : Int) (t2 : List Int) (room3 : Int) (many9 : Int) : Option AV :=
  bif (decide (many9 < ((List.length t2 : Nat) : Int))) then
    bif (((decide ((0 : Int) ≤ ((0 : Nat) : Int))) && (decide (((0 : Nat) : Int) ≤ (IntKind.wrap .i64 (many9 + (1 : Int)))))) && (decide ((IntKind.wrap .i64 (many9 + (1 : Int))) ≤ ((List.length t2 : Nat) : Int)))) then
      bif ((ewcost_Fits_ok charset0 code1 (List.drop (Int.toNat ((0 : Nat) : Int)) (List.take (Int.toNat (IntKind.wrap .i64 (many9 + (1 : Int)))) t2)) room3) && true) then
        bif (ewcost_Fits charset0 code1 (List.drop (Int.toNat ((0 : Nat) : Int)) (List.take (Int.toNat (IntKind.wrap .i64 (many9 + (1 : Int)))) t2)) room3) then
          next charset0 code1 t2 room3 (IntKind.wrap .i64 (many9 + (1 : Int)))
        else
          k0 many9
      else none
    else none
  else
    k0 many9
def ewcost_Prefix_l2 (k0 : Int → Option AV) : Nat → Int → Int → List Int → Int → Int → Option AV
  | 0 => fun _ _ _ _ _ => none
  | n + 1 => ewcost_Prefix_l2_b k0 (ewcost_Prefix_l2 k0 n) n
def ewcost_Prefix_k2_0 (_n : Nat) (many9 : Int) : Option AV :=
  ewcost_Prefix_ret many9
def ewcost_Prefix_sh (n : Nat) (charset0 : Int) (code1 : Int) (t2 : List Int) (room3 : Int) : Option AV :=
  ewcost_Prefix_l2 (ewcost_Prefix_k2_0 n) n charset0 code1 t2 room3 (0 : Int)

/-! sheave/sheaveref14.Digit -/

def ref14_Digit_ret (s2 : UInt8) : Option AV := some (.dat .byte s2 none)
def ref14_Digit_sh (_n : Nat) (n0 : Int) : Option AV :=
  bif (decide ((Int.tmod (IntKind.wrap .i64 ((Int.tmod n0 (64 : Int)) + (64 : Int))) (64 : Int)) < (26 : Int))) then
    ref14_Digit_ret (UInt8.ofNat (Int.toNat (IntKind.wrap .u8 (IntKind.wrap .i64 ((65 : Int) + (Int.tmod (IntKind.wrap .i64 ((Int.tmod n0 (64 : Int)) + (64 : Int))) (64 : Int)))))))
  else
    bif (decide ((Int.tmod (IntKind.wrap .i64 ((Int.tmod n0 (64 : Int)) + (64 : Int))) (64 : Int)) < (52 : Int))) then
      ref14_Digit_ret (UInt8.ofNat (Int.toNat (IntKind.wrap .u8 (IntKind.wrap .i64 ((IntKind.wrap .i64 ((97 : Int) + (Int.tmod (IntKind.wrap .i64 ((Int.tmod n0 (64 : Int)) + (64 : Int))) (64 : Int)))) - (26 : Int))))))
    else
      bif (decide ((Int.tmod (IntKind.wrap .i64 ((Int.tmod n0 (64 : Int)) + (64 : Int))) (64 : Int)) < (62 : Int))) then
        ref14_Digit_ret (UInt8.ofNat (Int.toNat (IntKind.wrap .u8 (IntKind.wrap .i64 ((IntKind.wrap .i64 ((48 : Int) + (Int.tmod (IntKind.wrap .i64 ((Int.tmod n0 (64 : Int)) + (64 : Int))) (64 : Int)))) - (52 : Int))))))
      else
        bif ((Int.tmod (IntKind.wrap .i64 ((Int.tmod n0 (64 : Int)) + (64 : Int))) (64 : Int)) == (62 : Int)) then
          ref14_Digit_ret (43 : UInt8)
        else
          ref14_Digit_ret (47 : UInt8)

/-! sheave/sheaveref14.number -/

def ref14_number_ret (s2 : Int) : Option AV := some (.dat (.int .i64) s2 none)
def ref14_number_l3_b (k0 : Int → Option AV) (next : List Int → Int → Int → Option AV) (_n : Nat) (l0 : List Int) (n3 : Int) (i4 : Int) : Option AV :=
  bif (decide (i4 < ((List.length l0 : Nat) : Int))) then
    bif ((decide ((0 : Int) ≤ i4)) && (decide (i4 < (List.length l0 : Nat)))) then
      next l0 (IntKind.wrap .i64 ((IntKind.wrap .i64 ((2 : Int) * n3)) + (List.getD l0 (Int.toNat i4) (0 : Int)))) (IntKind.wrap .i64 (i4 + (1 : Int)))
    else none
  else
    k0 n3
def ref14_number_l3 (k0 : Int → Option AV) : Nat → List Int → Int → Int → Option AV
  | 0 => fun _ _ _ => none
  | n + 1 => ref14_number_l3_b k0 (ref14_number_l3 k0 n) n
def ref14_number_k3_0 (_n : Nat) (n3 : Int) : Option AV :=
  ref14_number_ret n3
def ref14_number_sh (n : Nat) (l0 : List Int) : Option AV :=
  ref14_number_l3 (ref14_number_k3_0 n) n l0 (0 : Int) (0 : Int)

/-! sheave/sheaveref14.Bits -/

def ref14_Bits_ret (s2 : List Int) : Option AV := some (.dat (.sl (.int .i64)) s2 (some (2, 3)))
def ref14_Bits_l6_b (k2 : List UInt8 → List Int → Int → Option AV) (next : List UInt8 → List Int → Int → Int → Option AV) (_n : Nat) (s0 : List UInt8) (out3 : List Int) (i4 : Int) (k5 : Int) : Option AV :=
  bif (decide ((0 : Int) ≤ k5)) then
    bif ((decide ((0 : Int) ≤ i4)) && (decide (i4 < (List.length s0 : Nat)))) then
      bif (decide ((0 : Int) ≤ k5)) then
        bif (decide (List.length out3 + List.length ([(Int.tmod (IntKind.wrap .i64 ((UInt8.toNat (UInt8.ofNat (UInt8.toNat (List.getD s0 (Int.toNat i4) (0 : UInt8)) / 2 ^ (min (Int.toNat k5) 8))) : Nat) : Int)) (2 : Int))] : List Int) ≤ room)) then
          next s0 (out3 ++ ([(Int.tmod (IntKind.wrap .i64 ((UInt8.toNat (UInt8.ofNat (UInt8.toNat (List.getD s0 (Int.toNat i4) (0 : UInt8)) / 2 ^ (min (Int.toNat k5) 8))) : Nat) : Int)) (2 : Int))] : List Int)) i4 (IntKind.wrap .i64 (k5 - (1 : Int)))
        else none
      else none
    else none
  else
    k2 s0 out3 i4
def ref14_Bits_l6 (k2 : List UInt8 → List Int → Int → Option AV) : Nat → List UInt8 → List Int → Int → Int → Option AV
  | 0 => fun _ _ _ _ => none
  | n + 1 => ref14_Bits_l6_b k2 (ref14_Bits_l6 k2 n) n
def ref14_Bits_k6_2 (_k0 : List Int → Option AV) (next : List UInt8 → List Int → Int → Option AV) (_n : Nat) (s0 : List UInt8) (out3 : List Int) (i4 : Int) : Option AV :=
  next s0 out3 (IntKind.wrap .i64 (i4 + (1 : Int)))
def ref14_Bits_l3_b (k0 : List Int → Option AV) (next : List UInt8 → List Int → Int → Option AV) (n : Nat) (s0 : List UInt8) (out3 : List Int) (i4 : Int) : Option AV :=
  bif (decide (i4 < ((List.length s0 : Nat) : Int))) then
    ref14_Bits_l6 (ref14_Bits_k6_2 k0 next n) n s0 out3 i4 (7 : Int)
  else
    k0 out3
def ref14_Bits_l3 (k0 : List Int → Option AV) : Nat → List UInt8 → List Int → Int → Option AV
  | 0 => fun _ _ _ => none
  | n + 1 => ref14_Bits_l3_b k0 (ref14_Bits_l3 k0 n) n
def ref14_Bits_k3_0 (_n : Nat) (out3 : List Int) : Option AV :=
  ref14_Bits_ret out3
def ref14_Bits_sh (n : Nat) (s0 : List UInt8) : Option AV :=
  ref14_Bits_l3 (ref14_Bits_k3_0 n) n s0 ([] : List Int) (0 : Int)

/-! sheave/sheaveref14.Bare -/

def ref14_Bare_ret (s2 : List UInt8) : Option AV := some (.dat (.sl .byte) s2 (some (2, 5)))
def ref14_Bare_l2_b (k0 : List Int → Option AV) (next : List Int → Option AV) (_n : Nat) (l3 : List Int) : Option AV :=
  bif ((Int.tmod ((List.length l3 : Nat) : Int) (6 : Int)) != (0 : Int)) then
    bif (decide (List.length l3 + List.length ([(0 : Int)] : List Int) ≤ room)) then
      next (l3 ++ ([(0 : Int)] : List Int))
    else none
  else
    k0 l3
def ref14_Bare_l2 (k0 : List Int → Option AV) : Nat → List Int → Option AV
  | 0 => fun _ => none
  | n + 1 => ref14_Bare_l2_b k0 (ref14_Bare_l2 k0 n) n
def ref14_Bare_l6_b (k2 : List UInt8 → Option AV) (next : List Int → List UInt8 → Int → Option AV) (_n : Nat) (l3 : List Int) (out4 : List UInt8) (i5 : Int) : Option AV :=
  bif (decide (i5 < ((List.length l3 : Nat) : Int))) then
    bif (((decide ((0 : Int) ≤ i5)) && (decide (i5 ≤ (IntKind.wrap .i64 (i5 + (6 : Int)))))) && (decide ((IntKind.wrap .i64 (i5 + (6 : Int))) ≤ ((List.length l3 : Nat) : Int)))) then
      bif ((ref14_number_ok (List.drop (Int.toNat i5) (List.take (Int.toNat (IntKind.wrap .i64 (i5 + (6 : Int)))) l3))) && true) then
        bif (decide (List.length out4 + List.length ([(ref14_Digit (ref14_number (List.drop (Int.toNat i5) (List.take (Int.toNat (IntKind.wrap .i64 (i5 + (6 : Int)))) l3))))] : List UInt8) ≤ room)) then
          next l3 (out4 ++ ([(ref14_Digit (ref14_number (List.drop (Int.toNat i5) (List.take (Int.toNat (IntKind.wrap .i64 (i5 + (6 : Int)))) l3))))] : List UInt8)) (IntKind.wrap .i64 (i5 + (6 : Int)))
        else none
      else none
    else none
  else
    k2 out4
def ref14_Bare_l6 (k2 : List UInt8 → Option AV) : Nat → List Int → List UInt8 → Int → Option AV
  | 0 => fun _ _ _ => none
  | n + 1 => ref14_Bare_l6_b k2 (ref14_Bare_l6 k2 n) n
def ref14_Bare_k6_2 (_n : Nat) (out4 : List UInt8) : Option AV :=
  ref14_Bare_ret out4
def ref14_Bare_k2_0 (n : Nat) (l3 : List Int) : Option AV :=
  ref14_Bare_l6 (ref14_Bare_k6_2 n) n l3 ([] : List UInt8) (0 : Int)
def ref14_Bare_sh (n : Nat) (s0 : List UInt8) : Option AV :=
  bif ((ref14_Bits_ok s0) && true) then
    ref14_Bare_l2 (ref14_Bare_k2_0 n) n (ref14_Bits s0)
  else none

/-! sheave/sheaveref14.Lay -/

def ref14_Lay_ret (s2 : List UInt8) : Option AV := some (.dat (.sl .byte) s2 (some (2, 5)))
def ref14_Lay_l2_b (k0 : List UInt8 → Option AV) (next : List UInt8 → Option AV) (_n : Nat) (out3 : List UInt8) : Option AV :=
  bif ((Int.tmod ((List.length out3 : Nat) : Int) (4 : Int)) != (0 : Int)) then
    bif (decide (List.length out3 + List.length ([(61 : UInt8)] : List UInt8) ≤ room)) then
      next (out3 ++ ([(61 : UInt8)] : List UInt8))
    else none
  else
    k0 out3
def ref14_Lay_l2 (k0 : List UInt8 → Option AV) : Nat → List UInt8 → Option AV
  | 0 => fun _ => none
  | n + 1 => ref14_Lay_l2_b k0 (ref14_Lay_l2 k0 n) n
def ref14_Lay_k2_0 (_n : Nat) (out3 : List UInt8) : Option AV :=
  ref14_Lay_ret out3
def ref14_Lay_sh (n : Nat) (s0 : List UInt8) : Option AV :=
  bif ((ref14_Bare_ok s0) && true) then
    ref14_Lay_l2 (ref14_Lay_k2_0 n) n (ref14_Bare s0)
  else none

/-! sheave/sheaveref20.one -/

def ref20_one_ret (s2 : List UInt8) : Option AV := some (.dat (.sl .byte) s2 (some (2, 5)))
def ref20_one_sh (_n : Nat) (c0 : UInt8) : Option AV :=
  bif (c0 == (32 : UInt8)) then
    ref20_one_ret ([(95 : UInt8)] : List UInt8)
  else
    bif (ref01_Is c0 (128 : Int)) then
      ref20_one_ret ([c0] : List UInt8)
    else
      bif ((ref02_Put_ok ([] : List UInt8) (61 : UInt8) c0) && true) then
        ref20_one_ret (ref02_Put ([] : List UInt8) (61 : UInt8) c0)
      else none

/-! sheave/sheaveref20.Lay -/

def ref20_Lay_ret (s2 : List UInt8) : Option AV := some (.dat (.sl .byte) s2 (some (2, 5)))
def ref20_Lay_l3_b (k0 : List UInt8 → Option AV) (next : List UInt8 → List UInt8 → Int → Option AV) (_n : Nat) (s0 : List UInt8) (out3 : List UInt8) (i4 : Int) : Option AV :=
  bif (decide (i4 < ((List.length s0 : Nat) : Int))) then
    bif ((decide ((0 : Int) ≤ i4)) && (decide (i4 < (List.length s0 : Nat)))) then
      bif (decide (List.length out3 + List.length (ref20_one (List.getD s0 (Int.toNat i4) (0 : UInt8))) ≤ room)) then
        next s0 (out3 ++ (ref20_one (List.getD s0 (Int.toNat i4) (0 : UInt8)))) (IntKind.wrap .i64 (i4 + (1 : Int)))
      else none
    else none
  else
    k0 out3
def ref20_Lay_l3 (k0 : List UInt8 → Option AV) : Nat → List UInt8 → List UInt8 → Int → Option AV
  | 0 => fun _ _ _ => none
  | n + 1 => ref20_Lay_l3_b k0 (ref20_Lay_l3 k0 n) n
def ref20_Lay_k3_0 (_n : Nat) (out3 : List UInt8) : Option AV :=
  ref20_Lay_ret out3
def ref20_Lay_sh (n : Nat) (s0 : List UInt8) : Option AV :=
  ref20_Lay_l3 (ref20_Lay_k3_0 n) n s0 ([] : List UInt8) (0 : Int)

/-! sheave/sheaveref08.Put -/

def ref08_Put_ret (s2 : UInt8) (s3 : Bool) : Option AV := some (.tup [(.dat .byte s2 none), (.dat .bool s3 none)])
def ref08_Put_l2_b (ret : UInt8 → Bool → Option AV) (k0 : Option AV) (next : Int → Int → Option AV) (_n : Nat) (c0 : Int) (n4 : Int) : Option AV :=
  bif (decide (n4 < (256 : Int))) then
    bif ((ref08_Sign (UInt8.ofNat (Int.toNat (IntKind.wrap .u8 n4)))) == c0) then
      bif (c0 != (65533 : Int)) then
        ret (UInt8.ofNat (Int.toNat (IntKind.wrap .u8 n4))) true
      else
        next c0 (IntKind.wrap .i64 (n4 + (1 : Int)))
    else
      next c0 (IntKind.wrap .i64 (n4 + (1 : Int)))
  else
    k0
def ref08_Put_l2 (ret : UInt8 → Bool → Option AV) (k0 : Option AV) : Nat → Int → Int → Option AV
  | 0 => fun _ _ => none
  | n + 1 => ref08_Put_l2_b ret k0 (ref08_Put_l2 ret k0 n) n
def ref08_Put_k2_0 (_n : Nat) : Option AV :=
  ref08_Put_ret (0 : UInt8) false
def ref08_Put_sh (n : Nat) (c0 : Int) : Option AV :=
  ref08_Put_l2 ref08_Put_ret (ref08_Put_k2_0 n) n c0 (0 : Int)

/-! sheave/sheaveref09.Put -/

def ref09_Put_ret (s2 : UInt8) (s3 : Bool) : Option AV := some (.tup [(.dat .byte s2 none), (.dat .bool s3 none)])
def ref09_Put_l2_b (ret : UInt8 → Bool → Option AV) (k0 : Option AV) (next : Int → Int → Option AV) (_n : Nat) (c0 : Int) (n4 : Int) : Option AV :=
  bif (decide (n4 < (256 : Int))) then
    bif ((ref09_Sign (UInt8.ofNat (Int.toNat (IntKind.wrap .u8 n4)))) == c0) then
      bif (c0 != (65533 : Int)) then
        ret (UInt8.ofNat (Int.toNat (IntKind.wrap .u8 n4))) true
      else
        next c0 (IntKind.wrap .i64 (n4 + (1 : Int)))
    else
      next c0 (IntKind.wrap .i64 (n4 + (1 : Int)))
  else
    k0
def ref09_Put_l2 (ret : UInt8 → Bool → Option AV) (k0 : Option AV) : Nat → Int → Int → Option AV
  | 0 => fun _ _ => none
  | n + 1 => ref09_Put_l2_b ret k0 (ref09_Put_l2 ret k0 n) n
def ref09_Put_k2_0 (_n : Nat) : Option AV :=
  ref09_Put_ret (0 : UInt8) false
def ref09_Put_sh (n : Nat) (c0 : Int) : Option AV :=
  ref09_Put_l2 ref09_Put_ret (ref09_Put_k2_0 n) n c0 (0 : Int)

/-! sheave/sheaveref10.Put -/

def ref10_Put_ret (s2 : UInt8) (s3 : Bool) : Option AV := some (.tup [(.dat .byte s2 none), (.dat .bool s3 none)])
def ref10_Put_l2_b (ret : UInt8 → Bool → Option AV) (k0 : Option AV) (next : Int → Int → Option AV) (_n : Nat) (c0 : Int) (n4 : Int) : Option AV :=
  bif (decide (n4 < (256 : Int))) then
    bif ((ref10_Sign (UInt8.ofNat (Int.toNat (IntKind.wrap .u8 n4)))) == c0) then
      bif (c0 != (65533 : Int)) then
        ret (UInt8.ofNat (Int.toNat (IntKind.wrap .u8 n4))) true
      else
        next c0 (IntKind.wrap .i64 (n4 + (1 : Int)))
    else
      next c0 (IntKind.wrap .i64 (n4 + (1 : Int)))
  else
    k0
def ref10_Put_l2 (ret : UInt8 → Bool → Option AV) (k0 : Option AV) : Nat → Int → Int → Option AV
  | 0 => fun _ _ => none
  | n + 1 => ref10_Put_l2_b ret k0 (ref10_Put_l2 ret k0 n) n
def ref10_Put_k2_0 (_n : Nat) : Option AV :=
  ref10_Put_ret (0 : UInt8) false
def ref10_Put_sh (n : Nat) (c0 : Int) : Option AV :=
  ref10_Put_l2 ref10_Put_ret (ref10_Put_k2_0 n) n c0 (0 : Int)

/-! sheave/sheaveref04.Octets -/

def ref04_Octets_ret (s2 : List UInt8) : Option AV := some (.dat (.sl .byte) s2 (some (2, 5)))
def ref04_Octets_sh (_n : Nat) (c0 : Int) : Option AV :=
  bif (!(ref03_Is c0)) then
    ref04_Octets_ret ([] : List UInt8)
  else
    bif (decide ((IntKind.wrap .i64 c0) < (128 : Int))) then
      ref04_Octets_ret ([(UInt8.ofNat (Int.toNat (IntKind.wrap .u8 (IntKind.wrap .i64 c0))))] : List UInt8)
    else
      bif (decide ((IntKind.wrap .i64 c0) < (2048 : Int))) then
        ref04_Octets_ret ([(UInt8.ofNat (Int.toNat (IntKind.wrap .u8 (IntKind.wrap .i64 ((192 : Int) + (IntKind.wrap .i64 (Int.tdiv (IntKind.wrap .i64 c0) (64 : Int)))))))), (UInt8.ofNat (Int.toNat (IntKind.wrap .u8 (IntKind.wrap .i64 ((128 : Int) + (Int.tmod (IntKind.wrap .i64 c0) (64 : Int)))))))] : List UInt8)
      else
        bif (decide ((IntKind.wrap .i64 c0) < (65536 : Int))) then
          ref04_Octets_ret ([(UInt8.ofNat (Int.toNat (IntKind.wrap .u8 (IntKind.wrap .i64 ((224 : Int) + (IntKind.wrap .i64 (Int.tdiv (IntKind.wrap .i64 c0) (4096 : Int)))))))), (UInt8.ofNat (Int.toNat (IntKind.wrap .u8 (IntKind.wrap .i64 ((128 : Int) + (Int.tmod (IntKind.wrap .i64 (Int.tdiv (IntKind.wrap .i64 c0) (64 : Int))) (64 : Int))))))), (UInt8.ofNat (Int.toNat (IntKind.wrap .u8 (IntKind.wrap .i64 ((128 : Int) + (Int.tmod (IntKind.wrap .i64 c0) (64 : Int)))))))] : List UInt8)
        else
          ref04_Octets_ret ([(UInt8.ofNat (Int.toNat (IntKind.wrap .u8 (IntKind.wrap .i64 ((240 : Int) + (IntKind.wrap .i64 (Int.tdiv (IntKind.wrap .i64 c0) (262144 : Int)))))))), (UInt8.ofNat (Int.toNat (IntKind.wrap .u8 (IntKind.wrap .i64 ((128 : Int) + (Int.tmod (IntKind.wrap .i64 (Int.tdiv (IntKind.wrap .i64 c0) (4096 : Int))) (64 : Int))))))), (UInt8.ofNat (Int.toNat (IntKind.wrap .u8 (IntKind.wrap .i64 ((128 : Int) + (Int.tmod (IntKind.wrap .i64 (Int.tdiv (IntKind.wrap .i64 c0) (64 : Int))) (64 : Int))))))), (UInt8.ofNat (Int.toNat (IntKind.wrap .u8 (IntKind.wrap .i64 ((128 : Int) + (Int.tmod (IntKind.wrap .i64 c0) (64 : Int)))))))] : List UInt8)

/-! sheave/sheaveref12.Has -/

def ref12_Has_ret (s4 : Bool) : Option AV := some (.dat .bool s4 none)
def ref12_Has_sh (_n : Nat) (charset0 : Int) (c1 : Int) : Option AV :=
  bif (charset0 == (1 : Int)) then
    bif (decide ((0 : Int) ≤ c1)) then
      ref12_Has_ret (decide (c1 < (128 : Int)))
    else
      ref12_Has_ret false
  else
    bif (charset0 == (2 : Int)) then
      ref12_Has_ret ((ref08_Put c1).2)
    else
      bif (charset0 == (3 : Int)) then
        ref12_Has_ret ((ref09_Put c1).2)
      else
        bif (charset0 == (4 : Int)) then
          ref12_Has_ret ((ref10_Put c1).2)
        else
          bif (charset0 == (5 : Int)) then
            ref12_Has_ret (ref03_Is c1)
          else
            ref12_Has_ret false

/-! sheave/sheaveref13.octets -/

def ref13_octets_ret (s4 : List UInt8) : Option AV := some (.dat (.sl .byte) s4 (some (4, 5)))
def ref13_octets_sh (_n : Nat) (charset0 : Int) (c1 : Int) : Option AV :=
  bif (!(ref12_Has charset0 c1)) then
    ref13_octets_ret ([] : List UInt8)
  else
    bif (charset0 == (1 : Int)) then
      ref13_octets_ret ([(UInt8.ofNat (Int.toNat (IntKind.wrap .u8 c1)))] : List UInt8)
    else
      bif (charset0 == (2 : Int)) then
        ref13_octets_ret ([((ref08_Put c1).1)] : List UInt8)
      else
        bif (charset0 == (3 : Int)) then
          ref13_octets_ret ([((ref09_Put c1).1)] : List UInt8)
        else
          bif (charset0 == (4 : Int)) then
            ref13_octets_ret ([((ref10_Put c1).1)] : List UInt8)
          else
            ref13_octets_ret (ref04_Octets c1)

/-! sheave/sheaveref11.Names -/

def ref11_Names_ret (s2 : List (List UInt8)) : Option AV := some (.dat (.sl .str) s2 (some (2, 9)))
def ref11_Names_sh (_n : Nat) (n0 : Int) : Option AV :=
  bif (n0 == (1 : Int)) then
    ref11_Names_ret ([([117, 115, 45, 97, 115, 99, 105, 105] : List UInt8), ([97, 115, 99, 105, 105] : List UInt8), ([97, 110, 115, 105, 95, 120, 51, 46, 52, 45, 49, 57, 54, 56] : List UInt8), ([105, 115, 111, 54, 52, 54, 45, 117, 115] : List UInt8)] : List (List UInt8))
  else
    bif (n0 == (2 : Int)) then
      ref11_Names_ret ([([105, 115, 111, 45, 56, 56, 53, 57, 45, 49] : List UInt8), ([105, 115, 111, 95, 56, 56, 53, 57, 45, 49] : List UInt8), ([108, 97, 116, 105, 110, 49] : List UInt8), ([108, 49] : List UInt8)] : List (List UInt8))
    else
      bif (n0 == (3 : Int)) then
        ref11_Names_ret ([([105, 115, 111, 45, 56, 56, 53, 57, 45, 49, 53] : List UInt8), ([105, 115, 111, 95, 56, 56, 53, 57, 45, 49, 53] : List UInt8), ([108, 97, 116, 105, 110, 45, 57] : List UInt8)] : List (List UInt8))
      else
        bif (n0 == (4 : Int)) then
          ref11_Names_ret ([([119, 105, 110, 100, 111, 119, 115, 45, 49, 50, 53, 50] : List UInt8), ([99, 112, 49, 50, 53, 50] : List UInt8)] : List (List UInt8))
        else
          bif (n0 == (5 : Int)) then
            ref11_Names_ret ([([117, 116, 102, 45, 56] : List UInt8), ([117, 116, 102, 56] : List UInt8)] : List (List UInt8))
          else
            ref11_Names_ret ([] : List (List UInt8))

/-! sheave/sheaveref11.Name -/

def ref11_Name_ret (s2 : List UInt8) : Option AV := some (.dat .str s2 none)
def ref11_Name_sh (_n : Nat) (n0 : Int) : Option AV :=
  bif (((List.length (ref11_Names n0) : Nat) : Int) == (0 : Int)) then
    ref11_Name_ret ([] : List UInt8)
  else
    bif ((decide ((0 : Int) ≤ (0 : Int))) && (decide ((0 : Int) < (List.length (ref11_Names n0) : Nat)))) then
      ref11_Name_ret (List.getD (ref11_Names n0) (Int.toNat (0 : Int)) ([] : List UInt8))
    else none

/-! sheave/sheaveref29.Over -/

def ref29_Over_ret (s2 : Int) : Option AV := some (.dat (.int .i64) s2 none)
def ref29_Over_sh (_n : Nat) (charset0 : Int) : Option AV :=
  bif (decide (charset0 < (1 : Int))) then
    ref29_Over_ret (0 : Int)
  else
    bif (decide ((5 : Int) < charset0)) then
      ref29_Over_ret (0 : Int)
    else
      ref29_Over_ret (IntKind.wrap .i64 ((7 : Int) + ((List.length (ref11_Name charset0) : Nat) : Int)))

/-! sheave/sheaveref13.Lay -/

def ref13_Lay_ret (s4 : List UInt8) (s5 : Int) : Option AV := some (.tup [(.dat (.sl .byte) s4 none), (.dat (.int .i64) s5 none)])
def ref13_Lay_l5_b (ret : List UInt8 → Int → Option AV) (k0 : List UInt8 → Option AV) (next : Int → List Int → List UInt8 → Int → Option AV) (_n : Nat) (charset0 : Int) (t1 : List Int) (out6 : List UInt8) (i7 : Int) : Option AV :=
  bif (decide (i7 < ((List.length t1 : Nat) : Int))) then
    bif ((decide ((0 : Int) ≤ i7)) && (decide (i7 < (List.length t1 : Nat)))) then
      bif (((List.length (ref13_octets charset0 (List.getD t1 (Int.toNat i7) (0 : Int))) : Nat) : Int) == (0 : Int)) then
        ret ([] : List UInt8) (9 : Int)
      else
        bif (decide (List.length out6 + List.length (ref13_octets charset0 (List.getD t1 (Int.toNat i7) (0 : Int))) ≤ room)) then
          next charset0 t1 (out6 ++ (ref13_octets charset0 (List.getD t1 (Int.toNat i7) (0 : Int)))) (IntKind.wrap .i64 (i7 + (1 : Int)))
        else none
    else none
  else
    k0 out6
def ref13_Lay_l5 (ret : List UInt8 → Int → Option AV) (k0 : List UInt8 → Option AV) : Nat → Int → List Int → List UInt8 → Int → Option AV
  | 0 => fun _ _ _ _ => none
  | n + 1 => ref13_Lay_l5_b ret k0 (ref13_Lay_l5 ret k0 n) n
def ref13_Lay_k5_0 (_n : Nat) (out6 : List UInt8) : Option AV :=
  ref13_Lay_ret out6 (0 : Int)
def ref13_Lay_sh (n : Nat) (charset0 : Int) (t1 : List Int) : Option AV :=
  bif (decide (charset0 < (1 : Int))) then
    ref13_Lay_ret ([] : List UInt8) (10 : Int)
  else
    bif (decide ((5 : Int) < charset0)) then
      ref13_Lay_ret ([] : List UInt8) (10 : Int)
    else
      ref13_Lay_l5 ref13_Lay_ret (ref13_Lay_k5_0 n) n charset0 t1 ([] : List UInt8) (0 : Int)

/-! sheave/sheaveref29.Lay -/

def ref29_Lay_ret (s6 : List UInt8) (s7 : Int) : Option AV := some (.tup [(.dat (.sl .byte) s6 none), (.dat (.int .i64) s7 none)])
def ref29_Lay_sh (_n : Nat) (charset0 : Int) (code1 : Int) (s2 : List UInt8) : Option AV :=
  bif (decide (charset0 < (1 : Int))) then
    ref29_Lay_ret ([] : List UInt8) (10 : Int)
  else
    bif (decide ((5 : Int) < charset0)) then
      ref29_Lay_ret ([] : List UInt8) (10 : Int)
    else
      bif (code1 != (1 : Int)) then
        bif (code1 != (2 : Int)) then
          ref29_Lay_ret ([] : List UInt8) (3 : Int)
        else
          bif (((List.length s2 : Nat) : Int) == (0 : Int)) then
            ref29_Lay_ret ([] : List UInt8) (3 : Int)
          else
            bif ((ref14_Lay_ok s2) && true) then
              bif (code1 == (2 : Int)) then
                bif ((ref20_Lay_ok s2) && true) then
                  bif (decide (List.length ([61, 63] : List UInt8) + List.length (ref11_Name charset0) ≤ 9223372036854775807)) then
                    bif (decide (List.length (([61, 63] : List UInt8) ++ (ref11_Name charset0)) + List.length ([63, 81, 63] : List UInt8) ≤ 9223372036854775807)) then
                      bif (decide (List.length ((([61, 63] : List UInt8) ++ (ref11_Name charset0)) ++ ([63, 81, 63] : List UInt8)) ≤ room)) then
                        bif (decide (List.length ((([61, 63] : List UInt8) ++ (ref11_Name charset0)) ++ ([63, 81, 63] : List UInt8)) + List.length (ref20_Lay s2) ≤ room)) then
                          bif (decide (List.length (((([61, 63] : List UInt8) ++ (ref11_Name charset0)) ++ ([63, 81, 63] : List UInt8)) ++ (ref20_Lay s2)) + List.length ([(63 : UInt8), (61 : UInt8)] : List UInt8) ≤ room)) then
                            bif (decide ((75 : Int) < ((List.length ((((([61, 63] : List UInt8) ++ (ref11_Name charset0)) ++ ([63, 81, 63] : List UInt8)) ++ (ref20_Lay s2)) ++ ([(63 : UInt8), (61 : UInt8)] : List UInt8)) : Nat) : Int))) then
                              ref29_Lay_ret ([] : List UInt8) (12 : Int)
                            else
                              ref29_Lay_ret ((((([61, 63] : List UInt8) ++ (ref11_Name charset0)) ++ ([63, 81, 63] : List UInt8)) ++ (ref20_Lay s2)) ++ ([(63 : UInt8), (61 : UInt8)] : List UInt8)) (0 : Int)
                          else none
                        else none
                      else none
                    else none
                  else none
                else none
              else
                bif (decide (List.length ([61, 63] : List UInt8) + List.length (ref11_Name charset0) ≤ 9223372036854775807)) then
                  bif (decide (List.length (([61, 63] : List UInt8) ++ (ref11_Name charset0)) + List.length ([63, 66, 63] : List UInt8) ≤ 9223372036854775807)) then
                    bif (decide (List.length ((([61, 63] : List UInt8) ++ (ref11_Name charset0)) ++ ([63, 66, 63] : List UInt8)) ≤ room)) then
                      bif (decide (List.length ((([61, 63] : List UInt8) ++ (ref11_Name charset0)) ++ ([63, 66, 63] : List UInt8)) + List.length (ref14_Lay s2) ≤ room)) then
                        bif (decide (List.length (((([61, 63] : List UInt8) ++ (ref11_Name charset0)) ++ ([63, 66, 63] : List UInt8)) ++ (ref14_Lay s2)) + List.length ([(63 : UInt8), (61 : UInt8)] : List UInt8) ≤ room)) then
                          bif (decide ((75 : Int) < ((List.length ((((([61, 63] : List UInt8) ++ (ref11_Name charset0)) ++ ([63, 66, 63] : List UInt8)) ++ (ref14_Lay s2)) ++ ([(63 : UInt8), (61 : UInt8)] : List UInt8)) : Nat) : Int))) then
                            ref29_Lay_ret ([] : List UInt8) (12 : Int)
                          else
                            ref29_Lay_ret ((((([61, 63] : List UInt8) ++ (ref11_Name charset0)) ++ ([63, 66, 63] : List UInt8)) ++ (ref14_Lay s2)) ++ ([(63 : UInt8), (61 : UInt8)] : List UInt8)) (0 : Int)
                        else none
                      else none
                    else none
                  else none
                else none
            else none
      else
        bif (((List.length s2 : Nat) : Int) == (0 : Int)) then
          ref29_Lay_ret ([] : List UInt8) (3 : Int)
        else
          bif ((ref14_Lay_ok s2) && true) then
            bif (code1 == (2 : Int)) then
              bif ((ref20_Lay_ok s2) && true) then
                bif (decide (List.length ([61, 63] : List UInt8) + List.length (ref11_Name charset0) ≤ 9223372036854775807)) then
                  bif (decide (List.length (([61, 63] : List UInt8) ++ (ref11_Name charset0)) + List.length ([63, 81, 63] : List UInt8) ≤ 9223372036854775807)) then
                    bif (decide (List.length ((([61, 63] : List UInt8) ++ (ref11_Name charset0)) ++ ([63, 81, 63] : List UInt8)) ≤ room)) then
                      bif (decide (List.length ((([61, 63] : List UInt8) ++ (ref11_Name charset0)) ++ ([63, 81, 63] : List UInt8)) + List.length (ref20_Lay s2) ≤ room)) then
                        bif (decide (List.length (((([61, 63] : List UInt8) ++ (ref11_Name charset0)) ++ ([63, 81, 63] : List UInt8)) ++ (ref20_Lay s2)) + List.length ([(63 : UInt8), (61 : UInt8)] : List UInt8) ≤ room)) then
                          bif (decide ((75 : Int) < ((List.length ((((([61, 63] : List UInt8) ++ (ref11_Name charset0)) ++ ([63, 81, 63] : List UInt8)) ++ (ref20_Lay s2)) ++ ([(63 : UInt8), (61 : UInt8)] : List UInt8)) : Nat) : Int))) then
                            ref29_Lay_ret ([] : List UInt8) (12 : Int)
                          else
                            ref29_Lay_ret ((((([61, 63] : List UInt8) ++ (ref11_Name charset0)) ++ ([63, 81, 63] : List UInt8)) ++ (ref20_Lay s2)) ++ ([(63 : UInt8), (61 : UInt8)] : List UInt8)) (0 : Int)
                        else none
                      else none
                    else none
                  else none
                else none
              else none
            else
              bif (decide (List.length ([61, 63] : List UInt8) + List.length (ref11_Name charset0) ≤ 9223372036854775807)) then
                bif (decide (List.length (([61, 63] : List UInt8) ++ (ref11_Name charset0)) + List.length ([63, 66, 63] : List UInt8) ≤ 9223372036854775807)) then
                  bif (decide (List.length ((([61, 63] : List UInt8) ++ (ref11_Name charset0)) ++ ([63, 66, 63] : List UInt8)) ≤ room)) then
                    bif (decide (List.length ((([61, 63] : List UInt8) ++ (ref11_Name charset0)) ++ ([63, 66, 63] : List UInt8)) + List.length (ref14_Lay s2) ≤ room)) then
                      bif (decide (List.length (((([61, 63] : List UInt8) ++ (ref11_Name charset0)) ++ ([63, 66, 63] : List UInt8)) ++ (ref14_Lay s2)) + List.length ([(63 : UInt8), (61 : UInt8)] : List UInt8) ≤ room)) then
                        bif (decide ((75 : Int) < ((List.length ((((([61, 63] : List UInt8) ++ (ref11_Name charset0)) ++ ([63, 66, 63] : List UInt8)) ++ (ref14_Lay s2)) ++ ([(63 : UInt8), (61 : UInt8)] : List UInt8)) : Nat) : Int))) then
                          ref29_Lay_ret ([] : List UInt8) (12 : Int)
                        else
                          ref29_Lay_ret ((((([61, 63] : List UInt8) ++ (ref11_Name charset0)) ++ ([63, 66, 63] : List UInt8)) ++ (ref14_Lay s2)) ++ ([(63 : UInt8), (61 : UInt8)] : List UInt8)) (0 : Int)
                      else none
                    else none
                  else none
                else none
              else none
          else none

/-! sheave/sheaveref30.Len -/

def ref30_Len_ret (s6 : Int) (s7 : Int) : Option AV := some (.tup [(.dat (.int .i64) s6 none), (.dat (.int .i64) s7 none)])
def ref30_Len_sh (_n : Nat) (charset0 : Int) (code1 : Int) (t2 : List Int) : Option AV :=
  bif ((ref13_Lay_ok charset0 t2) && true) then
    bif (((ref13_Lay charset0 t2).2) == (10 : Int)) then
      ref30_Len_ret (0 : Int) ((ref13_Lay charset0 t2).2)
    else
      bif (code1 != (1 : Int)) then
        bif (code1 != (2 : Int)) then
          ref30_Len_ret (0 : Int) (3 : Int)
        else
          bif (((ref13_Lay charset0 t2).2) != (0 : Int)) then
            ref30_Len_ret (0 : Int) ((ref13_Lay charset0 t2).2)
          else
            bif (code1 == (1 : Int)) then
              bif ((ref14_Lay_ok ((ref13_Lay charset0 t2).1)) && true) then
                ref30_Len_ret (IntKind.wrap .i64 ((ref29_Over charset0) + ((List.length (ref14_Lay ((ref13_Lay charset0 t2).1)) : Nat) : Int))) (0 : Int)
              else none
            else
              bif ((ref20_Lay_ok ((ref13_Lay charset0 t2).1)) && true) then
                ref30_Len_ret (IntKind.wrap .i64 ((ref29_Over charset0) + ((List.length (ref20_Lay ((ref13_Lay charset0 t2).1)) : Nat) : Int))) (0 : Int)
              else none
      else
        bif (((ref13_Lay charset0 t2).2) != (0 : Int)) then
          ref30_Len_ret (0 : Int) ((ref13_Lay charset0 t2).2)
        else
          bif (code1 == (1 : Int)) then
            bif ((ref14_Lay_ok ((ref13_Lay charset0 t2).1)) && true) then
              ref30_Len_ret (IntKind.wrap .i64 ((ref29_Over charset0) + ((List.length (ref14_Lay ((ref13_Lay charset0 t2).1)) : Nat) : Int))) (0 : Int)
            else none
          else
            bif ((ref20_Lay_ok ((ref13_Lay charset0 t2).1)) && true) then
              ref30_Len_ret (IntKind.wrap .i64 ((ref29_Over charset0) + ((List.length (ref20_Lay ((ref13_Lay charset0 t2).1)) : Nat) : Int))) (0 : Int)
            else none
  else none

/-! sheave/sheaveref30.Better -/

def ref30_Better_ret (s4 : Int) (s5 : Int) : Option AV := some (.tup [(.dat (.int .i64) s4 none), (.dat (.int .i64) s5 none)])
def ref30_Better_sh (_n : Nat) (charset0 : Int) (t1 : List Int) : Option AV :=
  bif ((ref30_Len_ok charset0 (1 : Int) t1) && true) then
    bif ((ref30_Len_ok charset0 (2 : Int) t1) && true) then
      bif (((ref30_Len charset0 (1 : Int) t1).2) != (0 : Int)) then
        ref30_Better_ret (0 : Int) ((ref30_Len charset0 (1 : Int) t1).2)
      else
        bif (decide (((ref30_Len charset0 (2 : Int) t1).1) ≤ ((ref30_Len charset0 (1 : Int) t1).1))) then
          ref30_Better_ret (2 : Int) (0 : Int)
        else
          ref30_Better_ret (1 : Int) (0 : Int)
    else none
  else none

/-! sheave/sheaveref30.Text -/

def ref30_Text_ret (s6 : Int) : Option AV := some (.dat (.int .i64) s6 none)
def ref30_Text_sh (_n : Nat) (charset0 : Int) (code1 : Int) (t2 : List Int) : Option AV :=
  bif ((ref30_Len_ok charset0 code1 t2) && true) then
    bif (((ref30_Len charset0 code1 t2).2) != (0 : Int)) then
      ref30_Text_ret (0 : Int)
    else
      ref30_Text_ret (IntKind.wrap .i64 (((ref30_Len charset0 code1 t2).1) - (ref29_Over charset0)))
  else none

/-! sheave/sheaveref30.Fits -/

def ref30_Fits_ret (s8 : Bool) : Option AV := some (.dat .bool s8 none)
def ref30_Fits_sh (_n : Nat) (charset0 : Int) (code1 : Int) (t2 : List Int) (room3 : Int) : Option AV :=
  bif ((ref30_Len_ok charset0 code1 t2) && true) then
    bif (((ref30_Len charset0 code1 t2).2) == (0 : Int)) then
      bif (decide ((0 : Int) < ((List.length t2 : Nat) : Int))) then
        bif (decide (((ref30_Len charset0 code1 t2).1) ≤ room3)) then
          ref30_Fits_ret (decide (((ref30_Len charset0 code1 t2).1) ≤ (75 : Int)))
        else
          ref30_Fits_ret false
      else
        ref30_Fits_ret false
    else
      ref30_Fits_ret false
  else none

/-! sheave/sheaveref30.Prefix -/

def ref30_Prefix_ret (s8 : Int) : Option AV := some (.dat (.int .i64) s8 none)
def ref30_Prefix_l2_b (ret : Int → Option AV) (k0 : List Int → Option AV) (next : Int → Int → List Int → Int → Int → Option AV) (_n : Nat) (charset0 : Int) (code1 : Int) (t2 : List Int) (room3 : Int) (n9 : Int) : Option AV :=
  bif (decide (n9 ≤ ((List.length t2 : Nat) : Int))) then
    bif (((decide ((0 : Int) ≤ ((0 : Nat) : Int))) && (decide (((0 : Nat) : Int) ≤ n9))) && (decide (n9 ≤ ((List.length t2 : Nat) : Int)))) then
      bif ((ref30_Fits_ok charset0 code1 (List.drop (Int.toNat ((0 : Nat) : Int)) (List.take (Int.toNat n9) t2)) room3) && true) then
        bif (!(ref30_Fits charset0 code1 (List.drop (Int.toNat ((0 : Nat) : Int)) (List.take (Int.toNat n9) t2)) room3)) then
          ret (IntKind.wrap .i64 (n9 - (1 : Int)))
        else
          next charset0 code1 t2 room3 (IntKind.wrap .i64 (n9 + (1 : Int)))
      else none
    else none
  else
    k0 t2
def ref30_Prefix_l2 (ret : Int → Option AV) (k0 : List Int → Option AV) : Nat → Int → Int → List Int → Int → Int → Option AV
  | 0 => fun _ _ _ _ _ => none
  | n + 1 => ref30_Prefix_l2_b ret k0 (ref30_Prefix_l2 ret k0 n) n
def ref30_Prefix_k2_0 (_n : Nat) (t2 : List Int) : Option AV :=
  ref30_Prefix_ret ((List.length t2 : Nat) : Int)
def ref30_Prefix_sh (n : Nat) (charset0 : Int) (code1 : Int) (t2 : List Int) (room3 : Int) : Option AV :=
  ref30_Prefix_l2 ref30_Prefix_ret (ref30_Prefix_k2_0 n) n charset0 code1 t2 room3 (1 : Int)

/-! sheave/sheavelaw30.alive -/

def law30_alive_ret (s0 : Bool) : Option AV := some (.dat .bool s0 none)
def law30_alive_sh (_n : Nat) : Option AV :=
  bif ((ewcost_Len_ok (1 : Int) (2 : Int) ([(97 : Int)] : List Int)) && true) then
    bif ((ewcost_Len_ok (1 : Int) (1 : Int) ([(97 : Int)] : List Int)) && true) then
      bif ((ewcost_Better_ok (1 : Int) ([(97 : Int)] : List Int)) && true) then
        bif (((ewcost_Len (1 : Int) (2 : Int) ([(97 : Int)] : List Int)).1) == (16 : Int)) then
          bif (((ewcost_Len (1 : Int) (2 : Int) ([(97 : Int)] : List Int)).2) == (0 : Int)) then
            bif (((ewcost_Len (1 : Int) (1 : Int) ([(97 : Int)] : List Int)).1) == (19 : Int)) then
              bif (((ewcost_Len (1 : Int) (1 : Int) ([(97 : Int)] : List Int)).2) == (0 : Int)) then
                bif (((ewcost_Better (1 : Int) ([(97 : Int)] : List Int)).1) == (2 : Int)) then
                  bif (((ewcost_Better (1 : Int) ([(97 : Int)] : List Int)).2) == (0 : Int)) then
                    bif ((ewcost_Saved_ok (1 : Int) ([(97 : Int)] : List Int)) && true) then
                      bif ((ewcost_Saved (1 : Int) ([(97 : Int)] : List Int)) == (3 : Int)) then
                        bif ((ewcost_Prefix_ok (1 : Int) (2 : Int) ([(97 : Int), (98 : Int)] : List Int) (16 : Int)) && true) then
                          law30_alive_ret ((ewcost_Prefix (1 : Int) (2 : Int) ([(97 : Int), (98 : Int)] : List Int) (16 : Int)) == (1 : Int))
                        else none
                      else
                        law30_alive_ret false
                    else none
                  else
                    law30_alive_ret false
                else
                  law30_alive_ret false
              else
                law30_alive_ret false
            else
              law30_alive_ret false
          else
            law30_alive_ret false
        else
          law30_alive_ret false
      else none
    else none
  else none

/-! sheave/sheavelaw30.EwcostLens -/

def law30_EwcostLens_ret (s4 : Bool) : Option AV := some (.dat .bool s4 none)
def law30_EwcostLens_sh (_n : Nat) (a0 : Int × (Int × (Int × Unit))) (t1 : List Int) : Option AV :=
  bif (decide ((100 : Int) < ((List.length t1 : Nat) : Int))) then
    law30_EwcostLens_ret law30_alive
  else
    bif ((ewcost_Len_ok a0.1 a0.2.1 t1) && true) then
      bif ((ref30_Len_ok a0.1 a0.2.1 t1) && true) then
        bif ((ewcost_Better_ok a0.1 t1) && true) then
          bif ((ref30_Better_ok a0.1 t1) && true) then
            bif (((ewcost_Len a0.1 a0.2.1 t1).1) == ((ref30_Len a0.1 a0.2.1 t1).1)) then
              bif (((ewcost_Len a0.1 a0.2.1 t1).2) == ((ref30_Len a0.1 a0.2.1 t1).2)) then
                bif (((ewcost_Better a0.1 t1).1) == ((ref30_Better a0.1 t1).1)) then
                  bif (((ewcost_Better a0.1 t1).2) == ((ref30_Better a0.1 t1).2)) then
                    bif ((ewcost_Text_ok a0.1 a0.2.1 t1) && true) then
                      bif ((ref30_Text_ok a0.1 a0.2.1 t1) && true) then
                        bif ((ewcost_Text a0.1 a0.2.1 t1) == (ref30_Text a0.1 a0.2.1 t1)) then
                          bif ((ewcost_Saved_ok a0.1 t1) && true) then
                            bif ((ref30_Text_ok a0.1 (1 : Int) t1) && true) then
                              bif ((ref30_Text_ok a0.1 (2 : Int) t1) && true) then
                                bif ((ewcost_Saved a0.1 t1) == (IntKind.wrap .i64 ((ref30_Text a0.1 (1 : Int) t1) - (ref30_Text a0.1 (2 : Int) t1)))) then
                                  law30_EwcostLens_ret law30_alive
                                else
                                  law30_EwcostLens_ret false
                              else none
                            else none
                          else none
                        else
                          law30_EwcostLens_ret false
                      else none
                    else none
                  else
                    law30_EwcostLens_ret false
                else
                  law30_EwcostLens_ret false
              else
                law30_EwcostLens_ret false
            else
              law30_EwcostLens_ret false
          else none
        else none
      else none
    else none

/-! sheave/sheavelaw30.EwcostFits -/

def law30_EwcostFits_ret (s4 : Bool) : Option AV := some (.dat .bool s4 none)
def law30_EwcostFits_sh (_n : Nat) (a0 : Int × (Int × (Int × Unit))) (t1 : List Int) : Option AV :=
  bif (decide ((60 : Int) < ((List.length t1 : Nat) : Int))) then
    law30_EwcostFits_ret law30_alive
  else
    bif ((ewcost_Fits_ok a0.1 a0.2.1 t1 a0.2.2.1) && true) then
      bif ((ref30_Fits_ok a0.1 a0.2.1 t1 a0.2.2.1) && true) then
        bif ((ewcost_Fits a0.1 a0.2.1 t1 a0.2.2.1) == (ref30_Fits a0.1 a0.2.1 t1 a0.2.2.1)) then
          bif ((ewcost_Prefix_ok a0.1 a0.2.1 t1 a0.2.2.1) && true) then
            bif ((ref30_Prefix_ok a0.1 a0.2.1 t1 a0.2.2.1) && true) then
              bif ((ewcost_Prefix a0.1 a0.2.1 t1 a0.2.2.1) == (ref30_Prefix a0.1 a0.2.1 t1 a0.2.2.1)) then
                law30_EwcostFits_ret law30_alive
              else
                law30_EwcostFits_ret false
            else none
          else none
        else
          law30_EwcostFits_ret false
      else none
    else none

/-! sheave/sheavelaw30.EwcostLaid -/

def law30_EwcostLaid_ret (s4 : Bool) : Option AV := some (.dat .bool s4 none)
def law30_EwcostLaid_sh (_n : Nat) (a0 : Int × (Int × (Int × Unit))) (t1 : List Int) : Option AV :=
  bif (decide ((100 : Int) < ((List.length t1 : Nat) : Int))) then
    law30_EwcostLaid_ret law30_alive
  else
    bif ((ewcost_Len_ok a0.1 a0.2.1 t1) && true) then
      bif (((ewcost_Len a0.1 a0.2.1 t1).2) != (0 : Int)) then
        bif (((ewcost_Len a0.1 a0.2.1 t1).1) == (0 : Int)) then
          bif ((ewcost_Fits_ok a0.1 a0.2.1 t1 a0.2.2.1) && true) then
            bif (!(ewcost_Fits a0.1 a0.2.1 t1 a0.2.2.1)) then
              law30_EwcostLaid_ret law30_alive
            else
              law30_EwcostLaid_ret false
          else none
        else
          law30_EwcostLaid_ret false
      else
        bif ((ref13_Lay_ok a0.1 t1) && true) then
          bif ((ref29_Lay_ok a0.1 a0.2.1 ((ref13_Lay a0.1 t1).1)) && true) then
            bif ((ewcost_Fits_ok a0.1 a0.2.1 t1 a0.2.2.1) && true) then
              bif (ewcost_Fits a0.1 a0.2.1 t1 a0.2.2.1) then
                bif (((ref29_Lay a0.1 a0.2.1 ((ref13_Lay a0.1 t1).1)).2) != (0 : Int)) then
                  law30_EwcostLaid_ret false
                else
                  bif (((List.length ((ref29_Lay a0.1 a0.2.1 ((ref13_Lay a0.1 t1).1)).1) : Nat) : Int) != ((ewcost_Len a0.1 a0.2.1 t1).1)) then
                    law30_EwcostLaid_ret false
                  else
                    bif (decide (a0.2.2.1 < ((ewcost_Len a0.1 a0.2.1 t1).1))) then
                      law30_EwcostLaid_ret false
                    else
                      bif (((ref29_Lay a0.1 a0.2.1 ((ref13_Lay a0.1 t1).1)).2) != (0 : Int)) then
                        law30_EwcostLaid_ret law30_alive
                      else
                        bif (((List.length ((ref29_Lay a0.1 a0.2.1 ((ref13_Lay a0.1 t1).1)).1) : Nat) : Int) == ((ewcost_Len a0.1 a0.2.1 t1).1)) then
                          law30_EwcostLaid_ret law30_alive
                        else
                          law30_EwcostLaid_ret false
              else
                bif (((ref29_Lay a0.1 a0.2.1 ((ref13_Lay a0.1 t1).1)).2) != (0 : Int)) then
                  law30_EwcostLaid_ret law30_alive
                else
                  bif (((List.length ((ref29_Lay a0.1 a0.2.1 ((ref13_Lay a0.1 t1).1)).1) : Nat) : Int) == ((ewcost_Len a0.1 a0.2.1 t1).1)) then
                    law30_EwcostLaid_ret law30_alive
                  else
                    law30_EwcostLaid_ret false
            else none
          else none
        else none
    else none

/-! sheave/sheavelaw30.EwcostRises -/

def law30_EwcostRises_ret (s4 : Bool) : Option AV := some (.dat .bool s4 none)
def law30_EwcostRises_l5_b (ret : Bool → Option AV) (k0 : List Int → Int × (Int × (Int × Unit)) → Option AV) (next : List Int → Int × (Int × (Int × Unit)) → Int → Int → Int → Option AV) (_n : Nat) (t1 : List Int) (a2 : Int × (Int × (Int × Unit))) (last5 : Int) (s15 : Int) (s16 : Int) : Option AV :=
  bif (decide (s16 < s15)) then
    bif (((decide ((0 : Int) ≤ ((0 : Nat) : Int))) && (decide (((0 : Nat) : Int) ≤ (IntKind.wrap .i64 (s16 + (1 : Int)))))) && (decide ((IntKind.wrap .i64 (s16 + (1 : Int))) ≤ ((List.length t1 : Nat) : Int)))) then
      bif ((ewcost_Len_ok a2.1 a2.2.1 (List.drop (Int.toNat ((0 : Nat) : Int)) (List.take (Int.toNat (IntKind.wrap .i64 (s16 + (1 : Int)))) t1))) && true) then
        bif (((ewcost_Len a2.1 a2.2.1 (List.drop (Int.toNat ((0 : Nat) : Int)) (List.take (Int.toNat (IntKind.wrap .i64 (s16 + (1 : Int)))) t1))).2) != (0 : Int)) then
          k0 t1 a2
        else
          bif (decide (((ewcost_Len a2.1 a2.2.1 (List.drop (Int.toNat ((0 : Nat) : Int)) (List.take (Int.toNat (IntKind.wrap .i64 (s16 + (1 : Int)))) t1))).1) < last5)) then
            ret false
          else
            next t1 a2 ((ewcost_Len a2.1 a2.2.1 (List.drop (Int.toNat ((0 : Nat) : Int)) (List.take (Int.toNat (IntKind.wrap .i64 (s16 + (1 : Int)))) t1))).1) s15 (IntKind.wrap .i64 (s16 + (1 : Int)))
      else none
    else none
  else
    k0 t1 a2
def law30_EwcostRises_l5 (ret : Bool → Option AV) (k0 : List Int → Int × (Int × (Int × Unit)) → Option AV) : Nat → List Int → Int × (Int × (Int × Unit)) → Int → Int → Int → Option AV
  | 0 => fun _ _ _ _ _ => none
  | n + 1 => law30_EwcostRises_l5_b ret k0 (law30_EwcostRises_l5 ret k0 n) n
def law30_EwcostRises_k5_0 (_n : Nat) (t1 : List Int) (a2 : Int × (Int × (Int × Unit))) : Option AV :=
  bif ((ewcost_Prefix_ok a2.1 a2.2.1 t1 a2.2.2.1) && true) then
    bif (decide ((ewcost_Prefix a2.1 a2.2.1 t1 a2.2.2.1) < (0 : Int))) then
      law30_EwcostRises_ret false
    else
      bif (decide (((List.length t1 : Nat) : Int) < (ewcost_Prefix a2.1 a2.2.1 t1 a2.2.2.1))) then
        law30_EwcostRises_ret false
      else
        bif (decide ((0 : Int) < (ewcost_Prefix a2.1 a2.2.1 t1 a2.2.2.1))) then
          bif (((decide ((0 : Int) ≤ ((0 : Nat) : Int))) && (decide (((0 : Nat) : Int) ≤ (ewcost_Prefix a2.1 a2.2.1 t1 a2.2.2.1)))) && (decide ((ewcost_Prefix a2.1 a2.2.1 t1 a2.2.2.1) ≤ ((List.length t1 : Nat) : Int)))) then
            bif ((ewcost_Fits_ok a2.1 a2.2.1 (List.drop (Int.toNat ((0 : Nat) : Int)) (List.take (Int.toNat (ewcost_Prefix a2.1 a2.2.1 t1 a2.2.2.1)) t1)) a2.2.2.1) && true) then
              bif (!(ewcost_Fits a2.1 a2.2.1 (List.drop (Int.toNat ((0 : Nat) : Int)) (List.take (Int.toNat (ewcost_Prefix a2.1 a2.2.1 t1 a2.2.2.1)) t1)) a2.2.2.1)) then
                law30_EwcostRises_ret false
              else
                bif ((ewcost_Prefix a2.1 a2.2.1 t1 a2.2.2.1) == ((List.length t1 : Nat) : Int)) then
                  law30_EwcostRises_ret law30_alive
                else
                  bif (((decide ((0 : Int) ≤ ((0 : Nat) : Int))) && (decide (((0 : Nat) : Int) ≤ (IntKind.wrap .i64 ((ewcost_Prefix a2.1 a2.2.1 t1 a2.2.2.1) + (1 : Int)))))) && (decide ((IntKind.wrap .i64 ((ewcost_Prefix a2.1 a2.2.1 t1 a2.2.2.1) + (1 : Int))) ≤ ((List.length t1 : Nat) : Int)))) then
                    bif ((ewcost_Fits_ok a2.1 a2.2.1 (List.drop (Int.toNat ((0 : Nat) : Int)) (List.take (Int.toNat (IntKind.wrap .i64 ((ewcost_Prefix a2.1 a2.2.1 t1 a2.2.2.1) + (1 : Int)))) t1)) a2.2.2.1) && true) then
                      bif (!(ewcost_Fits a2.1 a2.2.1 (List.drop (Int.toNat ((0 : Nat) : Int)) (List.take (Int.toNat (IntKind.wrap .i64 ((ewcost_Prefix a2.1 a2.2.1 t1 a2.2.2.1) + (1 : Int)))) t1)) a2.2.2.1)) then
                        law30_EwcostRises_ret law30_alive
                      else
                        law30_EwcostRises_ret false
                    else none
                  else none
            else none
          else none
        else
          bif ((ewcost_Prefix a2.1 a2.2.1 t1 a2.2.2.1) == ((List.length t1 : Nat) : Int)) then
            law30_EwcostRises_ret law30_alive
          else
            bif (((decide ((0 : Int) ≤ ((0 : Nat) : Int))) && (decide (((0 : Nat) : Int) ≤ (IntKind.wrap .i64 ((ewcost_Prefix a2.1 a2.2.1 t1 a2.2.2.1) + (1 : Int)))))) && (decide ((IntKind.wrap .i64 ((ewcost_Prefix a2.1 a2.2.1 t1 a2.2.2.1) + (1 : Int))) ≤ ((List.length t1 : Nat) : Int)))) then
              bif ((ewcost_Fits_ok a2.1 a2.2.1 (List.drop (Int.toNat ((0 : Nat) : Int)) (List.take (Int.toNat (IntKind.wrap .i64 ((ewcost_Prefix a2.1 a2.2.1 t1 a2.2.2.1) + (1 : Int)))) t1)) a2.2.2.1) && true) then
                bif (!(ewcost_Fits a2.1 a2.2.1 (List.drop (Int.toNat ((0 : Nat) : Int)) (List.take (Int.toNat (IntKind.wrap .i64 ((ewcost_Prefix a2.1 a2.2.1 t1 a2.2.2.1) + (1 : Int)))) t1)) a2.2.2.1)) then
                  law30_EwcostRises_ret law30_alive
                else
                  law30_EwcostRises_ret false
              else none
            else none
  else none
def law30_EwcostRises_sh (n : Nat) (a0 : Int × (Int × (Int × Unit))) (t1 : List Int) : Option AV :=
  bif (decide ((60 : Int) < ((List.length t1 : Nat) : Int))) then
    law30_EwcostRises_ret law30_alive
  else
    law30_EwcostRises_l5 law30_EwcostRises_ret (law30_EwcostRises_k5_0 n) n t1 a0 (0 : Int) ((List.length t1 : Nat) : Int) (0 : Int)
end
end Go.Av
