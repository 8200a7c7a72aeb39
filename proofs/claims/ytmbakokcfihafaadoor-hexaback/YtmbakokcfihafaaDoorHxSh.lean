import Derived.Test.YtmbakokcfihafaaDoorHxM
namespace Go.Av
set_option linter.unusedVariables false

/-! sheave/hexa.Digit -/

def hexa_Digit_ret (s2 : UInt8) : Option AV := some (.dat .byte s2 none)
def hexa_Digit_sh (_n : Nat) (n0 : Int) : Option AV :=
  bif ((decide ((0 : Int) ≤ (bits .and .i64 n0 (15 : Int)))) && (decide ((bits .and .i64 n0 (15 : Int)) < (List.length ([48, 49, 50, 51, 52, 53, 54, 55, 56, 57, 65, 66, 67, 68, 69, 70] : List UInt8) : Nat)))) then
    hexa_Digit_ret (List.getD ([48, 49, 50, 51, 52, 53, 54, 55, 56, 57, 65, 66, 67, 68, 69, 70] : List UInt8) (Int.toNat (bits .and .i64 n0 (15 : Int))) (0 : UInt8))
  else none

/-! sheave/sheaveref02.Digit -/

def ref02_Digit_ret (s2 : UInt8) : Option AV := some (.dat .byte s2 none)
def ref02_Digit_sh (_n : Nat) (n0 : Int) : Option AV :=
  bif (decide ((Int.tmod (IntKind.wrap .i64 ((Int.tmod n0 (16 : Int)) + (16 : Int))) (16 : Int)) < (10 : Int))) then
    ref02_Digit_ret (UInt8.ofNat (Int.toNat (IntKind.wrap .u8 (IntKind.wrap .i64 ((48 : Int) + (Int.tmod (IntKind.wrap .i64 ((Int.tmod n0 (16 : Int)) + (16 : Int))) (16 : Int)))))))
  else
    ref02_Digit_ret (UInt8.ofNat (Int.toNat (IntKind.wrap .u8 (IntKind.wrap .i64 ((IntKind.wrap .i64 ((65 : Int) + (Int.tmod (IntKind.wrap .i64 ((Int.tmod n0 (16 : Int)) + (16 : Int))) (16 : Int)))) - (10 : Int))))))

/-! sheave/octet.Lower -/

def octet_Lower_ret (s2 : UInt8) : Option AV := some (.dat .byte s2 none)
def octet_Lower_sh (_n : Nat) (c0 : UInt8) : Option AV :=
  bif (decide ((65 : UInt8) ≤ c0)) then
    bif (decide (c0 ≤ (90 : UInt8))) then
      octet_Lower_ret (c0 ||| (32 : UInt8))
    else
      octet_Lower_ret c0
  else
    octet_Lower_ret c0

/-! sheave/sheaveref01.Lower -/

def ref01_Lower_ret (s2 : UInt8) : Option AV := some (.dat .byte s2 none)
def ref01_Lower_sh (_n : Nat) (c0 : UInt8) : Option AV :=
  bif (decide ((65 : UInt8) ≤ c0)) then
    bif (decide (c0 ≤ (90 : UInt8))) then
      ref01_Lower_ret (c0 + (32 : UInt8))
    else
      ref01_Lower_ret c0
  else
    ref01_Lower_ret c0

/-! sheave/sheaveref01.Like -/

def ref01_Like_ret (s4 : Bool) : Option AV := some (.dat .bool s4 none)
def ref01_Like_l4_b (ret : Bool → Option AV) (k0 : Option AV) (next : List UInt8 → List UInt8 → Int → Option AV) (_n : Nat) (a0 : List UInt8) (b1 : List UInt8) (i5 : Int) : Option AV :=
  bif (decide (i5 < ((List.length a0 : Nat) : Int))) then
    bif ((decide ((0 : Int) ≤ i5)) && (decide (i5 < (List.length a0 : Nat)))) then
      bif ((decide ((0 : Int) ≤ i5)) && (decide (i5 < (List.length b1 : Nat)))) then
        bif ((List.getD a0 (Int.toNat i5) (0 : UInt8)) != (List.getD b1 (Int.toNat i5) (0 : UInt8))) then
          ret false
        else
          next a0 b1 (IntKind.wrap .i64 (i5 + (1 : Int)))
      else none
    else none
  else
    k0
def ref01_Like_l4 (ret : Bool → Option AV) (k0 : Option AV) : Nat → List UInt8 → List UInt8 → Int → Option AV
  | 0 => fun _ _ _ => none
  | n + 1 => ref01_Like_l4_b ret k0 (ref01_Like_l4 ret k0 n) n
def ref01_Like_k4_0 (_n : Nat) : Option AV :=
  ref01_Like_ret true
def ref01_Like_sh (n : Nat) (a0 : List UInt8) (b1 : List UInt8) : Option AV :=
  bif (((List.length a0 : Nat) : Int) != ((List.length b1 : Nat) : Int)) then
    ref01_Like_ret false
  else
    ref01_Like_l4 ref01_Like_ret (ref01_Like_k4_0 n) n a0 b1 (0 : Int)

/-! bytes.shouldUseASCIISet -/

def bytes_shouldUseASCIISet_ret (s2 : Bool) : Option AV := some (.dat .bool s2 none)
def bytes_shouldUseASCIISet_sh (_n : Nat) (bufLen0 : Int) : Option AV :=
  bytes_shouldUseASCIISet_ret (decide ((8 : Int) < bufLen0))

/-! bytes.makeASCIISet -/

def bytes_makeASCIISet_ret (as2 : List Bool) (ok3 : Bool) : Option AV := some (.tup [(.dat (.arr 256 .bool) as2 none), (.dat .bool ok3 none)])
def bytes_makeASCIISet_l2_b (ret : List Bool → Bool → Option AV) (k0 : List Bool → Option AV) (next : List UInt8 → List Bool → Int → Option AV) (_n : Nat) (chars0 : List UInt8) (as2 : List Bool) (i4 : Int) : Option AV :=
  bif (decide (i4 < ((List.length chars0 : Nat) : Int))) then
    bif ((decide ((0 : Int) ≤ i4)) && (decide (i4 < (List.length chars0 : Nat)))) then
      bif (decide ((128 : UInt8) ≤ (List.getD chars0 (Int.toNat i4) (0 : UInt8)))) then
        ret as2 false
      else
        bif ((decide ((0 : Int) ≤ ((UInt8.toNat (List.getD chars0 (Int.toNat i4) (0 : UInt8)) : Nat) : Int))) && (decide (((UInt8.toNat (List.getD chars0 (Int.toNat i4) (0 : UInt8)) : Nat) : Int) < (256 : Nat)))) then
          next chars0 (List.set as2 (Int.toNat ((UInt8.toNat (List.getD chars0 (Int.toNat i4) (0 : UInt8)) : Nat) : Int)) true) (IntKind.wrap .i64 (i4 + (1 : Int)))
        else none
    else none
  else
    k0 as2
def bytes_makeASCIISet_l2 (ret : List Bool → Bool → Option AV) (k0 : List Bool → Option AV) : Nat → List UInt8 → List Bool → Int → Option AV
  | 0 => fun _ _ _ => none
  | n + 1 => bytes_makeASCIISet_l2_b ret k0 (bytes_makeASCIISet_l2 ret k0 n) n
def bytes_makeASCIISet_k2_0 (_n : Nat) (as2 : List Bool) : Option AV :=
  bytes_makeASCIISet_ret as2 true
def bytes_makeASCIISet_sh (n : Nat) (chars0 : List UInt8) : Option AV :=
  bytes_makeASCIISet_l2 bytes_makeASCIISet_ret (bytes_makeASCIISet_k2_0 n) n chars0 (List.replicate 256 false) (0 : Int)

/-! (*bytes.asciiSet).contains -/

def __bytes_asciiSet__contains_ret (s4 : Bool) : Option AV := some (.dat .bool s4 none)
def __bytes_asciiSet__contains_sh (_n : Nat) (as0 : List Bool) (c1 : UInt8) : Option AV :=
  bif ((decide ((0 : Int) ≤ ((UInt8.toNat c1 : Nat) : Int))) && (decide (((UInt8.toNat c1 : Nat) : Int) < (256 : Nat)))) then
    __bytes_asciiSet__contains_ret (List.getD as0 (Int.toNat ((UInt8.toNat c1 : Nat) : Int)) false)
  else none

/-! sheave/octet.plain -/

def octet_plain_ret (s2 : Int) : Option AV := some (.dat (.int .i64) s2 none)
def octet_plain_sh (_n : Nat) (c0 : UInt8) : Option AV :=
  bif (decide (c0 < (32 : UInt8))) then
    bif (c0 == (32 : UInt8)) then
      octet_plain_ret (bits .or .i64 (bits .or .i64 (0 : Int) (1 : Int)) (2 : Int))
    else
      bif (c0 == (9 : UInt8)) then
        octet_plain_ret (bits .or .i64 (bits .or .i64 (0 : Int) (1 : Int)) (2 : Int))
      else
        bif (decide ((48 : UInt8) ≤ c0)) then
          bif (decide (c0 ≤ (57 : UInt8))) then
            octet_plain_ret (bits .or .i64 (bits .or .i64 (0 : Int) (1 : Int)) (648 : Int))
          else
            bif (decide ((65 : UInt8) ≤ c0)) then
              bif (decide (c0 ≤ (90 : UInt8))) then
                bif (decide (c0 ≤ (90 : UInt8))) then
                  octet_plain_ret (bits .or .i64 (bits .or .i64 (0 : Int) (1 : Int)) (656 : Int))
                else
                  octet_plain_ret (bits .or .i64 (0 : Int) (1 : Int))
              else
                bif (decide ((97 : UInt8) ≤ c0)) then
                  bif (decide (c0 ≤ (122 : UInt8))) then
                    octet_plain_ret (bits .or .i64 (bits .or .i64 (0 : Int) (1 : Int)) (656 : Int))
                  else
                    octet_plain_ret (bits .or .i64 (0 : Int) (1 : Int))
                else
                  octet_plain_ret (bits .or .i64 (0 : Int) (1 : Int))
            else
              bif (decide ((97 : UInt8) ≤ c0)) then
                bif (decide (c0 ≤ (122 : UInt8))) then
                  octet_plain_ret (bits .or .i64 (bits .or .i64 (0 : Int) (1 : Int)) (656 : Int))
                else
                  octet_plain_ret (bits .or .i64 (0 : Int) (1 : Int))
              else
                octet_plain_ret (bits .or .i64 (0 : Int) (1 : Int))
        else
          bif (decide ((65 : UInt8) ≤ c0)) then
            bif (decide (c0 ≤ (90 : UInt8))) then
              bif (decide (c0 ≤ (90 : UInt8))) then
                octet_plain_ret (bits .or .i64 (bits .or .i64 (0 : Int) (1 : Int)) (656 : Int))
              else
                octet_plain_ret (bits .or .i64 (0 : Int) (1 : Int))
            else
              bif (decide ((97 : UInt8) ≤ c0)) then
                bif (decide (c0 ≤ (122 : UInt8))) then
                  octet_plain_ret (bits .or .i64 (bits .or .i64 (0 : Int) (1 : Int)) (656 : Int))
                else
                  octet_plain_ret (bits .or .i64 (0 : Int) (1 : Int))
              else
                octet_plain_ret (bits .or .i64 (0 : Int) (1 : Int))
          else
            bif (decide ((97 : UInt8) ≤ c0)) then
              bif (decide (c0 ≤ (122 : UInt8))) then
                octet_plain_ret (bits .or .i64 (bits .or .i64 (0 : Int) (1 : Int)) (656 : Int))
              else
                octet_plain_ret (bits .or .i64 (0 : Int) (1 : Int))
            else
              octet_plain_ret (bits .or .i64 (0 : Int) (1 : Int))
  else
    bif (c0 == (127 : UInt8)) then
      bif (c0 == (32 : UInt8)) then
        octet_plain_ret (bits .or .i64 (bits .or .i64 (0 : Int) (1 : Int)) (2 : Int))
      else
        bif (c0 == (9 : UInt8)) then
          octet_plain_ret (bits .or .i64 (bits .or .i64 (0 : Int) (1 : Int)) (2 : Int))
        else
          bif (decide ((48 : UInt8) ≤ c0)) then
            bif (decide (c0 ≤ (57 : UInt8))) then
              octet_plain_ret (bits .or .i64 (bits .or .i64 (0 : Int) (1 : Int)) (648 : Int))
            else
              bif (decide ((65 : UInt8) ≤ c0)) then
                bif (decide (c0 ≤ (90 : UInt8))) then
                  bif (decide (c0 ≤ (90 : UInt8))) then
                    octet_plain_ret (bits .or .i64 (bits .or .i64 (0 : Int) (1 : Int)) (656 : Int))
                  else
                    octet_plain_ret (bits .or .i64 (0 : Int) (1 : Int))
                else
                  bif (decide ((97 : UInt8) ≤ c0)) then
                    bif (decide (c0 ≤ (122 : UInt8))) then
                      octet_plain_ret (bits .or .i64 (bits .or .i64 (0 : Int) (1 : Int)) (656 : Int))
                    else
                      octet_plain_ret (bits .or .i64 (0 : Int) (1 : Int))
                  else
                    octet_plain_ret (bits .or .i64 (0 : Int) (1 : Int))
              else
                bif (decide ((97 : UInt8) ≤ c0)) then
                  bif (decide (c0 ≤ (122 : UInt8))) then
                    octet_plain_ret (bits .or .i64 (bits .or .i64 (0 : Int) (1 : Int)) (656 : Int))
                  else
                    octet_plain_ret (bits .or .i64 (0 : Int) (1 : Int))
                else
                  octet_plain_ret (bits .or .i64 (0 : Int) (1 : Int))
          else
            bif (decide ((65 : UInt8) ≤ c0)) then
              bif (decide (c0 ≤ (90 : UInt8))) then
                bif (decide (c0 ≤ (90 : UInt8))) then
                  octet_plain_ret (bits .or .i64 (bits .or .i64 (0 : Int) (1 : Int)) (656 : Int))
                else
                  octet_plain_ret (bits .or .i64 (0 : Int) (1 : Int))
              else
                bif (decide ((97 : UInt8) ≤ c0)) then
                  bif (decide (c0 ≤ (122 : UInt8))) then
                    octet_plain_ret (bits .or .i64 (bits .or .i64 (0 : Int) (1 : Int)) (656 : Int))
                  else
                    octet_plain_ret (bits .or .i64 (0 : Int) (1 : Int))
                else
                  octet_plain_ret (bits .or .i64 (0 : Int) (1 : Int))
            else
              bif (decide ((97 : UInt8) ≤ c0)) then
                bif (decide (c0 ≤ (122 : UInt8))) then
                  octet_plain_ret (bits .or .i64 (bits .or .i64 (0 : Int) (1 : Int)) (656 : Int))
                else
                  octet_plain_ret (bits .or .i64 (0 : Int) (1 : Int))
              else
                octet_plain_ret (bits .or .i64 (0 : Int) (1 : Int))
    else
      bif (c0 == (32 : UInt8)) then
        octet_plain_ret (bits .or .i64 (0 : Int) (2 : Int))
      else
        bif (c0 == (9 : UInt8)) then
          octet_plain_ret (bits .or .i64 (0 : Int) (2 : Int))
        else
          bif (decide ((48 : UInt8) ≤ c0)) then
            bif (decide (c0 ≤ (57 : UInt8))) then
              octet_plain_ret (bits .or .i64 (0 : Int) (648 : Int))
            else
              bif (decide ((65 : UInt8) ≤ c0)) then
                bif (decide (c0 ≤ (90 : UInt8))) then
                  bif (decide (c0 ≤ (90 : UInt8))) then
                    octet_plain_ret (bits .or .i64 (0 : Int) (656 : Int))
                  else
                    octet_plain_ret (0 : Int)
                else
                  bif (decide ((97 : UInt8) ≤ c0)) then
                    bif (decide (c0 ≤ (122 : UInt8))) then
                      octet_plain_ret (bits .or .i64 (0 : Int) (656 : Int))
                    else
                      octet_plain_ret (0 : Int)
                  else
                    octet_plain_ret (0 : Int)
              else
                bif (decide ((97 : UInt8) ≤ c0)) then
                  bif (decide (c0 ≤ (122 : UInt8))) then
                    octet_plain_ret (bits .or .i64 (0 : Int) (656 : Int))
                  else
                    octet_plain_ret (0 : Int)
                else
                  octet_plain_ret (0 : Int)
          else
            bif (decide ((65 : UInt8) ≤ c0)) then
              bif (decide (c0 ≤ (90 : UInt8))) then
                bif (decide (c0 ≤ (90 : UInt8))) then
                  octet_plain_ret (bits .or .i64 (0 : Int) (656 : Int))
                else
                  octet_plain_ret (0 : Int)
              else
                bif (decide ((97 : UInt8) ≤ c0)) then
                  bif (decide (c0 ≤ (122 : UInt8))) then
                    octet_plain_ret (bits .or .i64 (0 : Int) (656 : Int))
                  else
                    octet_plain_ret (0 : Int)
                else
                  octet_plain_ret (0 : Int)
            else
              bif (decide ((97 : UInt8) ≤ c0)) then
                bif (decide (c0 ≤ (122 : UInt8))) then
                  octet_plain_ret (bits .or .i64 (0 : Int) (656 : Int))
                else
                  octet_plain_ret (0 : Int)
              else
                octet_plain_ret (0 : Int)

/-! internal/stringslite.IndexByte -/

def internal_stringslite_IndexByte_ret (s4 : Int) : Option AV := some (.dat (.int .i64) s4 none)
def internal_stringslite_IndexByte_sh (_n : Nat) (s0 : List UInt8) (c1 : UInt8) : Option AV :=
  internal_stringslite_IndexByte_ret (internal_bytealg_IndexByteString s0 c1)

/-! strings.IndexByte -/

def strings_IndexByte_ret (s4 : Int) : Option AV := some (.dat (.int .i64) s4 none)
def strings_IndexByte_sh (_n : Nat) (s0 : List UInt8) (c1 : UInt8) : Option AV :=
  strings_IndexByte_ret (internal_stringslite_IndexByte s0 c1)

/-! sheave/octet.in -/

def octet_in_ret (s4 : Bool) : Option AV := some (.dat .bool s4 none)
def octet_in_sh (_n : Nat) (s0 : List UInt8) (c1 : UInt8) : Option AV :=
  octet_in_ret (decide ((0 : Int) ≤ (strings_IndexByte s0 c1)))

/-! sheave/octet.Kinds -/

def octet_Kinds_ret (s2 : Int) : Option AV := some (.dat (.int .i64) s2 none)
def octet_Kinds_sh (_n : Nat) (c0 : UInt8) : Option AV :=
  bif (decide (c0 < (33 : UInt8))) then
    octet_Kinds_ret (octet_plain c0)
  else
    bif (decide ((126 : UInt8) < c0)) then
      octet_Kinds_ret (octet_plain c0)
    else
      bif (octet_in ([33, 42, 43, 45, 47] : List UInt8) c0) then
        bif (octet_in ([43, 47] : List UInt8) c0) then
          bif (octet_in ([40, 41, 60, 62, 64, 44, 59, 58, 92, 34, 47, 91, 93, 63, 61] : List UInt8) c0) then
            octet_Kinds_ret (bits .or .i64 (bits .or .i64 (bits .or .i64 (bits .or .i64 (octet_plain c0) (4 : Int)) (128 : Int)) (512 : Int)) (32 : Int))
          else
            bif (!(octet_in ([42, 39, 37] : List UInt8) c0)) then
              octet_Kinds_ret (bits .or .i64 (bits .or .i64 (bits .or .i64 (bits .or .i64 (bits .or .i64 (octet_plain c0) (4 : Int)) (128 : Int)) (512 : Int)) (64 : Int)) (256 : Int))
            else
              octet_Kinds_ret (bits .or .i64 (bits .or .i64 (bits .or .i64 (bits .or .i64 (octet_plain c0) (4 : Int)) (128 : Int)) (512 : Int)) (64 : Int))
        else
          bif (octet_in ([40, 41, 60, 62, 64, 44, 59, 58, 92, 34, 47, 91, 93, 63, 61] : List UInt8) c0) then
            octet_Kinds_ret (bits .or .i64 (bits .or .i64 (bits .or .i64 (octet_plain c0) (4 : Int)) (128 : Int)) (32 : Int))
          else
            bif (!(octet_in ([42, 39, 37] : List UInt8) c0)) then
              octet_Kinds_ret (bits .or .i64 (bits .or .i64 (bits .or .i64 (bits .or .i64 (octet_plain c0) (4 : Int)) (128 : Int)) (64 : Int)) (256 : Int))
            else
              octet_Kinds_ret (bits .or .i64 (bits .or .i64 (bits .or .i64 (octet_plain c0) (4 : Int)) (128 : Int)) (64 : Int))
      else
        bif (octet_in ([43, 47] : List UInt8) c0) then
          bif (octet_in ([40, 41, 60, 62, 64, 44, 59, 58, 92, 34, 47, 91, 93, 63, 61] : List UInt8) c0) then
            octet_Kinds_ret (bits .or .i64 (bits .or .i64 (bits .or .i64 (octet_plain c0) (4 : Int)) (512 : Int)) (32 : Int))
          else
            bif (!(octet_in ([42, 39, 37] : List UInt8) c0)) then
              octet_Kinds_ret (bits .or .i64 (bits .or .i64 (bits .or .i64 (bits .or .i64 (octet_plain c0) (4 : Int)) (512 : Int)) (64 : Int)) (256 : Int))
            else
              octet_Kinds_ret (bits .or .i64 (bits .or .i64 (bits .or .i64 (octet_plain c0) (4 : Int)) (512 : Int)) (64 : Int))
        else
          bif (octet_in ([40, 41, 60, 62, 64, 44, 59, 58, 92, 34, 47, 91, 93, 63, 61] : List UInt8) c0) then
            octet_Kinds_ret (bits .or .i64 (bits .or .i64 (octet_plain c0) (4 : Int)) (32 : Int))
          else
            bif (!(octet_in ([42, 39, 37] : List UInt8) c0)) then
              octet_Kinds_ret (bits .or .i64 (bits .or .i64 (bits .or .i64 (octet_plain c0) (4 : Int)) (64 : Int)) (256 : Int))
            else
              octet_Kinds_ret (bits .or .i64 (bits .or .i64 (octet_plain c0) (4 : Int)) (64 : Int))

/-! sheave/octet.Is -/

def octet_Is_ret (s4 : Bool) : Option AV := some (.dat .bool s4 none)
def octet_Is_sh (_n : Nat) (c0 : UInt8) (kinds1 : Int) : Option AV :=
  octet_Is_ret ((bits .and .i64 (octet_Kinds c0) kinds1) != (0 : Int))

/-! sheave/hexa.Value -/

def hexa_Value_ret (s2 : Int) (s3 : Bool) : Option AV := some (.tup [(.dat (.int .i64) s2 none), (.dat .bool s3 none)])
def hexa_Value_sh (_n : Nat) (c0 : UInt8) : Option AV :=
  bif (octet_Is (octet_Lower c0) (8 : Int)) then
    hexa_Value_ret (IntKind.wrap .i64 ((UInt8.toNat ((octet_Lower c0) - (48 : UInt8)) : Nat) : Int)) true
  else
    bif (decide ((97 : UInt8) ≤ (octet_Lower c0))) then
      bif (decide ((octet_Lower c0) ≤ (102 : UInt8))) then
        hexa_Value_ret (IntKind.wrap .i64 ((IntKind.wrap .i64 ((UInt8.toNat ((octet_Lower c0) - (97 : UInt8)) : Nat) : Int)) + (10 : Int))) true
      else
        hexa_Value_ret (0 : Int) false
    else
      hexa_Value_ret (0 : Int) false

/-! sheave/sheaveref02.Value -/

def ref02_Value_ret (s2 : Int) (s3 : Bool) : Option AV := some (.tup [(.dat (.int .i64) s2 none), (.dat .bool s3 none)])
def ref02_Value_l2_b (ret : Int → Bool → Option AV) (k0 : Option AV) (next : UInt8 → Int → Option AV) (_n : Nat) (c0 : UInt8) (n4 : Int) : Option AV :=
  bif (decide (n4 < (16 : Int))) then
    bif ((ref02_Digit_ok n4) && true) then
      bif ((ref02_Digit n4) == c0) then
        ret n4 true
      else
        bif (decide ((10 : Int) ≤ n4)) then
          bif ((ref02_Digit_ok n4) && true) then
            bif (((ref02_Digit n4) + (32 : UInt8)) == c0) then
              ret n4 true
            else
              next c0 (IntKind.wrap .i64 (n4 + (1 : Int)))
          else none
        else
          next c0 (IntKind.wrap .i64 (n4 + (1 : Int)))
    else none
  else
    k0
def ref02_Value_l2 (ret : Int → Bool → Option AV) (k0 : Option AV) : Nat → UInt8 → Int → Option AV
  | 0 => fun _ _ => none
  | n + 1 => ref02_Value_l2_b ret k0 (ref02_Value_l2 ret k0 n) n
def ref02_Value_k2_0 (_n : Nat) : Option AV :=
  ref02_Value_ret (0 : Int) false
def ref02_Value_sh (n : Nat) (c0 : UInt8) : Option AV :=
  ref02_Value_l2 ref02_Value_ret (ref02_Value_k2_0 n) n c0 (0 : Int)

/-! sheave/hexa.pair -/

def hexa_pair_ret (s4 : UInt8) (s5 : Bool) : Option AV := some (.tup [(.dat .byte s4 none), (.dat .bool s5 none)])
def hexa_pair_sh (_n : Nat) (a0 : UInt8) (b1 : UInt8) : Option AV :=
  bif (!((hexa_Value a0).2)) then
    hexa_pair_ret (0 : UInt8) false
  else
    bif (!((hexa_Value b1).2)) then
      hexa_pair_ret (0 : UInt8) false
    else
      hexa_pair_ret (UInt8.ofNat (Int.toNat (IntKind.wrap .u8 (bits .or .i64 (IntKind.wrap .i64 (((hexa_Value a0).1) * 2 ^ (min (Int.toNat (4 : Int)) (IntKind.bits .i64)))) ((hexa_Value b1).1))))) true

/-! sheave/hexa.Take -/

def hexa_Take_ret (s6 : UInt8) (s7 : Bool) : Option AV := some (.tup [(.dat .byte s6 none), (.dat .bool s7 none)])
def hexa_Take_sh (_n : Nat) (s0 : List UInt8) (at1 : Int) (sign2 : UInt8) : Option AV :=
  bif (decide (at1 < (0 : Int))) then
    hexa_Take_ret (0 : UInt8) false
  else
    bif (decide ((IntKind.wrap .i64 (((List.length s0 : Nat) : Int) - (3 : Int))) < at1)) then
      hexa_Take_ret (0 : UInt8) false
    else
      bif ((decide ((0 : Int) ≤ at1)) && (decide (at1 < (List.length s0 : Nat)))) then
        bif ((List.getD s0 (Int.toNat at1) (0 : UInt8)) != sign2) then
          hexa_Take_ret (0 : UInt8) false
        else
          bif ((decide ((0 : Int) ≤ (IntKind.wrap .i64 (at1 + (1 : Int))))) && (decide ((IntKind.wrap .i64 (at1 + (1 : Int))) < (List.length s0 : Nat)))) then
            bif ((decide ((0 : Int) ≤ (IntKind.wrap .i64 (at1 + (2 : Int))))) && (decide ((IntKind.wrap .i64 (at1 + (2 : Int))) < (List.length s0 : Nat)))) then
              hexa_Take_ret ((hexa_pair (List.getD s0 (Int.toNat (IntKind.wrap .i64 (at1 + (1 : Int)))) (0 : UInt8)) (List.getD s0 (Int.toNat (IntKind.wrap .i64 (at1 + (2 : Int)))) (0 : UInt8))).1) ((hexa_pair (List.getD s0 (Int.toNat (IntKind.wrap .i64 (at1 + (1 : Int)))) (0 : UInt8)) (List.getD s0 (Int.toNat (IntKind.wrap .i64 (at1 + (2 : Int)))) (0 : UInt8))).2)
            else none
          else none
      else none

/-! sheave/sheaveref02.Take -/

def ref02_Take_ret (s6 : UInt8) (s7 : Bool) : Option AV := some (.tup [(.dat .byte s6 none), (.dat .bool s7 none)])
def ref02_Take_sh (_n : Nat) (s0 : List UInt8) (at1 : Int) (sign2 : UInt8) : Option AV :=
  bif (decide (at1 < (0 : Int))) then
    ref02_Take_ret (0 : UInt8) false
  else
    bif (decide ((IntKind.wrap .i64 (((List.length s0 : Nat) : Int) - (3 : Int))) < at1)) then
      ref02_Take_ret (0 : UInt8) false
    else
      bif ((decide ((0 : Int) ≤ at1)) && (decide (at1 < (List.length s0 : Nat)))) then
        bif ((List.getD s0 (Int.toNat at1) (0 : UInt8)) != sign2) then
          ref02_Take_ret (0 : UInt8) false
        else
          bif ((decide ((0 : Int) ≤ (IntKind.wrap .i64 (at1 + (1 : Int))))) && (decide ((IntKind.wrap .i64 (at1 + (1 : Int))) < (List.length s0 : Nat)))) then
            bif ((decide ((0 : Int) ≤ (IntKind.wrap .i64 (at1 + (2 : Int))))) && (decide ((IntKind.wrap .i64 (at1 + (2 : Int))) < (List.length s0 : Nat)))) then
              bif (!((ref02_Value (List.getD s0 (Int.toNat (IntKind.wrap .i64 (at1 + (1 : Int)))) (0 : UInt8))).2)) then
                ref02_Take_ret (0 : UInt8) false
              else
                bif (!((ref02_Value (List.getD s0 (Int.toNat (IntKind.wrap .i64 (at1 + (2 : Int)))) (0 : UInt8))).2)) then
                  ref02_Take_ret (0 : UInt8) false
                else
                  ref02_Take_ret (UInt8.ofNat (Int.toNat (IntKind.wrap .u8 (IntKind.wrap .i64 ((IntKind.wrap .i64 ((16 : Int) * ((ref02_Value (List.getD s0 (Int.toNat (IntKind.wrap .i64 (at1 + (1 : Int)))) (0 : UInt8))).1))) + ((ref02_Value (List.getD s0 (Int.toNat (IntKind.wrap .i64 (at1 + (2 : Int)))) (0 : UInt8))).1)))))) true
            else none
          else none
      else none

/-! sheave/hexa.both -/

def hexa_both_ret (s2 : List UInt8) : Option AV := some (.dat (.sl .byte) s2 (some (2, 5)))
def hexa_both_sh (_n : Nat) (c0 : UInt8) : Option AV :=
  bif ((hexa_Digit_ok (IntKind.wrap .i64 ((UInt8.toNat (UInt8.ofNat (UInt8.toNat c0 / 2 ^ (min (Int.toNat (4 : Int)) 8))) : Nat) : Int))) && true) then
    bif ((hexa_Digit_ok (IntKind.wrap .i64 ((UInt8.toNat c0 : Nat) : Int))) && true) then
      hexa_both_ret ([(hexa_Digit (IntKind.wrap .i64 ((UInt8.toNat (UInt8.ofNat (UInt8.toNat c0 / 2 ^ (min (Int.toNat (4 : Int)) 8))) : Nat) : Int))), (hexa_Digit (IntKind.wrap .i64 ((UInt8.toNat c0 : Nat) : Int)))] : List UInt8)
    else none
  else none

/-! sheave/hexa.Put -/

def hexa_Put_ret (s6 : List UInt8) : Option AV := some (.dat (.sl .byte) s6 (some (6, 5)))
def hexa_Put_sh (_n : Nat) (b0 : List UInt8) (sign1 : UInt8) (c2 : UInt8) : Option AV :=
  bif ((bytes_Clone_ok b0) && true) then
    bif (decide (List.length (bytes_Clone b0) + List.length ([sign1] : List UInt8) ≤ room)) then
      bif (decide (List.length ((bytes_Clone b0) ++ ([sign1] : List UInt8)) + List.length (hexa_both c2) ≤ room)) then
        hexa_Put_ret (((bytes_Clone b0) ++ ([sign1] : List UInt8)) ++ (hexa_both c2))
      else none
    else none
  else none

/-! sheave/sheaveref02.Put -/

def ref02_Put_ret (s6 : List UInt8) : Option AV := some (.dat (.sl .byte) s6 (some (6, 5)))
def ref02_Put_sh (_n : Nat) (b0 : List UInt8) (sign1 : UInt8) (c2 : UInt8) : Option AV :=
  bif (decide (List.length ([] : List UInt8) + List.length b0 ≤ room)) then
    bif ((ref02_Digit_ok (IntKind.wrap .i64 (Int.tdiv (IntKind.wrap .i64 ((UInt8.toNat c2 : Nat) : Int)) (16 : Int)))) && true) then
      bif ((ref02_Digit_ok (Int.tmod (IntKind.wrap .i64 ((UInt8.toNat c2 : Nat) : Int)) (16 : Int))) && true) then
        bif (decide (List.length (([] : List UInt8) ++ b0) + List.length ([sign1, (ref02_Digit (IntKind.wrap .i64 (Int.tdiv (IntKind.wrap .i64 ((UInt8.toNat c2 : Nat) : Int)) (16 : Int)))), (ref02_Digit (Int.tmod (IntKind.wrap .i64 ((UInt8.toNat c2 : Nat) : Int)) (16 : Int)))] : List UInt8) ≤ room)) then
          ref02_Put_ret ((([] : List UInt8) ++ b0) ++ ([sign1, (ref02_Digit (IntKind.wrap .i64 (Int.tdiv (IntKind.wrap .i64 ((UInt8.toNat c2 : Nat) : Int)) (16 : Int)))), (ref02_Digit (Int.tmod (IntKind.wrap .i64 ((UInt8.toNat c2 : Nat) : Int)) (16 : Int)))] : List UInt8))
        else none
      else none
    else none
  else none

/-! sheave/hexa.Read -/

def hexa_Read_ret (s2 : List UInt8) (s3 : Int) : Option AV := some (.tup [(.dat (.sl .byte) s2 none), (.dat (.int .i64) s3 none)])
def hexa_Read_l2_b (ret : List UInt8 → Int → Option AV) (k0 : List UInt8 → Option AV) (next : List UInt8 → Int → Int → Option AV) (_n : Nat) (s0 : List UInt8) (s12 : Int) (s13 : Int) : Option AV :=
  bif (decide (s13 < s12)) then
    bif ((decide ((0 : Int) ≤ s13)) && (decide (s13 < (List.length s0 : Nat)))) then
      bif (!((hexa_Value (List.getD s0 (Int.toNat s13) (0 : UInt8))).2)) then
        ret ([] : List UInt8) (3 : Int)
      else
        next s0 s12 (IntKind.wrap .i64 (s13 + (1 : Int)))
    else none
  else
    k0 s0
def hexa_Read_l2 (ret : List UInt8 → Int → Option AV) (k0 : List UInt8 → Option AV) : Nat → List UInt8 → Int → Int → Option AV
  | 0 => fun _ _ _ => none
  | n + 1 => hexa_Read_l2_b ret k0 (hexa_Read_l2 ret k0 n) n
def hexa_Read_l12_b (k2 : List UInt8 → Option AV) (next : List UInt8 → List UInt8 → Int → Int → Option AV) (_n : Nat) (s0 : List UInt8) (out7 : List UInt8) (s33 : Int) (s34 : Int) : Option AV :=
  bif (decide (s34 < s33)) then
    bif ((decide ((0 : Int) ≤ (IntKind.wrap .i64 ((2 : Int) * s34)))) && (decide ((IntKind.wrap .i64 ((2 : Int) * s34)) < (List.length s0 : Nat)))) then
      bif ((decide ((0 : Int) ≤ (IntKind.wrap .i64 ((IntKind.wrap .i64 ((2 : Int) * s34)) + (1 : Int))))) && (decide ((IntKind.wrap .i64 ((IntKind.wrap .i64 ((2 : Int) * s34)) + (1 : Int))) < (List.length s0 : Nat)))) then
        bif (decide (List.length out7 + List.length ([((hexa_pair (List.getD s0 (Int.toNat (IntKind.wrap .i64 ((2 : Int) * s34))) (0 : UInt8)) (List.getD s0 (Int.toNat (IntKind.wrap .i64 ((IntKind.wrap .i64 ((2 : Int) * s34)) + (1 : Int)))) (0 : UInt8))).1)] : List UInt8) ≤ room)) then
          next s0 (out7 ++ ([((hexa_pair (List.getD s0 (Int.toNat (IntKind.wrap .i64 ((2 : Int) * s34))) (0 : UInt8)) (List.getD s0 (Int.toNat (IntKind.wrap .i64 ((IntKind.wrap .i64 ((2 : Int) * s34)) + (1 : Int)))) (0 : UInt8))).1)] : List UInt8)) s33 (IntKind.wrap .i64 (s34 + (1 : Int)))
        else none
      else none
    else none
  else
    k2 out7
def hexa_Read_l12 (k2 : List UInt8 → Option AV) : Nat → List UInt8 → List UInt8 → Int → Int → Option AV
  | 0 => fun _ _ _ _ => none
  | n + 1 => hexa_Read_l12_b k2 (hexa_Read_l12 k2 n) n
def hexa_Read_k12_2 (_n : Nat) (out7 : List UInt8) : Option AV :=
  hexa_Read_ret out7 (0 : Int)
def hexa_Read_k2_0 (n : Nat) (s0 : List UInt8) : Option AV :=
  bif ((Int.tmod ((List.length s0 : Nat) : Int) (2 : Int)) != (0 : Int)) then
    hexa_Read_ret ([] : List UInt8) (4 : Int)
  else
    hexa_Read_l12 (hexa_Read_k12_2 n) n s0 ([] : List UInt8) (IntKind.wrap .i64 (Int.tdiv ((List.length s0 : Nat) : Int) (2 : Int))) (0 : Int)
def hexa_Read_sh (n : Nat) (s0 : List UInt8) : Option AV :=
  hexa_Read_l2 hexa_Read_ret (hexa_Read_k2_0 n) n s0 ((List.length s0 : Nat) : Int) (0 : Int)

/-! sheave/sheaveref02.Read -/

def ref02_Read_ret (s2 : List UInt8) (s3 : Int) : Option AV := some (.tup [(.dat (.sl .byte) s2 none), (.dat (.int .i64) s3 none)])
def ref02_Read_l2_b (ret : List UInt8 → Int → Option AV) (k0 : List UInt8 → Option AV) (next : List UInt8 → Int → Option AV) (_n : Nat) (s0 : List UInt8) (i4 : Int) : Option AV :=
  bif (decide (i4 < ((List.length s0 : Nat) : Int))) then
    bif ((decide ((0 : Int) ≤ i4)) && (decide (i4 < (List.length s0 : Nat)))) then
      bif (!((ref02_Value (List.getD s0 (Int.toNat i4) (0 : UInt8))).2)) then
        ret ([] : List UInt8) (3 : Int)
      else
        next s0 (IntKind.wrap .i64 (i4 + (1 : Int)))
    else none
  else
    k0 s0
def ref02_Read_l2 (ret : List UInt8 → Int → Option AV) (k0 : List UInt8 → Option AV) : Nat → List UInt8 → Int → Option AV
  | 0 => fun _ _ => none
  | n + 1 => ref02_Read_l2_b ret k0 (ref02_Read_l2 ret k0 n) n
def ref02_Read_l11_b (k2 : List UInt8 → Option AV) (next : List UInt8 → List UInt8 → Int → Option AV) (_n : Nat) (s0 : List UInt8) (out7 : List UInt8) (i8 : Int) : Option AV :=
  bif (decide (i8 < ((List.length s0 : Nat) : Int))) then
    bif ((decide ((0 : Int) ≤ i8)) && (decide (i8 < (List.length s0 : Nat)))) then
      bif ((decide ((0 : Int) ≤ (IntKind.wrap .i64 (i8 + (1 : Int))))) && (decide ((IntKind.wrap .i64 (i8 + (1 : Int))) < (List.length s0 : Nat)))) then
        bif (decide (List.length out7 + List.length ([(UInt8.ofNat (Int.toNat (IntKind.wrap .u8 (IntKind.wrap .i64 ((IntKind.wrap .i64 ((16 : Int) * ((ref02_Value (List.getD s0 (Int.toNat i8) (0 : UInt8))).1))) + ((ref02_Value (List.getD s0 (Int.toNat (IntKind.wrap .i64 (i8 + (1 : Int)))) (0 : UInt8))).1))))))] : List UInt8) ≤ room)) then
          next s0 (out7 ++ ([(UInt8.ofNat (Int.toNat (IntKind.wrap .u8 (IntKind.wrap .i64 ((IntKind.wrap .i64 ((16 : Int) * ((ref02_Value (List.getD s0 (Int.toNat i8) (0 : UInt8))).1))) + ((ref02_Value (List.getD s0 (Int.toNat (IntKind.wrap .i64 (i8 + (1 : Int)))) (0 : UInt8))).1))))))] : List UInt8)) (IntKind.wrap .i64 (i8 + (2 : Int)))
        else none
      else none
    else none
  else
    k2 out7
def ref02_Read_l11 (k2 : List UInt8 → Option AV) : Nat → List UInt8 → List UInt8 → Int → Option AV
  | 0 => fun _ _ _ => none
  | n + 1 => ref02_Read_l11_b k2 (ref02_Read_l11 k2 n) n
def ref02_Read_k11_2 (_n : Nat) (out7 : List UInt8) : Option AV :=
  ref02_Read_ret out7 (0 : Int)
def ref02_Read_k2_0 (n : Nat) (s0 : List UInt8) : Option AV :=
  bif ((Int.tmod ((List.length s0 : Nat) : Int) (2 : Int)) != (0 : Int)) then
    ref02_Read_ret ([] : List UInt8) (4 : Int)
  else
    ref02_Read_l11 (ref02_Read_k11_2 n) n s0 ([] : List UInt8) (0 : Int)
def ref02_Read_sh (n : Nat) (s0 : List UInt8) : Option AV :=
  ref02_Read_l2 ref02_Read_ret (ref02_Read_k2_0 n) n s0 (0 : Int)

/-! sheave/hexa.Lay -/

def hexa_Lay_ret (s2 : List UInt8) : Option AV := some (.dat (.sl .byte) s2 (some (2, 5)))
def hexa_Lay_l3_b (k0 : List UInt8 → Option AV) (next : List UInt8 → List UInt8 → Int → Int → Option AV) (_n : Nat) (out3 : List UInt8) (s6 : List UInt8) (s7 : Int) (s8 : Int) : Option AV :=
  bif (decide (s8 < s7)) then
    bif ((decide ((0 : Int) ≤ s8)) && (decide (s8 < (List.length s6 : Nat)))) then
      bif (decide (List.length out3 + List.length (hexa_both (List.getD s6 (Int.toNat s8) (0 : UInt8))) ≤ room)) then
        next (out3 ++ (hexa_both (List.getD s6 (Int.toNat s8) (0 : UInt8)))) s6 s7 (IntKind.wrap .i64 (s8 + (1 : Int)))
      else none
    else none
  else
    k0 out3
def hexa_Lay_l3 (k0 : List UInt8 → Option AV) : Nat → List UInt8 → List UInt8 → Int → Int → Option AV
  | 0 => fun _ _ _ _ => none
  | n + 1 => hexa_Lay_l3_b k0 (hexa_Lay_l3 k0 n) n
def hexa_Lay_k3_0 (_n : Nat) (out3 : List UInt8) : Option AV :=
  hexa_Lay_ret out3
def hexa_Lay_sh (n : Nat) (s0 : List UInt8) : Option AV :=
  hexa_Lay_l3 (hexa_Lay_k3_0 n) n ([] : List UInt8) s0 ((List.length s0 : Nat) : Int) (0 : Int)

/-! sheave/sheaveref02.Lay -/

def ref02_Lay_ret (s2 : List UInt8) : Option AV := some (.dat (.sl .byte) s2 (some (2, 5)))
def ref02_Lay_l3_b (k0 : List UInt8 → Option AV) (next : List UInt8 → List UInt8 → Int → Option AV) (_n : Nat) (s0 : List UInt8) (out3 : List UInt8) (i4 : Int) : Option AV :=
  bif (decide (i4 < ((List.length s0 : Nat) : Int))) then
    bif ((decide ((0 : Int) ≤ i4)) && (decide (i4 < (List.length s0 : Nat)))) then
      bif ((decide ((0 : Int) ≤ i4)) && (decide (i4 < (List.length s0 : Nat)))) then
        bif ((ref02_Digit_ok (IntKind.wrap .i64 (Int.tdiv (IntKind.wrap .i64 ((UInt8.toNat (List.getD s0 (Int.toNat i4) (0 : UInt8)) : Nat) : Int)) (16 : Int)))) && true) then
          bif ((ref02_Digit_ok (Int.tmod (IntKind.wrap .i64 ((UInt8.toNat (List.getD s0 (Int.toNat i4) (0 : UInt8)) : Nat) : Int)) (16 : Int))) && true) then
            bif (decide (List.length out3 + List.length ([(ref02_Digit (IntKind.wrap .i64 (Int.tdiv (IntKind.wrap .i64 ((UInt8.toNat (List.getD s0 (Int.toNat i4) (0 : UInt8)) : Nat) : Int)) (16 : Int)))), (ref02_Digit (Int.tmod (IntKind.wrap .i64 ((UInt8.toNat (List.getD s0 (Int.toNat i4) (0 : UInt8)) : Nat) : Int)) (16 : Int)))] : List UInt8) ≤ room)) then
              next s0 (out3 ++ ([(ref02_Digit (IntKind.wrap .i64 (Int.tdiv (IntKind.wrap .i64 ((UInt8.toNat (List.getD s0 (Int.toNat i4) (0 : UInt8)) : Nat) : Int)) (16 : Int)))), (ref02_Digit (Int.tmod (IntKind.wrap .i64 ((UInt8.toNat (List.getD s0 (Int.toNat i4) (0 : UInt8)) : Nat) : Int)) (16 : Int)))] : List UInt8)) (IntKind.wrap .i64 (i4 + (1 : Int)))
            else none
          else none
        else none
      else none
    else none
  else
    k0 out3
def ref02_Lay_l3 (k0 : List UInt8 → Option AV) : Nat → List UInt8 → List UInt8 → Int → Option AV
  | 0 => fun _ _ _ => none
  | n + 1 => ref02_Lay_l3_b k0 (ref02_Lay_l3 k0 n) n
def ref02_Lay_k3_0 (_n : Nat) (out3 : List UInt8) : Option AV :=
  ref02_Lay_ret out3
def ref02_Lay_sh (n : Nat) (s0 : List UInt8) : Option AV :=
  ref02_Lay_l3 (ref02_Lay_k3_0 n) n s0 ([] : List UInt8) (0 : Int)

/-! bytes.IndexAny -/

def bytes_IndexAny_ret (s4 : Int) : Option AV := some (.dat (.int .i64) s4 none)
def bytes_IndexAny_l7_b (m0 : Int) (ret : Int → Option AV) (k0 : Option AV) (next : List UInt8 → Nat → Option AV) (_n : Nat) (s28 : List UInt8) (s28p : Nat) : Option AV :=
  bif (decide (s28p < List.length s28)) then
    bif (decide (s28p < List.length s28)) then
      bif ((decL s28 s28p).1 == (65533 : Int)) then
        ret (0 : Int)
      else
        next s28 (bif (decide (s28p < List.length s28)) then s28p + (decL s28 s28p).2 else s28p)
    else none
  else
    k0
def bytes_IndexAny_l7 (m0 : Int) (ret : Int → Option AV) (k0 : Option AV) : Nat → List UInt8 → Nat → Option AV
  | 0 => fun _ _ => none
  | n + 1 => (bytes_IndexAny_l7_b m0) ret k0 ((bytes_IndexAny_l7 m0) ret k0 n) n
def bytes_IndexAny_k7_0 (m0 : Int) (_n : Nat) : Option AV :=
  bytes_IndexAny_ret (-1 : Int)
def bytes_IndexAny_l24_b (m0 : Int) (ret : Int → Option AV) (k2 : Option AV) (next : List Bool → List UInt8 → Int → Int → Option AV) (_n : Nat) (as7 : List Bool) (s60 : List UInt8) (s61 : Int) (s62 : Int) : Option AV :=
  bif (decide (s62 < s61)) then
    bif ((decide ((0 : Int) ≤ s62)) && (decide (s62 < (List.length s60 : Nat)))) then
      bif (__bytes_asciiSet__contains as7 (List.getD s60 (Int.toNat s62) (0 : UInt8))) then
        ret s62
      else
        next as7 s60 s61 (IntKind.wrap .i64 (s62 + (1 : Int)))
    else none
  else
    k2
def bytes_IndexAny_l24 (m0 : Int) (ret : Int → Option AV) (k2 : Option AV) : Nat → List Bool → List UInt8 → Int → Int → Option AV
  | 0 => fun _ _ _ _ => none
  | n + 1 => (bytes_IndexAny_l24_b m0) ret k2 ((bytes_IndexAny_l24 m0) ret k2 n) n
def bytes_IndexAny_k24_2 (m0 : Int) (_n : Nat) : Option AV :=
  bytes_IndexAny_ret (-1 : Int)
def bytes_IndexAny_l48_b (m0 : Int) (ret : Int → Option AV) (k6 : List UInt8 → List UInt8 → Int → Int → Option AV) (next : List UInt8 → List UInt8 → Int → Int → Int → List UInt8 → Nat → Option AV) (_n : Nat) (s0 : List UInt8) (chars1 : List UInt8) (width11 : Int) (i12 : Int) (r13 : Int) (s121 : List UInt8) (s121p : Nat) : Option AV :=
  bif (decide (s121p < List.length s121)) then
    bif (decide (s121p < List.length s121)) then
      bif (r13 == (decL s121 s121p).1) then
        ret i12
      else
        next s0 chars1 width11 i12 r13 s121 (bif (decide (s121p < List.length s121)) then s121p + (decL s121 s121p).2 else s121p)
    else none
  else
    k6 s0 chars1 width11 i12
def bytes_IndexAny_l48 (m0 : Int) (ret : Int → Option AV) (k6 : List UInt8 → List UInt8 → Int → Int → Option AV) : Nat → List UInt8 → List UInt8 → Int → Int → Int → List UInt8 → Nat → Option AV
  | 0 => fun _ _ _ _ _ _ _ => none
  | n + 1 => (bytes_IndexAny_l48_b m0) ret k6 ((bytes_IndexAny_l48 m0) ret k6 n) n
def bytes_IndexAny_k48_6 (m0 : Int) (_ret : Int → Option AV) (_k4 : Option AV) (next : List UInt8 → List UInt8 → Int → Option AV) (_n : Nat) (s0 : List UInt8) (chars1 : List UInt8) (width11 : Int) (i12 : Int) : Option AV :=
  next s0 chars1 (IntKind.wrap .i64 (i12 + width11))
def bytes_IndexAny_l32_b (m0 : Int) (ret : Int → Option AV) (k4 : Option AV) (next : List UInt8 → List UInt8 → Int → Option AV) (n : Nat) (s0 : List UInt8) (chars1 : List UInt8) (i12 : Int) : Option AV :=
  bif (decide (i12 < ((List.length s0 : Nat) : Int))) then
    bif ((decide ((0 : Int) ≤ i12)) && (decide (i12 < (List.length s0 : Nat)))) then
      bif (decide ((IntKind.wrap .i32 ((UInt8.toNat (List.getD s0 (Int.toNat i12) (0 : UInt8)) : Nat) : Int)) < (128 : Int))) then
        bif ((decide ((0 : Int) ≤ i12)) && (decide (i12 < (List.length s0 : Nat)))) then
          bif (decide ((0 : Int) ≤ (internal_bytealg_IndexByteString chars1 (List.getD s0 (Int.toNat i12) (0 : UInt8))))) then
            ret i12
          else
            next s0 chars1 (IntKind.wrap .i64 (i12 + (1 : Int)))
        else none
      else
        bif (((decide ((0 : Int) ≤ i12)) && (decide (i12 ≤ ((List.length s0 : Nat) : Int)))) && (decide (((List.length s0 : Nat) : Int) ≤ ((List.length s0 : Nat) : Int)))) then
          bif ((unicode_utf8_DecodeRune_ok (List.drop (Int.toNat i12) (List.take (Int.toNat ((List.length s0 : Nat) : Int)) s0))) && true) then
            bif (((unicode_utf8_DecodeRune (List.drop (Int.toNat i12) (List.take (Int.toNat ((List.length s0 : Nat) : Int)) s0))).1) != (65533 : Int)) then
              bif (((List.length chars1 : Nat) : Int) == ((unicode_utf8_DecodeRune (List.drop (Int.toNat i12) (List.take (Int.toNat ((List.length s0 : Nat) : Int)) s0))).2)) then
                bif (chars1 == (Utf8.encode ((unicode_utf8_DecodeRune (List.drop (Int.toNat i12) (List.take (Int.toNat ((List.length s0 : Nat) : Int)) s0))).1)).data.toList) then
                  ret i12
                else
                  next s0 chars1 (IntKind.wrap .i64 (i12 + ((unicode_utf8_DecodeRune (List.drop (Int.toNat i12) (List.take (Int.toNat ((List.length s0 : Nat) : Int)) s0))).2)))
              else
                bif (decide (((unicode_utf8_DecodeRune (List.drop (Int.toNat i12) (List.take (Int.toNat ((List.length s0 : Nat) : Int)) s0))).2) ≤ m0)) then
                  bif ((internal_bytealg_IndexString_ok m0 chars1 (Utf8.encode ((unicode_utf8_DecodeRune (List.drop (Int.toNat i12) (List.take (Int.toNat ((List.length s0 : Nat) : Int)) s0))).1)).data.toList) && true) then
                    bif (decide ((0 : Int) ≤ (internal_bytealg_IndexString chars1 (Utf8.encode ((unicode_utf8_DecodeRune (List.drop (Int.toNat i12) (List.take (Int.toNat ((List.length s0 : Nat) : Int)) s0))).1)).data.toList))) then
                      ret i12
                    else
                      next s0 chars1 (IntKind.wrap .i64 (i12 + ((unicode_utf8_DecodeRune (List.drop (Int.toNat i12) (List.take (Int.toNat ((List.length s0 : Nat) : Int)) s0))).2)))
                  else none
                else
                  (bytes_IndexAny_l48 m0) ret ((bytes_IndexAny_k48_6 m0) ret k4 next n) n s0 chars1 ((unicode_utf8_DecodeRune (List.drop (Int.toNat i12) (List.take (Int.toNat ((List.length s0 : Nat) : Int)) s0))).2) i12 ((unicode_utf8_DecodeRune (List.drop (Int.toNat i12) (List.take (Int.toNat ((List.length s0 : Nat) : Int)) s0))).1) chars1 0
            else
              (bytes_IndexAny_l48 m0) ret ((bytes_IndexAny_k48_6 m0) ret k4 next n) n s0 chars1 ((unicode_utf8_DecodeRune (List.drop (Int.toNat i12) (List.take (Int.toNat ((List.length s0 : Nat) : Int)) s0))).2) i12 ((unicode_utf8_DecodeRune (List.drop (Int.toNat i12) (List.take (Int.toNat ((List.length s0 : Nat) : Int)) s0))).1) chars1 0
          else none
        else none
    else none
  else
    k4
def bytes_IndexAny_l32 (m0 : Int) (ret : Int → Option AV) (k4 : Option AV) : Nat → List UInt8 → List UInt8 → Int → Option AV
  | 0 => fun _ _ _ => none
  | n + 1 => (bytes_IndexAny_l32_b m0) ret k4 ((bytes_IndexAny_l32 m0) ret k4 n) n
def bytes_IndexAny_k32_4 (m0 : Int) (_n : Nat) : Option AV :=
  bytes_IndexAny_ret (-1 : Int)
def bytes_IndexAny_sh (m0 : Int) (n : Nat) (s0 : List UInt8) (chars1 : List UInt8) : Option AV :=
  bif (chars1 == ([] : List UInt8)) then
    bytes_IndexAny_ret (-1 : Int)
  else
    bif (((List.length s0 : Nat) : Int) == (1 : Int)) then
      bif ((decide ((0 : Int) ≤ (0 : Int))) && (decide ((0 : Int) < (List.length s0 : Nat)))) then
        bif (decide ((128 : Int) ≤ (IntKind.wrap .i32 ((UInt8.toNat (List.getD s0 (Int.toNat (0 : Int)) (0 : UInt8)) : Nat) : Int)))) then
          (bytes_IndexAny_l7 m0) bytes_IndexAny_ret ((bytes_IndexAny_k7_0 m0) n) n chars1 0
        else
          bif ((decide ((0 : Int) ≤ (0 : Int))) && (decide ((0 : Int) < (List.length s0 : Nat)))) then
            bif (decide ((0 : Int) ≤ (internal_bytealg_IndexByteString chars1 (List.getD s0 (Int.toNat (0 : Int)) (0 : UInt8))))) then
              bytes_IndexAny_ret (0 : Int)
            else
              bytes_IndexAny_ret (-1 : Int)
          else none
      else none
    else
      bif (((List.length chars1 : Nat) : Int) == (1 : Int)) then
        bif ((decide ((0 : Int) ≤ (0 : Int))) && (decide ((0 : Int) < (List.length chars1 : Nat)))) then
          bif (decide ((128 : Int) ≤ (IntKind.wrap .i32 ((UInt8.toNat (List.getD chars1 (Int.toNat (0 : Int)) (0 : UInt8)) : Nat) : Int)))) then
            bif ((bytes_IndexRune_ok s0 (65533 : Int)) && true) then
              bytes_IndexAny_ret (bytes_IndexRune s0 (65533 : Int))
            else none
          else
            bif ((bytes_IndexRune_ok s0 (IntKind.wrap .i32 ((UInt8.toNat (List.getD chars1 (Int.toNat (0 : Int)) (0 : UInt8)) : Nat) : Int))) && true) then
              bytes_IndexAny_ret (bytes_IndexRune s0 (IntKind.wrap .i32 ((UInt8.toNat (List.getD chars1 (Int.toNat (0 : Int)) (0 : UInt8)) : Nat) : Int)))
            else none
        else none
      else
        bif (bytes_shouldUseASCIISet ((List.length s0 : Nat) : Int)) then
          bif ((bytes_makeASCIISet_ok chars1) && true) then
            bif ((bytes_makeASCIISet chars1).2) then
              (bytes_IndexAny_l24 m0) bytes_IndexAny_ret ((bytes_IndexAny_k24_2 m0) n) n ((bytes_makeASCIISet chars1).1) s0 ((List.length s0 : Nat) : Int) (0 : Int)
            else
              (bytes_IndexAny_l32 m0) bytes_IndexAny_ret ((bytes_IndexAny_k32_4 m0) n) n s0 chars1 (0 : Int)
          else none
        else
          (bytes_IndexAny_l32 m0) bytes_IndexAny_ret ((bytes_IndexAny_k32_4 m0) n) n s0 chars1 (0 : Int)

/-! bytes.ContainsAny -/

def bytes_ContainsAny_ret (s4 : Bool) : Option AV := some (.dat .bool s4 none)
def bytes_ContainsAny_sh (_n : Nat) (b0 : List UInt8) (chars1 : List UInt8) : Option AV :=
  bif ((bytes_IndexAny_ok b0 chars1) && true) then
    bytes_ContainsAny_ret (decide ((0 : Int) ≤ (bytes_IndexAny b0 chars1)))
  else none

/-! sheave/hexa.Capital -/

def hexa_Capital_ret (s2 : Bool) : Option AV := some (.dat .bool s2 none)
def hexa_Capital_sh (_n : Nat) (s0 : List UInt8) : Option AV :=
  bif ((bytes_ContainsAny_ok s0 ([97, 98, 99, 100, 101, 102] : List UInt8)) && true) then
    hexa_Capital_ret (!(bytes_ContainsAny s0 ([97, 98, 99, 100, 101, 102] : List UInt8)))
  else none

/-! sheave/sheaveref01.Fold -/

def ref01_Fold_ret (s2 : List UInt8) : Option AV := some (.dat (.sl .byte) s2 (some (2, 5)))
def ref01_Fold_l3_b (k0 : List UInt8 → Option AV) (next : List UInt8 → List UInt8 → Int → Option AV) (_n : Nat) (s0 : List UInt8) (out3 : List UInt8) (i4 : Int) : Option AV :=
  bif (decide (i4 < ((List.length s0 : Nat) : Int))) then
    bif ((decide ((0 : Int) ≤ i4)) && (decide (i4 < (List.length s0 : Nat)))) then
      bif (decide (List.length out3 + List.length ([(ref01_Lower (List.getD s0 (Int.toNat i4) (0 : UInt8)))] : List UInt8) ≤ room)) then
        next s0 (out3 ++ ([(ref01_Lower (List.getD s0 (Int.toNat i4) (0 : UInt8)))] : List UInt8)) (IntKind.wrap .i64 (i4 + (1 : Int)))
      else none
    else none
  else
    k0 out3
def ref01_Fold_l3 (k0 : List UInt8 → Option AV) : Nat → List UInt8 → List UInt8 → Int → Option AV
  | 0 => fun _ _ _ => none
  | n + 1 => ref01_Fold_l3_b k0 (ref01_Fold_l3 k0 n) n
def ref01_Fold_k3_0 (_n : Nat) (out3 : List UInt8) : Option AV :=
  ref01_Fold_ret out3
def ref01_Fold_sh (n : Nat) (s0 : List UInt8) : Option AV :=
  ref01_Fold_l3 (ref01_Fold_k3_0 n) n s0 ([] : List UInt8) (0 : Int)

/-! sheave/sheavelaw02.alive -/

def law02_alive_ret (s0 : Bool) : Option AV := some (.dat .bool s0 none)
def law02_alive_sh (_n : Nat) : Option AV :=
  bif ((hexa_Put_ok ([] : List UInt8) (61 : UInt8) (10 : UInt8)) && true) then
    bif ((hexa_Take_ok (hexa_Put ([] : List UInt8) (61 : UInt8) (10 : UInt8)) (0 : Int) (61 : UInt8)) && true) then
      bif ((hexa_Put ([] : List UInt8) (61 : UInt8) (10 : UInt8)) == ([61, 48, 65] : List UInt8)) then
        bif (((hexa_Take (hexa_Put ([] : List UInt8) (61 : UInt8) (10 : UInt8)) (0 : Int) (61 : UInt8)).1) == (10 : UInt8)) then
          bif ((hexa_Take (hexa_Put ([] : List UInt8) (61 : UInt8) (10 : UInt8)) (0 : Int) (61 : UInt8)).2) then
            bif ((hexa_Capital_ok (hexa_Put ([] : List UInt8) (61 : UInt8) (10 : UInt8))) && true) then
              bif (hexa_Capital (hexa_Put ([] : List UInt8) (61 : UInt8) (10 : UInt8))) then
                bif ((hexa_Capital_ok ([(97 : UInt8)] : List UInt8)) && true) then
                  law02_alive_ret (!(hexa_Capital ([(97 : UInt8)] : List UInt8)))
                else none
              else
                law02_alive_ret false
            else none
          else
            law02_alive_ret false
        else
          law02_alive_ret false
      else
        law02_alive_ret false
    else none
  else none

/-! sheave/sheavelaw02.HexaDigits -/

def law02_HexaDigits_ret (s4 : Bool) : Option AV := some (.dat .bool s4 none)
def law02_HexaDigits_sh (_n : Nat) (n0 : Int) (c1 : UInt8) : Option AV :=
  bif ((hexa_Digit_ok n0) && true) then
    bif ((ref02_Digit_ok n0) && true) then
      bif ((hexa_Digit n0) == (ref02_Digit n0)) then
        bif (((hexa_Value c1).1) == ((ref02_Value c1).1)) then
          bif (((hexa_Value c1).2) == ((ref02_Value c1).2)) then
            law02_HexaDigits_ret law02_alive
          else
            law02_HexaDigits_ret false
        else
          law02_HexaDigits_ret false
      else
        law02_HexaDigits_ret false
    else none
  else none

/-! sheave/sheavelaw02.HexaEscapes -/

def law02_HexaEscapes_ret (s6 : Bool) : Option AV := some (.dat .bool s6 none)
def law02_HexaEscapes_sh (_n : Nat) (s0 : List UInt8) (at1 : Int) (x2 : List UInt8) : Option AV :=
  bif ((decide ((0 : Int) ≤ (0 : Int))) && (decide ((0 : Int) < (2 : Nat)))) then
    bif ((decide ((0 : Int) ≤ (1 : Int))) && (decide ((1 : Int) < (2 : Nat)))) then
      bif (decide ((1000 : Int) < ((List.length s0 : Nat) : Int))) then
        law02_HexaEscapes_ret law02_alive
      else
        bif ((hexa_Take_ok s0 at1 (List.getD x2 (Int.toNat (0 : Int)) (0 : UInt8))) && true) then
          bif ((ref02_Take_ok s0 at1 (List.getD x2 (Int.toNat (0 : Int)) (0 : UInt8))) && true) then
            bif ((hexa_Put_ok s0 (List.getD x2 (Int.toNat (0 : Int)) (0 : UInt8)) (List.getD x2 (Int.toNat (1 : Int)) (0 : UInt8))) && true) then
              bif ((hexa_Take_ok (hexa_Put s0 (List.getD x2 (Int.toNat (0 : Int)) (0 : UInt8)) (List.getD x2 (Int.toNat (1 : Int)) (0 : UInt8))) ((List.length s0 : Nat) : Int) (List.getD x2 (Int.toNat (0 : Int)) (0 : UInt8))) && true) then
                bif (((hexa_Take s0 at1 (List.getD x2 (Int.toNat (0 : Int)) (0 : UInt8))).1) == ((ref02_Take s0 at1 (List.getD x2 (Int.toNat (0 : Int)) (0 : UInt8))).1)) then
                  bif (((hexa_Take s0 at1 (List.getD x2 (Int.toNat (0 : Int)) (0 : UInt8))).2) == ((ref02_Take s0 at1 (List.getD x2 (Int.toNat (0 : Int)) (0 : UInt8))).2)) then
                    bif ((ref02_Put_ok s0 (List.getD x2 (Int.toNat (0 : Int)) (0 : UInt8)) (List.getD x2 (Int.toNat (1 : Int)) (0 : UInt8))) && true) then
                      bif ((ref01_Like_ok (hexa_Put s0 (List.getD x2 (Int.toNat (0 : Int)) (0 : UInt8)) (List.getD x2 (Int.toNat (1 : Int)) (0 : UInt8))) (ref02_Put s0 (List.getD x2 (Int.toNat (0 : Int)) (0 : UInt8)) (List.getD x2 (Int.toNat (1 : Int)) (0 : UInt8)))) && true) then
                        bif (ref01_Like (hexa_Put s0 (List.getD x2 (Int.toNat (0 : Int)) (0 : UInt8)) (List.getD x2 (Int.toNat (1 : Int)) (0 : UInt8))) (ref02_Put s0 (List.getD x2 (Int.toNat (0 : Int)) (0 : UInt8)) (List.getD x2 (Int.toNat (1 : Int)) (0 : UInt8)))) then
                          bif (((hexa_Take (hexa_Put s0 (List.getD x2 (Int.toNat (0 : Int)) (0 : UInt8)) (List.getD x2 (Int.toNat (1 : Int)) (0 : UInt8))) ((List.length s0 : Nat) : Int) (List.getD x2 (Int.toNat (0 : Int)) (0 : UInt8))).1) == (List.getD x2 (Int.toNat (1 : Int)) (0 : UInt8))) then
                            bif ((hexa_Take (hexa_Put s0 (List.getD x2 (Int.toNat (0 : Int)) (0 : UInt8)) (List.getD x2 (Int.toNat (1 : Int)) (0 : UInt8))) ((List.length s0 : Nat) : Int) (List.getD x2 (Int.toNat (0 : Int)) (0 : UInt8))).2) then
                              law02_HexaEscapes_ret law02_alive
                            else
                              law02_HexaEscapes_ret false
                          else
                            law02_HexaEscapes_ret false
                        else
                          law02_HexaEscapes_ret false
                      else none
                    else none
                  else
                    law02_HexaEscapes_ret false
                else
                  law02_HexaEscapes_ret false
              else none
            else none
          else none
        else none
    else none
  else none

/-! sheave/sheavelaw02.HexaReads -/

def law02_HexaReads_ret (s2 : Bool) : Option AV := some (.dat .bool s2 none)
def law02_HexaReads_l7_b (k0 : List UInt8 → List UInt8 → Int → List UInt8 → Int → Bool → Option AV) (next : List UInt8 → List UInt8 → Int → List UInt8 → Int → Bool → List UInt8 → Int → Int → Option AV) (_n : Nat) (s0 : List UInt8) (a3 : List UInt8) (e4 : Int) (b5 : List UInt8) (f6 : Int) (small7 : Bool) (s24 : List UInt8) (s25 : Int) (s26 : Int) : Option AV :=
  bif (decide (s26 < s25)) then
    bif ((decide ((0 : Int) ≤ s26)) && (decide (s26 < (List.length s24 : Nat)))) then
      bif small7 then
        next s0 a3 e4 b5 f6 true s24 s25 (IntKind.wrap .i64 (s26 + (1 : Int)))
      else
        bif (decide ((97 : UInt8) ≤ (List.getD s24 (Int.toNat s26) (0 : UInt8)))) then
          next s0 a3 e4 b5 f6 (decide ((List.getD s24 (Int.toNat s26) (0 : UInt8)) ≤ (102 : UInt8))) s24 s25 (IntKind.wrap .i64 (s26 + (1 : Int)))
        else
          next s0 a3 e4 b5 f6 false s24 s25 (IntKind.wrap .i64 (s26 + (1 : Int)))
    else none
  else
    k0 s0 a3 e4 b5 f6 small7
def law02_HexaReads_l7 (k0 : List UInt8 → List UInt8 → Int → List UInt8 → Int → Bool → Option AV) : Nat → List UInt8 → List UInt8 → Int → List UInt8 → Int → Bool → List UInt8 → Int → Int → Option AV
  | 0 => fun _ _ _ _ _ _ _ _ _ => none
  | n + 1 => law02_HexaReads_l7_b k0 (law02_HexaReads_l7 k0 n) n
def law02_HexaReads_k7_0 (_n : Nat) (s0 : List UInt8) (a3 : List UInt8) (e4 : Int) (b5 : List UInt8) (f6 : Int) (small7 : Bool) : Option AV :=
  bif ((hexa_Lay_ok s0) && true) then
    bif ((ref02_Lay_ok s0) && true) then
      bif ((ref01_Like_ok (hexa_Lay s0) (ref02_Lay s0)) && true) then
        bif (ref01_Like (hexa_Lay s0) (ref02_Lay s0)) then
          bif ((ref01_Like_ok a3 b5) && true) then
            bif (ref01_Like a3 b5) then
              bif (e4 == f6) then
                bif ((hexa_Capital_ok s0) && true) then
                  bif ((hexa_Capital s0) == (!small7)) then
                    law02_HexaReads_ret law02_alive
                  else
                    law02_HexaReads_ret false
                else none
              else
                law02_HexaReads_ret false
            else
              law02_HexaReads_ret false
          else none
        else
          law02_HexaReads_ret false
      else none
    else none
  else none
def law02_HexaReads_sh (n : Nat) (s0 : List UInt8) : Option AV :=
  bif (decide ((1000 : Int) < ((List.length s0 : Nat) : Int))) then
    law02_HexaReads_ret law02_alive
  else
    bif ((hexa_Read_ok s0) && true) then
      bif ((ref02_Read_ok s0) && true) then
        law02_HexaReads_l7 (law02_HexaReads_k7_0 n) n s0 ((hexa_Read s0).1) ((hexa_Read s0).2) ((ref02_Read s0).1) ((ref02_Read s0).2) false s0 ((List.length s0 : Nat) : Int) (0 : Int)
      else none
    else none

/-! sheave/sheavelaw02.HexaBack -/

def law02_HexaBack_ret (s2 : Bool) : Option AV := some (.dat .bool s2 none)
def law02_HexaBack_sh (_n : Nat) (s0 : List UInt8) : Option AV :=
  bif (decide ((1000 : Int) < ((List.length s0 : Nat) : Int))) then
    law02_HexaBack_ret law02_alive
  else
    bif ((hexa_Lay_ok s0) && true) then
      bif ((hexa_Read_ok (hexa_Lay s0)) && true) then
        bif ((ref01_Like_ok ((hexa_Read (hexa_Lay s0)).1) s0) && true) then
          bif (!(ref01_Like ((hexa_Read (hexa_Lay s0)).1) s0)) then
            law02_HexaBack_ret false
          else
            bif (((hexa_Read (hexa_Lay s0)).2) != (0 : Int)) then
              law02_HexaBack_ret false
            else
              bif ((hexa_Capital_ok (hexa_Lay s0)) && true) then
                bif (!(hexa_Capital (hexa_Lay s0))) then
                  law02_HexaBack_ret false
                else
                  bif (((List.length (hexa_Lay s0) : Nat) : Int) != (IntKind.wrap .i64 ((2 : Int) * ((List.length s0 : Nat) : Int)))) then
                    law02_HexaBack_ret false
                  else
                    bif ((hexa_Read_ok s0) && true) then
                      bif (((hexa_Read s0).2) != (0 : Int)) then
                        bif (((List.length ((hexa_Read s0).1) : Nat) : Int) == (0 : Int)) then
                          law02_HexaBack_ret law02_alive
                        else
                          law02_HexaBack_ret false
                      else
                        bif ((hexa_Lay_ok ((hexa_Read s0).1)) && true) then
                          bif ((ref01_Fold_ok (hexa_Lay ((hexa_Read s0).1))) && true) then
                            bif ((ref01_Fold_ok s0) && true) then
                              bif ((ref01_Like_ok (ref01_Fold (hexa_Lay ((hexa_Read s0).1))) (ref01_Fold s0)) && true) then
                                bif (ref01_Like (ref01_Fold (hexa_Lay ((hexa_Read s0).1))) (ref01_Fold s0)) then
                                  law02_HexaBack_ret law02_alive
                                else
                                  law02_HexaBack_ret false
                              else none
                            else none
                          else none
                        else none
                    else none
              else none
        else none
      else none
    else none
end Go.Av
